-- Written by a program of this session for this claim (the kit's printer with changes).
import Derived.Test.YtopbkdcicidajaaQFnContactsx0
import Derived.Test.YtopbkdcicidajaaQFnContactsx1
import Derived.Test.YtopbkdcicidajaaQFnContactsx5
import Derived.Test.YtopbkdcicidajaaQFnContactsx8
import Derived.Test.YtopbkdcicidajaaQFnContactsx11
import Derived.Test.YtopbkdcicidajaaQFnContactsx12
import Derived.Test.YtopbkdcicidajaaQFnContactsx13
namespace Go.Proofs.Ytopbkdcicidajaa.PFnContacts
open Go.RowKit Go.Proofs.YtopbkdcicidajaaW.PrintWords Go.Proofs.YtopbkdcicidajaaW.PrintLast Go.Proofs.YtopbkdcicidajaaW.PrintMore
attribute [local go_sem] max2_int min2_int max_two min_two max_three min_three max_four min_four   -- for this text's walks alone
set_option linter.unusedVariables false
set_option maxHeartbeats 8000000
set_option maxRecDepth 100000
set_option linter.unusedSimpArgs false

/-! ### laws_FnContacts: function 6 -/
mutual
def laws_FnContacts.l0 : Nat → List Int → Int → Int → Int → Int → List S53 → Int → Int → List S72 → List S74 → Int → Int → Int → Int → Int → List S88 → Int → Option (Bool)
 | 0, _, _, _, _, _, _, _, _, _, _, _, _, _, _, _, _, _ => none
 | k + 1, T, u, x, U, X, m, l, B, D, E, G, I, J, L, M, O, y => if l < (m.length : Int) then (if 0 ≤ l then (laws_FnContacts.l1 k T u x U X m l (wrap64 (((rd_T53 m l).f2) - y)) B D E G I J L M O y) else (none)) else ((spec_DrawPlanOf.f k T).bind fun j => ((impl_PlanOf.f k j.1 j.2.1 j.2.2.1 j.2.2.2.1 j.2.2.2.2.1 j.2.2.2.2.2.1 j.2.2.2.2.2.2.1 j.2.2.2.2.2.2.2.1 j.2.2.2.2.2.2.2.2.1 j.2.2.2.2.2.2.2.2.2.1 j.2.2.2.2.2.2.2.2.2.2.1 j.2.2.2.2.2.2.2.2.2.2.2).bind fun a3 => ((spec_DrawCanSpeak.f k T).bind fun s => ((impl_NodesOf.f j.1 j.2.1 j.2.2.1 j.2.2.2.1 j.2.2.2.2.1 j.2.2.2.2.2.1 j.2.2.2.2.2.2.1 j.2.2.2.2.2.2.2.1 j.2.2.2.2.2.2.2.2.1 j.2.2.2.2.2.2.2.2.2.1).bind fun a4 => ((impl_IsPlan.f k a3 a4).bind fun a5 => (if a5 = true then ((impl_CanSpeak.f k s.1 s.2.1 s.2.2.1 s.2.2.2).bind fun a6 => ((impl_CanSpeak.f k s.1 s.2.2.1 s.2.1 s.2.2.2).bind fun a7 => (some (a6 == a7)))) else (some false)))))))
def laws_FnContacts.l1 : Nat → List Int → Int → Int → Int → Int → List S53 → Int → Int → Int → List S72 → List S74 → Int → Int → Int → Int → Int → List S88 → Int → Option (Bool)
 | 0, _, _, _, _, _, _, _, _, _, _, _, _, _, _, _, _, _, _ => none
 | k + 1, T, u, x, U, X, m, l, z, B, D, E, G, I, J, L, M, O, y => if 0 ≤ l then (if l < (m.length : Int) then (if z < ((rd_T53 m l).f3) then (if z < U then (some false) else (if z ≥ X then (some false) else ((impl_IsSure.f k B D E G I J L M O y u x z).bind fun Y => (if Y = true then ((impl_MayDisturb.f k B D E G I J L M O y u z).bind fun Z => (if Z = true then (some false) else ((impl_MayDisturb.f k B D E G I J L M O y x z).bind fun a0 => (if a0 = true then (some false) else (laws_FnContacts.l1 k T u x U X m l (wrap64 (z + 1)) B D E G I J L M O y))))) else (some false))))) else ((impl_Min.f u x).bind fun a1 => (if ((rd_T53 m l).f0) = a1 then ((impl_Max.f u x).bind fun a2 => (if ((rd_T53 m l).f1) = a2 then (laws_FnContacts.l0 k T u x U X m (wrap64 (l + 1)) B D E G I J L M O y) else (some false))) else (some false)))) else (none)) else (none)
end
def laws_FnContacts.f (k : Nat) (l : List Int) : Option (Bool) := (laws_big.f l).bind fun m => (if m = true then (some true) else ((spec_DrawContactsOf.f k l).bind fun j => ((impl_ContactsOf.f k j.1 j.2.1 j.2.2.1 j.2.2.2.1 j.2.2.2.2.1 j.2.2.2.2.2.1 j.2.2.2.2.2.2.1 j.2.2.2.2.2.2.2.1 j.2.2.2.2.2.2.2.2.1 j.2.2.2.2.2.2.2.2.2.1 j.2.2.2.2.2.2.2.2.2.2.1 j.2.2.2.2.2.2.2.2.2.2.2.1 j.2.2.2.2.2.2.2.2.2.2.2.2.1 j.2.2.2.2.2.2.2.2.2.2.2.2.2).bind fun s => (laws_FnContacts.l0 k l j.2.2.2.2.2.2.2.2.2.2.1 j.2.2.2.2.2.2.2.2.2.2.2.1 j.2.2.2.2.2.2.2.2.2.2.2.2.1 j.2.2.2.2.2.2.2.2.2.2.2.2.2 s 0 j.1 j.2.1 j.2.2.1 j.2.2.2.1 j.2.2.2.2.1 j.2.2.2.2.2.1 j.2.2.2.2.2.2.1 j.2.2.2.2.2.2.2.1 j.2.2.2.2.2.2.2.2.1 j.2.2.2.2.2.2.2.2.2.1))))
def laws_FnContacts.T8 : Bool × List (List Nat × List Nat) := (true, [([], []), ([], []), ([0, 1], [0, 1]), ([2], [2]), ([3], [3]), ([], []), ([5], [5]), ([4, 6], [4, 6]), ([7, 0, 1, 2, 3, 4, 5, 6, 7], [7])])
def laws_FnContacts.B8 : List Nat := [0, 0, 3, 7, 15, 0, 32, 127, 255]
theorem laws_FnContacts.tab8 : rtab .any (opsOf Try.f6 8) = laws_FnContacts.T8 := by kernel_rfl
theorem laws_FnContacts.bits8 : waitsOk laws_FnContacts.T8.2 laws_FnContacts.B8 = true := by kernel_rfl
def laws_FnContacts.T13 : Bool × List (List Nat × List Nat) := (true, [([], []), ([], []), ([0, 1], [0, 1]), ([2], [2]), ([3], [3]), ([], []), ([], []), ([5, 6], [5, 6]), ([4, 7], [4, 7]), ([8, 7], [8]), ([9], [9]), ([9], [9]), ([10, 11, 9], [9, 10, 11]), ([12, 9], [9, 12]), ([13, 9], [9, 13]), ([9], [9]), ([9], [9]), ([15, 16, 9, 9], [9, 15, 16]), ([14, 17, 9], [9, 14, 17]), ([9, 18], [9, 18])])
def laws_FnContacts.B13 : List Nat := [0, 0, 3, 7, 15, 0, 0, 96, 255, 511, 1023, 1023, 4095, 8191, 16383, 1023, 1023, 99327, 262143, 524287]
theorem laws_FnContacts.tab13 : rtab .any (opsOf Try.f6 13) = laws_FnContacts.T13 := by kernel_rfl
theorem laws_FnContacts.bits13 : waitsOk laws_FnContacts.T13.2 laws_FnContacts.B13 = true := by kernel_rfl
theorem laws_FnContacts.calls (k : Nat) (A0 : Option Addr) (c0 : Nat) (l0 : List Int) (r : Bool) (w : World) (hr0 : Kd.C (Kd.int .u8) w A0 l0.length l0) (hc0 : l0.length ≤ c0) (h : laws_FnContacts.f k l0 = some r) (hT_ : r = true := by rfl) :
  Calls Try.prog 6 #[.slice A0 l0.length c0] w fun e w' => e = .returned (.bool r) ∧ Below w.heap.size w w' := by
 have hu28 := Try.underlying28
 have HR0 := Aside0.mk hr0
 have HC0 := Aside0.mk hc0
 clear hr0 hc0
 have HB := Aside0.mk (Below.refl w.heap.size w)
 subst hT_
 have H := h
 clear h
 unfold laws_FnContacts.f at H
 replace H := bs_ H
 obtain ⟨t847, A2, H⟩ := H
 by_cases c3 : t847 = true
 ·subst c3
  try rw [if_pos rfl] at H
  clear H
  go_enter Try.func6, Try.ntmps6
  go_wp2_with (first | ((with_reducible refine gate_callee (f := 8) rfl ?_); refine gl_ 20 Try.func8 (laws_big.calls _ _ l0 true _ (cq_ HR0) HC0.out A2.out) ?_; rintro e w' ⟨rfl, ⟨nd, rfl⟩⟩; refine ⟨_, rfl, ?_⟩))
  go_ret
  exact ⟨by first | (rw [hRT_.out]; rfl) | exact er_, bl_ HB⟩
 ·replace c3 := Bool.eq_false_iff.mpr c3
  subst c3
  have H1 : ((spec_DrawContactsOf.f k l0).bind fun bt848 => ((impl_ContactsOf.f k bt848.1 bt848.2.1 bt848.2.2.1 bt848.2.2.2.1 bt848.2.2.2.2.1 bt848.2.2.2.2.2.1 bt848.2.2.2.2.2.2.1 bt848.2.2.2.2.2.2.2.1 bt848.2.2.2.2.2.2.2.2.1 bt848.2.2.2.2.2.2.2.2.2.1 bt848.2.2.2.2.2.2.2.2.2.2.1 bt848.2.2.2.2.2.2.2.2.2.2.2.1 bt848.2.2.2.2.2.2.2.2.2.2.2.2.1 bt848.2.2.2.2.2.2.2.2.2.2.2.2.2).bind fun t869 => (laws_FnContacts.l0 k l0 bt848.2.2.2.2.2.2.2.2.2.2.1 bt848.2.2.2.2.2.2.2.2.2.2.2.1 bt848.2.2.2.2.2.2.2.2.2.2.2.2.1 bt848.2.2.2.2.2.2.2.2.2.2.2.2.2 t869 0 bt848.1 bt848.2.1 bt848.2.2.1 bt848.2.2.2.1 bt848.2.2.2.2.1 bt848.2.2.2.2.2.1 bt848.2.2.2.2.2.2.1 bt848.2.2.2.2.2.2.2.1 bt848.2.2.2.2.2.2.2.2.1 bt848.2.2.2.2.2.2.2.2.2.1))) = some true := by first | (rw [if_neg (show ¬ (false = true) by decide)] at H; exact H) | rfl
  clear H
  have H := H1
  clear H1
  replace H := bs_ H
  obtain ⟨⟨t848, t849, t852, t855, t856, t857, t858, t859, t860, t863, t864, t865, t866, t867⟩, A4, H⟩ := H
  dsimp only at H
  replace H := bs_ H
  obtain ⟨t869, A5, H⟩ := H
  have H' := Aside0.mk H
  clear H
  go_enter Try.func6, Try.ntmps6
  go_wp2_with (first | ((with_reducible refine gate_callee (f := 8) rfl ?_); refine gl_ 20 Try.func8 (laws_big.calls _ _ l0 false _ (cq_ HR0) HC0.out A2.out) ?_; rintro e w' ⟨rfl, ⟨nd, rfl⟩⟩; refine ⟨_, rfl, ?_⟩) | ((with_reducible refine gate_callee (f := 34) rfl ?_); refine gl_ 23 Try.func34 (spec_DrawContactsOf.calls k _ _ l0 t848 t849 t852 t855 t856 t857 t858 t859 t860 t863 t864 t865 t866 t867 _ (cq_ HR0) HC0.out A4.out) ?_; rintro e w6 ⟨v850, v853, v861, rfl, ho0, ho1, ho2, hb⟩; refine ⟨_, rfl, sh4_ (Kd.R_lower ho0 (below_size (bl_ HB))) (Kd.R_lower ho1 (below_size (bl_ HB))) (Kd.R_lower ho2 (below_size (bl_ HB))) (below_step (bl_ HB) hb) ?_⟩; clear HB hb ho0 ho1 ho2; intro HO851 HO854 HO862 HB) | ((with_reducible refine gd_ 3 ?_); refine bx_ 3 28 #[iv_ 0, .slice none 0 0, .slice none 0 0, iv_ 0, iv_ 0, iv_ 0, iv_ 0, iv_ 0, .slice none 0 0, iv_ 0] ?_; intro gb868 hg w7 hbox hb; refine sh6_ (Kd.R_below (ra_ HO851) hb) (Kd.R_below (ra_ HO854) hb) (Kd.R_below (ra_ HO862) hb) (below_step (bl_ HB) hb) hbox (ge_ hg (bl_ HB)) ?_; clear HO851 HO854 HO862 HB hb hbox hg; intro HO851 HO854 HO862 HB BK868 GE868; have hcz8 := cf10_ BK868; obtain ⟨Ao9, co9, eo9⟩ := Kd.R_slice HO851.out; subst eo9; obtain ⟨Ao10, co10, eo10⟩ := Kd.R_slice HO854.out; subst eo10; obtain ⟨Ao11, co11, eo11⟩ := Kd.R_slice HO862.out; subst eo11) | ((with_reducible refine gate_callee (f := 35) rfl ?_); refine goesL_ (some 34) rfl rfl Try.func35 (by kernel_rfl) rfl #[.agg #[iv_ t848, .slice Ao9 t849.length co9, .slice Ao10 t852.length co10, iv_ t855, iv_ t856, iv_ t857, iv_ t858, iv_ t859, .slice Ao11 t860.length co11, iv_ t863], iv_ t864, iv_ t865, iv_ t866, iv_ t867] rfl mp_ ?_; (with_reducible refine (impl_ContactsOf.calls k t848 _ _ t849 _ _ t852 t855 t856 t857 t858 t859 _ _ t860 t863 t864 t865 t866 t867 t869 _ ?side1 ?side2 ?side3 ?side4 ?side5 ?side6 A5.out).mono ?_); (case side1 => refine (Kd.R_reads' (e := 72) (base := w.heap.size) (ok := fun k_ => True) (n := t849.length) (c := co9) ?_).2.2; exact (by (with_reducible repeat (first | apply Kd.R_alloc | apply Kd.R_drewN | apply Kd.R_drew)); exact (Kd.R_mono (Kd.R_far (p := ⟨gb868, 9, none⟩) (Kd.R_far (p := ⟨gb868, 8, none⟩) (Kd.R_far (p := ⟨gb868, 7, none⟩) (Kd.R_far (p := ⟨gb868, 6, none⟩) (Kd.R_far (p := ⟨gb868, 5, none⟩) (Kd.R_far (p := ⟨gb868, 4, none⟩) (Kd.R_far (p := ⟨gb868, 3, none⟩) (Kd.R_far (p := ⟨gb868, 2, none⟩) (Kd.R_far (p := ⟨gb868, 1, none⟩) (Kd.R_far (p := ⟨gb868, 0, none⟩) (Kd.R_types HO851.out BK868.out (by decide)) (fun _ hk => hk.2) (iv_ t848)) (fun _ hk => hk.2) (.slice Ao9 t849.length co9)) (fun _ hk => hk.2) (.slice Ao10 t852.length co10)) (fun _ hk => hk.2) (iv_ t855)) (fun _ hk => hk.2) (iv_ t856)) (fun _ hk => hk.2) (iv_ t857)) (fun _ hk => hk.2) (iv_ t858)) (fun _ hk => hk.2) (iv_ t859)) (fun _ hk => hk.2) (.slice Ao11 t860.length co11)) (fun _ hk => hk.2) (iv_ t863)) (fun _ h_ => h_.1)))); (case side2 => exact (Kd.R_reads' HO851.out).2.1); (case side3 => refine (Kd.R_reads' (e := 74) (base := w.heap.size) (ok := fun k_ => True) (n := t852.length) (c := co10) ?_).2.2; exact (by (with_reducible repeat (first | apply Kd.R_alloc | apply Kd.R_drewN | apply Kd.R_drew)); exact (Kd.R_mono (Kd.R_far (p := ⟨gb868, 9, none⟩) (Kd.R_far (p := ⟨gb868, 8, none⟩) (Kd.R_far (p := ⟨gb868, 7, none⟩) (Kd.R_far (p := ⟨gb868, 6, none⟩) (Kd.R_far (p := ⟨gb868, 5, none⟩) (Kd.R_far (p := ⟨gb868, 4, none⟩) (Kd.R_far (p := ⟨gb868, 3, none⟩) (Kd.R_far (p := ⟨gb868, 2, none⟩) (Kd.R_far (p := ⟨gb868, 1, none⟩) (Kd.R_far (p := ⟨gb868, 0, none⟩) (Kd.R_types HO854.out BK868.out (by decide)) (fun _ hk => hk.2) (iv_ t848)) (fun _ hk => hk.2) (.slice Ao9 t849.length co9)) (fun _ hk => hk.2) (.slice Ao10 t852.length co10)) (fun _ hk => hk.2) (iv_ t855)) (fun _ hk => hk.2) (iv_ t856)) (fun _ hk => hk.2) (iv_ t857)) (fun _ hk => hk.2) (iv_ t858)) (fun _ hk => hk.2) (iv_ t859)) (fun _ hk => hk.2) (.slice Ao11 t860.length co11)) (fun _ hk => hk.2) (iv_ t863)) (fun _ h_ => h_.1)))); (case side4 => exact (Kd.R_reads' HO854.out).2.1); (case side5 => refine (Kd.R_reads' (e := 88) (base := w.heap.size) (ok := fun k_ => True) (n := t860.length) (c := co11) ?_).2.2; exact (by (with_reducible repeat (first | apply Kd.R_alloc | apply Kd.R_drewN | apply Kd.R_drew)); exact (Kd.R_mono (Kd.R_far (p := ⟨gb868, 9, none⟩) (Kd.R_far (p := ⟨gb868, 8, none⟩) (Kd.R_far (p := ⟨gb868, 7, none⟩) (Kd.R_far (p := ⟨gb868, 6, none⟩) (Kd.R_far (p := ⟨gb868, 5, none⟩) (Kd.R_far (p := ⟨gb868, 4, none⟩) (Kd.R_far (p := ⟨gb868, 3, none⟩) (Kd.R_far (p := ⟨gb868, 2, none⟩) (Kd.R_far (p := ⟨gb868, 1, none⟩) (Kd.R_far (p := ⟨gb868, 0, none⟩) (Kd.R_types HO862.out BK868.out (by decide)) (fun _ hk => hk.2) (iv_ t848)) (fun _ hk => hk.2) (.slice Ao9 t849.length co9)) (fun _ hk => hk.2) (.slice Ao10 t852.length co10)) (fun _ hk => hk.2) (iv_ t855)) (fun _ hk => hk.2) (iv_ t856)) (fun _ hk => hk.2) (iv_ t857)) (fun _ hk => hk.2) (iv_ t858)) (fun _ hk => hk.2) (iv_ t859)) (fun _ hk => hk.2) (.slice Ao11 t860.length co11)) (fun _ hk => hk.2) (iv_ t863)) (fun _ h_ => h_.1)))); (case side6 => exact (Kd.R_reads' HO862.out).2.1); rintro e w12 ⟨v870, rfl, ho0, hb⟩; refine ⟨_, rfl, sh6_ (Kd.R_below (by (with_reducible repeat (first | apply Kd.R_alloc | apply Kd.R_drewN | apply Kd.R_drew)); exact (Kd.R_mono (Kd.R_far (p := ⟨gb868, 9, none⟩) (Kd.R_far (p := ⟨gb868, 8, none⟩) (Kd.R_far (p := ⟨gb868, 7, none⟩) (Kd.R_far (p := ⟨gb868, 6, none⟩) (Kd.R_far (p := ⟨gb868, 5, none⟩) (Kd.R_far (p := ⟨gb868, 4, none⟩) (Kd.R_far (p := ⟨gb868, 3, none⟩) (Kd.R_far (p := ⟨gb868, 2, none⟩) (Kd.R_far (p := ⟨gb868, 1, none⟩) (Kd.R_far (p := ⟨gb868, 0, none⟩) (Kd.R_types HO851.out BK868.out (by decide)) (fun _ hk => hk.2) (iv_ t848)) (fun _ hk => hk.2) (.slice Ao9 t849.length co9)) (fun _ hk => hk.2) (.slice Ao10 t852.length co10)) (fun _ hk => hk.2) (iv_ t855)) (fun _ hk => hk.2) (iv_ t856)) (fun _ hk => hk.2) (iv_ t857)) (fun _ hk => hk.2) (iv_ t858)) (fun _ hk => hk.2) (iv_ t859)) (fun _ hk => hk.2) (.slice Ao11 t860.length co11)) (fun _ hk => hk.2) (iv_ t863)) (fun _ h_ => h_.1))) hb) (Kd.R_below (by (with_reducible repeat (first | apply Kd.R_alloc | apply Kd.R_drewN | apply Kd.R_drew)); exact (Kd.R_mono (Kd.R_far (p := ⟨gb868, 9, none⟩) (Kd.R_far (p := ⟨gb868, 8, none⟩) (Kd.R_far (p := ⟨gb868, 7, none⟩) (Kd.R_far (p := ⟨gb868, 6, none⟩) (Kd.R_far (p := ⟨gb868, 5, none⟩) (Kd.R_far (p := ⟨gb868, 4, none⟩) (Kd.R_far (p := ⟨gb868, 3, none⟩) (Kd.R_far (p := ⟨gb868, 2, none⟩) (Kd.R_far (p := ⟨gb868, 1, none⟩) (Kd.R_far (p := ⟨gb868, 0, none⟩) (Kd.R_types HO854.out BK868.out (by decide)) (fun _ hk => hk.2) (iv_ t848)) (fun _ hk => hk.2) (.slice Ao9 t849.length co9)) (fun _ hk => hk.2) (.slice Ao10 t852.length co10)) (fun _ hk => hk.2) (iv_ t855)) (fun _ hk => hk.2) (iv_ t856)) (fun _ hk => hk.2) (iv_ t857)) (fun _ hk => hk.2) (iv_ t858)) (fun _ hk => hk.2) (iv_ t859)) (fun _ hk => hk.2) (.slice Ao11 t860.length co11)) (fun _ hk => hk.2) (iv_ t863)) (fun _ h_ => h_.1))) hb) (Kd.R_below (by (with_reducible repeat (first | apply Kd.R_alloc | apply Kd.R_drewN | apply Kd.R_drew)); exact (Kd.R_mono (Kd.R_far (p := ⟨gb868, 9, none⟩) (Kd.R_far (p := ⟨gb868, 8, none⟩) (Kd.R_far (p := ⟨gb868, 7, none⟩) (Kd.R_far (p := ⟨gb868, 6, none⟩) (Kd.R_far (p := ⟨gb868, 5, none⟩) (Kd.R_far (p := ⟨gb868, 4, none⟩) (Kd.R_far (p := ⟨gb868, 3, none⟩) (Kd.R_far (p := ⟨gb868, 2, none⟩) (Kd.R_far (p := ⟨gb868, 1, none⟩) (Kd.R_far (p := ⟨gb868, 0, none⟩) (Kd.R_types HO862.out BK868.out (by decide)) (fun _ hk => hk.2) (iv_ t848)) (fun _ hk => hk.2) (.slice Ao9 t849.length co9)) (fun _ hk => hk.2) (.slice Ao10 t852.length co10)) (fun _ hk => hk.2) (iv_ t855)) (fun _ hk => hk.2) (iv_ t856)) (fun _ hk => hk.2) (iv_ t857)) (fun _ hk => hk.2) (iv_ t858)) (fun _ hk => hk.2) (iv_ t859)) (fun _ hk => hk.2) (.slice Ao11 t860.length co11)) (fun _ hk => hk.2) (iv_ t863)) (fun _ h_ => h_.1))) hb) (Kd.R_lower ho0 (below_size (bl1_ HB GE868))) (blk_below (g := gb868) (o := .cells #[iv_ t848, .slice Ao9 t849.length co9, .slice Ao10 t852.length co10, iv_ t855, iv_ t856, iv_ t857, iv_ t858, iv_ t859, .slice Ao11 t860.length co11, iv_ t863] 28 (0, 0)) (bp_ BK868) hb) (below_step (bl1_ HB GE868) hb) ?_⟩; clear HO851 HO854 HO862 BK868 HB hb ho0; intro HO851 HO854 HO862 HO871 BK868 HB))
  go_loopg [9] k (fun kq v9 w' => ∃ (x9_1 : Int), v9 = iv_ x9_1 ∧ Aside0 (laws_FnContacts.l0 kq l0 t864 t865 t866 t867 t869 x9_1 t848 t849 t852 t855 t856 t857 t858 t859 t860 t863 = some true) ∧ Aside0 (kq ≤ k) ∧ Aside0 (Kd.R k53 53 w' w.heap.size (fun _ => True) v870 t869) ∧ Aside0 (Kd.R k72 72 w' w.heap.size (fun _ => True) (.slice Ao9 t849.length co9) t849) ∧ Aside0 (Kd.R k74 74 w' w.heap.size (fun _ => True) (.slice Ao10 t852.length co10) t852) ∧ Aside0 (Kd.R k88 88 w' w.heap.size (fun _ => True) (.slice Ao11 t860.length co11) t860) ∧ Aside0 (w'.heap[gb868]? = some (.cells #[iv_ t848, (.slice Ao9 t849.length co9), (.slice Ao10 t852.length co10), iv_ t855, iv_ t856, iv_ t857, iv_ t858, iv_ t859, (.slice Ao11 t860.length co11), iv_ t863] 28 (0, 0))) ∧ Aside0 (Below w.heap.size w w'))
  case atStart => exact ⟨(0), (by first | rfl | (simp; done) | (simp [*]; done)), H', ⟨Nat.le_refl _⟩, ⟨ra_ HO871⟩, ⟨ra_ HO851⟩, ⟨ra_ HO854⟩, ⟨ra_ HO862⟩, ⟨(bk_ BK868)⟩, ⟨bl1_ HB GE868⟩⟩
  case round =>
   clear H'
   obtain ⟨x9_1, rfl, HA, HK1, HO_8, HO_869001, HO_869002, HO_869008, BK868, HB⟩ := hrel
   cases gk with
   | zero => exact absurd HA.out (by simp [laws_FnContacts.l0])
   | succ k1 =>
    have H := HA.out
    clear HA
    simp only [laws_FnContacts.l0] at H
    by_cases c13 : x9_1 < (t869.length : Int)
    ·rw [if_pos c13] at H
     have c13b0 := decide_eq_true c13
     clear c13
     replace H := ifn_ H
     obtain ⟨c14, H⟩ := H
     have c14b0 := decide_eq_true c14
     clear c14
     have H' := Aside0.mk H
     clear H
     obtain ⟨Ao15, co15, eo15⟩ := Kd.R_slice HO_8.out
     subst eo15
     try go_wp2
     refine sh6_ (Kd.R_drew HO_8.out) (Kd.R_drew HO_869001.out) (Kd.R_drew HO_869002.out) (Kd.R_drew HO_869008.out) (blk_drew BK868.out) (below_drew1 HB.out) ?_
     clear HO_8 HO_869001 HO_869002 HO_869008 BK868 HB
     intro HO_8 HO_869001 HO_869002 HO_869008 BK868 HB
     have p872 : 0 ≤ (x9_1 : Int) := od_
     have q872 : x9_1 < (t869.length : Int) := od_
     obtain ⟨ad872, e872, hx872_0, hx872_1, hx872_2, hx872_3⟩ := at_T53 (Kd.R_reads' HO_8.out).2.2 x9_1 p872 q872
     cases e872
     replace p872 := eq_true p872
     replace q872 := eq_true q872
     refine start_ (n := 9) (S := fun w' => Ck10 w' gb868 (iv_ t848) (.slice Ao9 t849.length co9) (.slice Ao10 t852.length co10) (iv_ t855) (iv_ t856) (iv_ t857) (iv_ t858) (iv_ t859) (.slice Ao11 t860.length co11) (iv_ t863) (w'.cell? (ad872.add ((x9_1).toNat * 4)) = some (iv_ ((rd_T53 t869 x9_1).f0)) ∧ w'.cell? ⟨(ad872.add ((x9_1).toNat * 4)).block, (ad872.add ((x9_1).toNat * 4)).off + 1, none⟩ = some (iv_ ((rd_T53 t869 x9_1).f1)) ∧ w'.cell? ⟨(ad872.add ((x9_1).toNat * 4)).block, (ad872.add ((x9_1).toNat * 4)).off + 2, none⟩ = some (iv_ ((rd_T53 t869 x9_1).f2)) ∧ w'.cell? ⟨(ad872.add ((x9_1).toNat * 4)).block, (ad872.add ((x9_1).toNat * 4)).off + 3, none⟩ = some (iv_ ((rd_T53 t869 x9_1).f3)))) (ds := []) (bo_ 9 0) (by kernel_rfl) rfl rfl ⟨(bc_ BK868 0 rfl), (bc_ BK868 1 rfl), (bc_ BK868 2 rfl), (bc_ BK868 3 rfl), (bc_ BK868 4 rfl), (bc_ BK868 5 rfl), (bc_ BK868 6 rfl), (bc_ BK868 7 rfl), (bc_ BK868 8 rfl), (bc_ BK868 9 rfl), hx872_0, hx872_1, hx872_2, hx872_3⟩ (fun hHeld => ?_); refine with_tabW laws_FnContacts.tab8 laws_FnContacts.bits8 (fun HT_ HW_ => ?_)
     generalize wr.drew = w16 at HO_8 HO_869001 HO_869002 HO_869008 BK868 HB hx872_0 hx872_1 hx872_2 hx872_3 hHeld ⊢
     refine pur_ 0 (bo_ 9 1) (some 41) HT_ ?_
     refine pur_ 1 (bo_ 9 3) (some 42) HT_ ?_
     refine pur_ 2 (bo_ 9 7) (some 43) HT_ ?_
     refine pur_ 3 (bo_ 9 15) (some 44) HT_ ?_
     refine pur_ 5 (bo_ 9 47) (some 46) HT_ ?_
     refine tak_ 4 (bo_ 9 63) (some 45) HT_ HW_ hHeld ?_
     refine tak_ 6 (bo_ 9 127) (some 47) HT_ HW_ hHeld ?_
     refine pur_ 7 (bo_ 9 255) (some 48) HT_ ?_
     refine pur_ 8 (bo_ 9 511) (some 10) HT_ ?_
     refine done_ (done_of HT_.out (by kernel_rfl)) ?_
     try go_wp2
     go_loopg [10] k1 (fun kq v10 w' => ∃ (x10_2 : Int), v10 = iv_ x10_2 ∧ Aside0 (laws_FnContacts.l1 kq l0 t864 t865 t866 t867 t869 x9_1 x10_2 t848 t849 t852 t855 t856 t857 t858 t859 t860 t863 = some true) ∧ Aside0 (kq ≤ k1) ∧ Aside0 (Kd.R k53 53 w' w.heap.size (fun _ => True) (.slice (some ad872) t869.length co15) t869) ∧ Aside0 (Kd.R k72 72 w' w.heap.size (fun _ => True) (.slice Ao9 t849.length co9) t849) ∧ Aside0 (Kd.R k74 74 w' w.heap.size (fun _ => True) (.slice Ao10 t852.length co10) t852) ∧ Aside0 (Kd.R k88 88 w' w.heap.size (fun _ => True) (.slice Ao11 t860.length co11) t860) ∧ Aside0 (w'.heap[gb868]? = some (.cells #[iv_ t848, (.slice Ao9 t849.length co9), (.slice Ao10 t852.length co10), iv_ t855, iv_ t856, iv_ t857, iv_ t858, iv_ t859, (.slice Ao11 t860.length co11), iv_ t863] 28 (0, 0))) ∧ Aside0 (Below w.heap.size w w'))
     case atStart => exact ⟨(wrap64 (((rd_T53 t869 x9_1).f2) - t863)), (by first | rfl | (simp; done) | (simp [*]; done)), H', ⟨Nat.le_refl _⟩, ⟨ra_ HO_8⟩, ⟨ra_ HO_869001⟩, ⟨ra_ HO_869002⟩, ⟨ra_ HO_869008⟩, ⟨(bk_ BK868)⟩, ⟨bl1_ HB GE868⟩⟩
     case round =>
      clear H'
      obtain ⟨x10_2, rfl, HA, HK2, HO_8, HO_869001, HO_869002, HO_869008, BK868, HB⟩ := hrel
      cases gk with
      | zero => exact absurd HA.out (by simp [laws_FnContacts.l1])
      | succ k2 =>
       have H := HA.out
       clear HA
       simp only [laws_FnContacts.l1] at H
       replace H := ifn_ H
       obtain ⟨c17, H⟩ := H
       have c17b0 := decide_eq_true c17
       clear c17
       replace H := ifn_ H
       obtain ⟨c18, H⟩ := H
       have c18b0 := decide_eq_true c18
       clear c18
       by_cases c19 : x10_2 < ((rd_T53 t869 x9_1).f3)
       ·rw [if_pos c19] at H
        have c19b0 := decide_eq_true c19
        clear c19
        by_cases c20 : x10_2 < t866
        ·rw [if_pos c20] at H
         have c20b0 := decide_eq_true c20
         clear c20
         exact absurd H (by simp)
        ·rw [if_neg c20] at H
         have c20b0 := decide_eq_false c20
         clear c20
         by_cases c21 : x10_2 ≥ t867
         ·rw [if_pos c21] at H
          have c21b0 : decide (t867 ≤ x10_2) = true := decide_eq_true c21
          clear c21
          exact absurd H (by simp)
         ·rw [if_neg c21] at H
          have c21b0 : decide (t867 ≤ x10_2) = false := decide_eq_false c21
          clear c21
          replace H := bs_ H
          obtain ⟨t874, A22, H⟩ := H
          by_cases c23 : t874 = true
          ·subst c23
           try rw [if_pos rfl] at H
           replace H := bs_ H
           obtain ⟨t875, A24, H⟩ := H
           by_cases c25 : t875 = true
           ·subst c25
            try rw [if_pos rfl] at H
            exact absurd H (by simp)
           ·replace c25 := Bool.eq_false_iff.mpr c25
            subst c25
            have H1 : ((impl_MayDisturb.f k2 t848 t849 t852 t855 t856 t857 t858 t859 t860 t863 t865 x10_2).bind fun t876 => (if t876 = true then (some false) else (laws_FnContacts.l1 k2 l0 t864 t865 t866 t867 t869 x9_1 (wrap64 (x10_2 + 1)) t848 t849 t852 t855 t856 t857 t858 t859 t860 t863))) = some true := by first | (rw [if_neg (show ¬ (false = true) by decide)] at H; exact H) | rfl
            clear H
            have H := H1
            clear H1
            replace H := bs_ H
            obtain ⟨t876, A26, H⟩ := H
            by_cases c27 : t876 = true
            ·subst c27
             try rw [if_pos rfl] at H
             exact absurd H (by simp)
            ·replace c27 := Bool.eq_false_iff.mpr c27
             subst c27
             have H1 : (laws_FnContacts.l1 k2 l0 t864 t865 t866 t867 t869 x9_1 (wrap64 (x10_2 + 1)) t848 t849 t852 t855 t856 t857 t858 t859 t860 t863) = some true := by first | (rw [if_neg (show ¬ (false = true) by decide)] at H; exact H) | rfl
             clear H
             have H := H1
             clear H1
             have H' := Aside0.mk H
             clear H
             have p873 : 0 ≤ (x9_1 : Int) := od_
             have q873 : x9_1 < (t869.length : Int) := od_
             obtain ⟨ad873, e873, hx873_0, hx873_1, hx873_2, hx873_3⟩ := at_T53 (Kd.R_reads' HO_8.out).2.2 x9_1 p873 q873
             obtain rfl : ad872 = ad873 := (by injection e873)
             replace p873 := eq_true p873
             replace q873 := eq_true q873
             have hcz28 := cf10_ BK868
             go_wp2_with (first | (go_at_call 12; (with_reducible refine (impl_IsSure.calls k2 t848 _ _ t849 _ _ t852 t855 t856 t857 t858 t859 _ _ t860 t863 t864 t865 x10_2 true _ ?side1 ?side2 ?side3 ?side4 ?side5 ?side6 A22.out).mono ?_); (case side1 => repeat (first | exact (Kd.R_reads' HO_869001.out).2.2 | (with_reducible refine Kd.C_alloc ?_ _) | (with_reducible refine Kd.C_drewN ?_ _) | (with_reducible refine Kd.C_drew ?_))); (case side2 => exact (Kd.R_reads' HO_869001.out).2.1); (case side3 => repeat (first | exact (Kd.R_reads' HO_869002.out).2.2 | (with_reducible refine Kd.C_alloc ?_ _) | (with_reducible refine Kd.C_drewN ?_ _) | (with_reducible refine Kd.C_drew ?_))); (case side4 => exact (Kd.R_reads' HO_869002.out).2.1); (case side5 => repeat (first | exact (Kd.R_reads' HO_869008.out).2.2 | (with_reducible refine Kd.C_alloc ?_ _) | (with_reducible refine Kd.C_drewN ?_ _) | (with_reducible refine Kd.C_drew ?_))); (case side6 => exact (Kd.R_reads' HO_869008.out).2.1); rintro e w29 ⟨rfl, hb⟩; refine sh6_ (Kd.R_below (ra_ HO_8) hb) (Kd.R_below (ra_ HO_869001) hb) (Kd.R_below (ra_ HO_869002) hb) (Kd.R_below (ra_ HO_869008) hb) (blk_below (bk_ BK868) hb) (below_step (bl1_ HB GE868) hb) ?_; clear HO_8 HO_869001 HO_869002 HO_869008 BK868 HB hb; intro HO_8 HO_869001 HO_869002 HO_869008 BK868 HB; have hcz30 := cf10_ BK868) | (go_at_call 31; (with_reducible refine (impl_MayDisturb.calls k2 t848 _ _ t849 _ _ t852 t855 t856 t857 t858 t859 _ _ t860 t863 t864 x10_2 false _ ?side1 ?side2 ?side3 ?side4 ?side5 ?side6 A24.out).mono ?_); (case side1 => repeat (first | exact (Kd.R_reads' HO_869001.out).2.2 | (with_reducible refine Kd.C_alloc ?_ _) | (with_reducible refine Kd.C_drewN ?_ _) | (with_reducible refine Kd.C_drew ?_))); (case side2 => exact (Kd.R_reads' HO_869001.out).2.1); (case side3 => repeat (first | exact (Kd.R_reads' HO_869002.out).2.2 | (with_reducible refine Kd.C_alloc ?_ _) | (with_reducible refine Kd.C_drewN ?_ _) | (with_reducible refine Kd.C_drew ?_))); (case side4 => exact (Kd.R_reads' HO_869002.out).2.1); (case side5 => repeat (first | exact (Kd.R_reads' HO_869008.out).2.2 | (with_reducible refine Kd.C_alloc ?_ _) | (with_reducible refine Kd.C_drewN ?_ _) | (with_reducible refine Kd.C_drew ?_))); (case side6 => exact (Kd.R_reads' HO_869008.out).2.1); rintro e w31 ⟨rfl, hb⟩; refine sh6_ (Kd.R_below (ra_ HO_8) hb) (Kd.R_below (ra_ HO_869001) hb) (Kd.R_below (ra_ HO_869002) hb) (Kd.R_below (ra_ HO_869008) hb) (blk_below (bk_ BK868) hb) (below_step (bl1_ HB GE868) hb) ?_; clear HO_8 HO_869001 HO_869002 HO_869008 BK868 HB hb; intro HO_8 HO_869001 HO_869002 HO_869008 BK868 HB; have hcz32 := cf10_ BK868) | (go_at_call 31; (with_reducible refine (impl_MayDisturb.calls k2 t848 _ _ t849 _ _ t852 t855 t856 t857 t858 t859 _ _ t860 t863 t865 x10_2 false _ ?side1 ?side2 ?side3 ?side4 ?side5 ?side6 A26.out).mono ?_); (case side1 => repeat (first | exact (Kd.R_reads' HO_869001.out).2.2 | (with_reducible refine Kd.C_alloc ?_ _) | (with_reducible refine Kd.C_drewN ?_ _) | (with_reducible refine Kd.C_drew ?_))); (case side2 => exact (Kd.R_reads' HO_869001.out).2.1); (case side3 => repeat (first | exact (Kd.R_reads' HO_869002.out).2.2 | (with_reducible refine Kd.C_alloc ?_ _) | (with_reducible refine Kd.C_drewN ?_ _) | (with_reducible refine Kd.C_drew ?_))); (case side4 => exact (Kd.R_reads' HO_869002.out).2.1); (case side5 => repeat (first | exact (Kd.R_reads' HO_869008.out).2.2 | (with_reducible refine Kd.C_alloc ?_ _) | (with_reducible refine Kd.C_drewN ?_ _) | (with_reducible refine Kd.C_drew ?_))); (case side6 => exact (Kd.R_reads' HO_869008.out).2.1); rintro e w33 ⟨rfl, hb⟩; refine sh6_ (Kd.R_below (ra_ HO_8) hb) (Kd.R_below (ra_ HO_869001) hb) (Kd.R_below (ra_ HO_869002) hb) (Kd.R_below (ra_ HO_869008) hb) (blk_below (bk_ BK868) hb) (below_step (bl1_ HB GE868) hb) ?_; clear HO_8 HO_869001 HO_869002 HO_869008 BK868 HB hb; intro HO_8 HO_869001 HO_869002 HO_869008 BK868 HB))
             go_roundg k2
             case measure => have := HK1.out; have := HK2.out; omega
             case rel => exact ⟨(wrap64 (x10_2 + 1)), (by first | rfl | (simp; done) | (simp [*]; done)), H', ⟨by have := HK1.out; have := HK2.out; omega⟩, ⟨ra_ HO_8⟩, ⟨ra_ HO_869001⟩, ⟨ra_ HO_869002⟩, ⟨ra_ HO_869008⟩, ⟨(bk_ BK868)⟩, ⟨bl1_ HB GE868⟩⟩
          ·replace c23 := Bool.eq_false_iff.mpr c23
           subst c23
           have H1 : (some false) = some true := by first | (rw [if_neg (show ¬ (false = true) by decide)] at H; exact H) | rfl
           clear H
           have H := H1
           clear H1
           exact absurd H (by simp)
       ·rw [if_neg c19] at H
        have c19b0 : decide (x10_2 < ((rd_T53 t869 x9_1).f3)) = false := decide_eq_false c19
        clear c19
        replace H := bs_ H
        obtain ⟨t878, A34, H⟩ := H
        by_cases c35 : ((rd_T53 t869 x9_1).f0) = t878
        ·rw [if_pos c35] at H
         obtain ⟨c35b0, c35b1⟩ := bt_ c35
         clear c35
         replace H := bs_ H
         obtain ⟨t880, A36, H⟩ := H
         by_cases c37 : ((rd_T53 t869 x9_1).f1) = t880
         ·rw [if_pos c37] at H
          obtain ⟨c37b0, c37b1⟩ := bt_ c37
          clear c37
          have H' := Aside0.mk H
          clear H
          have p873 : 0 ≤ (x9_1 : Int) := od_
          have q873 : x9_1 < (t869.length : Int) := od_
          obtain ⟨ad873, e873, hx873_0, hx873_1, hx873_2, hx873_3⟩ := at_T53 (Kd.R_reads' HO_8.out).2.2 x9_1 p873 q873
          obtain rfl : ad872 = ad873 := (by injection e873)
          replace p873 := eq_true p873
          replace q873 := eq_true q873
          try go_wp2
          refine sh6_ (Kd.R_drew HO_8.out) (Kd.R_drew HO_869001.out) (Kd.R_drew HO_869002.out) (Kd.R_drew HO_869008.out) (blk_drew BK868.out) (below_drew1 HB.out) ?_
          clear HO_8 HO_869001 HO_869002 HO_869008 BK868 HB
          intro HO_8 HO_869001 HO_869002 HO_869008 BK868 HB
          have p877 : 0 ≤ (x9_1 : Int) := od_
          have q877 : x9_1 < (t869.length : Int) := od_
          obtain ⟨ad877, e877, hx877_0, hx877_1, hx877_2, hx877_3⟩ := at_T53 (Kd.R_reads' HO_8.out).2.2 x9_1 p877 q877
          obtain rfl : ad872 = ad877 := (by injection e877)
          replace p877 := eq_true p877
          replace q877 := eq_true q877
          have p879 : 0 ≤ (x9_1 : Int) := od_
          have q879 : x9_1 < (t869.length : Int) := od_
          obtain ⟨ad879, e879, hx879_0, hx879_1, hx879_2, hx879_3⟩ := at_T53 (Kd.R_reads' HO_8.out).2.2 x9_1 p879 q879
          obtain rfl : ad872 = ad879 := (by injection e879)
          replace p879 := eq_true p879
          replace q879 := eq_true q879
          refine start_ (n := 20) (S := fun w' => w'.cell? (ad872.add ((x9_1).toNat * 4)) = some (iv_ ((rd_T53 t869 x9_1).f0)) ∧ w'.cell? ⟨(ad872.add ((x9_1).toNat * 4)).block, (ad872.add ((x9_1).toNat * 4)).off + 1, none⟩ = some (iv_ ((rd_T53 t869 x9_1).f1)) ∧ w'.cell? ⟨(ad872.add ((x9_1).toNat * 4)).block, (ad872.add ((x9_1).toNat * 4)).off + 2, none⟩ = some (iv_ ((rd_T53 t869 x9_1).f2)) ∧ w'.cell? ⟨(ad872.add ((x9_1).toNat * 4)).block, (ad872.add ((x9_1).toNat * 4)).off + 3, none⟩ = some (iv_ ((rd_T53 t869 x9_1).f3)) ∧ w'.cell? (ad872.add ((x9_1).toNat * 4)) = some (iv_ ((rd_T53 t869 x9_1).f0)) ∧ w'.cell? ⟨(ad872.add ((x9_1).toNat * 4)).block, (ad872.add ((x9_1).toNat * 4)).off + 1, none⟩ = some (iv_ ((rd_T53 t869 x9_1).f1)) ∧ w'.cell? ⟨(ad872.add ((x9_1).toNat * 4)).block, (ad872.add ((x9_1).toNat * 4)).off + 2, none⟩ = some (iv_ ((rd_T53 t869 x9_1).f2)) ∧ w'.cell? ⟨(ad872.add ((x9_1).toNat * 4)).block, (ad872.add ((x9_1).toNat * 4)).off + 3, none⟩ = some (iv_ ((rd_T53 t869 x9_1).f3))) (ds := []) (bo_ 20 0) (by kernel_rfl) rfl rfl ⟨hx877_0, hx877_1, hx877_2, hx877_3, hx879_0, hx879_1, hx879_2, hx879_3⟩ (fun hHeld => ?_); refine with_tabW laws_FnContacts.tab13 laws_FnContacts.bits13 (fun HT_ HW_ => ?_)
          generalize wr.drew = w38 at HO_8 HO_869001 HO_869002 HO_869008 BK868 HB hx877_0 hx877_1 hx877_2 hx877_3 hx879_0 hx879_1 hx879_2 hx879_3 hHeld ⊢
          refine pur_ 0 (bo_ 20 1) (some 86) HT_ ?_
          refine pur_ 1 (bo_ 20 3) (some 87) HT_ ?_
          refine pur_ 2 (bo_ 20 7) (some 88) HT_ ?_
          refine pur_ 3 (bo_ 20 15) (some 89) HT_ ?_
          refine pur_ 5 (bo_ 20 47) (some 91) HT_ ?_
          refine pur_ 6 (bo_ 20 111) (some 92) HT_ ?_
          refine tak_ 4 (bo_ 20 127) (some 90) HT_ HW_ hHeld ?_
          refine onc_ 7 (bo_ 20 255) (some 93) HT_ Try.func36 (impl_Min.calls t864 t865 t878 _ A34.out) ?_
          rintro e w39 ⟨rfl, hb⟩
          have HS0_ := (hb.cell (World.block_lt_of_cell? _ _ (hHeld.1))).trans (hHeld.1)
          have HS1_ := (hb.cell (World.block_lt_of_cell? _ _ (hHeld.2.1))).trans (hHeld.2.1)
          have HS2_ := (hb.cell (World.block_lt_of_cell? _ _ (hHeld.2.2.1))).trans (hHeld.2.2.1)
          have HS3_ := (hb.cell (World.block_lt_of_cell? _ _ (hHeld.2.2.2.1))).trans (hHeld.2.2.2.1)
          have HS4_ := (hb.cell (World.block_lt_of_cell? _ _ (hHeld.2.2.2.2.1))).trans (hHeld.2.2.2.2.1)
          have HS5_ := (hb.cell (World.block_lt_of_cell? _ _ (hHeld.2.2.2.2.2.1))).trans (hHeld.2.2.2.2.2.1)
          have HS6_ := (hb.cell (World.block_lt_of_cell? _ _ (hHeld.2.2.2.2.2.2.1))).trans (hHeld.2.2.2.2.2.2.1)
          have HS7_ := (hb.cell (World.block_lt_of_cell? _ _ (hHeld.2.2.2.2.2.2.2))).trans (hHeld.2.2.2.2.2.2.2)
          refine sh6_ (Kd.R_below (ra_ HO_8) hb) (Kd.R_below (ra_ HO_869001) hb) (Kd.R_below (ra_ HO_869002) hb) (Kd.R_below (ra_ HO_869008) hb) (blk_below (bk_ BK868) hb) (below_step (bl1_ HB GE868) hb) ?_
          clear HO_8 HO_869001 HO_869002 HO_869008 BK868 HB
          intro HO_8 HO_869001 HO_869002 HO_869008 BK868 HB
          refine ⟨_, _, rfl, ⟨HS0_, HS1_, HS2_, HS3_, HS4_, HS5_, HS6_, HS7_⟩, pt_, fun hHeld => ?_⟩
          refine pur_ 8 (bo_ 20 511) (some 94) HT_ ?_
          refine pur_ 9 (bo_ 20 1023) (some 95) HT_ ?_
          refine pur_ 10 (bo_ 20 2047) (some 96) HT_ ?_
          refine pur_ 11 (bo_ 20 4095) (some 97) HT_ ?_
          refine pur_ 12 (bo_ 20 8191) (some 98) HT_ ?_
          refine pur_ 13 (bo_ 20 16383) (some 99) HT_ ?_
          refine pur_ 15 (bo_ 20 49151) (some 101) HT_ ?_
          refine pur_ 16 (bo_ 20 114687) (some 102) HT_ ?_
          refine tak_ 14 (bo_ 20 131071) (some 100) HT_ HW_ hHeld ?_
          refine onc_ 17 (bo_ 20 262143) (some 103) HT_ Try.func30 (impl_Max.calls t864 t865 t880 _ A36.out) ?_
          rintro e w40 ⟨rfl, hb⟩
          have HS0_ := (hb.cell (World.block_lt_of_cell? _ _ (hHeld.1))).trans (hHeld.1)
          have HS1_ := (hb.cell (World.block_lt_of_cell? _ _ (hHeld.2.1))).trans (hHeld.2.1)
          have HS2_ := (hb.cell (World.block_lt_of_cell? _ _ (hHeld.2.2.1))).trans (hHeld.2.2.1)
          have HS3_ := (hb.cell (World.block_lt_of_cell? _ _ (hHeld.2.2.2.1))).trans (hHeld.2.2.2.1)
          have HS4_ := (hb.cell (World.block_lt_of_cell? _ _ (hHeld.2.2.2.2.1))).trans (hHeld.2.2.2.2.1)
          have HS5_ := (hb.cell (World.block_lt_of_cell? _ _ (hHeld.2.2.2.2.2.1))).trans (hHeld.2.2.2.2.2.1)
          have HS6_ := (hb.cell (World.block_lt_of_cell? _ _ (hHeld.2.2.2.2.2.2.1))).trans (hHeld.2.2.2.2.2.2.1)
          have HS7_ := (hb.cell (World.block_lt_of_cell? _ _ (hHeld.2.2.2.2.2.2.2))).trans (hHeld.2.2.2.2.2.2.2)
          refine sh6_ (Kd.R_below (ra_ HO_8) hb) (Kd.R_below (ra_ HO_869001) hb) (Kd.R_below (ra_ HO_869002) hb) (Kd.R_below (ra_ HO_869008) hb) (blk_below (bk_ BK868) hb) (below_step (bl1_ HB GE868) hb) ?_
          clear HO_8 HO_869001 HO_869002 HO_869008 BK868 HB
          intro HO_8 HO_869001 HO_869002 HO_869008 BK868 HB
          refine ⟨_, _, rfl, ⟨HS0_, HS1_, HS2_, HS3_, HS4_, HS5_, HS6_, HS7_⟩, pt_, fun hHeld => ?_⟩
          refine pur_ 18 (bo_ 20 524287) (some 104) HT_ ?_
          refine pur_ 19 (bo_ 20 1048575) (some 105) HT_ ?_
          refine done_ (done_of HT_.out (by kernel_rfl)) ?_
          try go_wp2
          go_roundg k2
          case measure => have := HK1.out; have := HK2.out; omega
          case rel => exact ⟨(wrap64 (x9_1 + 1)), (by first | rfl | (simp; done) | (simp [*]; done)), H', ⟨by have := HK1.out; have := HK2.out; omega⟩, ⟨ra_ HO_8⟩, ⟨ra_ HO_869001⟩, ⟨ra_ HO_869002⟩, ⟨ra_ HO_869008⟩, ⟨(bk_ BK868)⟩, ⟨bl1_ HB GE868⟩⟩
         ·rw [if_neg c37] at H
          obtain ⟨c37b0, c37b1⟩ := bn_ c37
          exact absurd H (by simp)
        ·rw [if_neg c35] at H
         obtain ⟨c35b0, c35b1⟩ := bn_ c35
         exact absurd H (by simp)
    ·rw [if_neg c13] at H
     have c13b0 : decide (x9_1 < (t869.length : Int)) = false := decide_eq_false c13
     clear c13
     replace H := bs_ H
     obtain ⟨⟨t881, t882, t885, t888, t889, t890, t891, t892, t893, t896, t897, t898⟩, A41, H⟩ := H
     dsimp only at H
     replace H := bs_ H
     obtain ⟨t900, A42, H⟩ := H
     replace H := bs_ H
     obtain ⟨⟨t903, t904, t905, t906⟩, A43, H⟩ := H
     dsimp only at H
     replace H := bs_ H
     obtain ⟨t909, A44, H⟩ := H
     replace H := bs_ H
     obtain ⟨t910, A45, H⟩ := H
     by_cases c46 : t910 = true
     ·subst c46
      try rw [if_pos rfl] at H
      replace H := bs_ H
      obtain ⟨t911, A47, H⟩ := H
      replace H := bs_ H
      obtain ⟨t912, A48, H⟩ := H
      have hRT_ := Aside0.mk (Option.some.inj H)
      clear H
      obtain ⟨Ao49, co49, eo49⟩ := Kd.R_slice HO_8.out
      subst eo49
      go_wp2_with (first | ((with_reducible refine gate_callee (f := 37) rfl ?_); refine gl_ 108 Try.func37 (spec_DrawPlanOf.calls k1 _ _ l0 t881 t882 t885 t888 t889 t890 t891 t892 t893 t896 t897 t898 _ (ck_ HR0 HB) HC0.out A41.out) ?_; rintro e w50 ⟨v883, v886, v894, rfl, ho0, ho1, ho2, hb⟩; refine ⟨_, rfl, sh9_ (Kd.R_below (ra_ HO_8) hb) (Kd.R_elder' (ra_ HO_869001) (Kd.R_base ho0) hb) (Kd.R_elder' (ra_ HO_869002) (Kd.R_base ho1) hb) (Kd.R_elder' (ra_ HO_869008) (Kd.R_base ho2) hb) (Kd.R_lower (Kd.R_new' ho0 (Kd.R_lt (ra_ HO_869001))) (below_size (bl1_ HB GE868))) (Kd.R_lower (Kd.R_new' ho1 (Kd.R_lt (ra_ HO_869002))) (below_size (bl1_ HB GE868))) (Kd.R_lower (Kd.R_new' ho2 (Kd.R_lt (ra_ HO_869008))) (below_size (bl1_ HB GE868))) (blk_below (bk_ BK868) hb) (below_step (bl1_ HB GE868) hb) ?_⟩; clear HO_8 HO_869001 HO_869002 HO_869008 BK868 HB hb ho0 ho1 ho2; intro HO_8 HO_869001 HO_869002 HO_869008 HO884 HO887 HO895 BK868 HB) | ((with_reducible refine gd_ 11 ?_); refine bx_ 11 28 #[iv_ 0, .slice none 0 0, .slice none 0 0, iv_ 0, iv_ 0, iv_ 0, iv_ 0, iv_ 0, .slice none 0 0, iv_ 0] ?_; intro gb899 hg w51 hbox hb; refine sh13_ (Kd.R_below (ra_ HO_8) hb) (Kd.R_below (ra_ HO_869001) hb) (Kd.R_below (ra_ HO_869002) hb) (Kd.R_below (ra_ HO_869008) hb) (Kd.R_below (ra_ HO884) hb) (Kd.R_below (ra_ HO887) hb) (Kd.R_below (ra_ HO895) hb) (blk_below (bk_ BK868) hb) (below_step (bl1_ HB GE868) hb) hbox (ge_ hg (bl1_ HB GE868)) (nl_ hg (bk_ BK868)) (ng_ hg (bk_ BK868)) ?_; clear HO_8 HO_869001 HO_869002 HO_869008 HO884 HO887 HO895 BK868 HB hb hbox hg; intro HO_8 HO_869001 HO_869002 HO_869008 HO884 HO887 HO895 BK868 HB BK899 GE899 NB868_899 NB899_868; have hnb52 := NB899_868.out; have hnc52 := NB868_899.out; have hcz53 := cf10_ BK899; obtain ⟨Ao54, co54, eo54⟩ := Kd.R_slice HO884.out; subst eo54; obtain ⟨Ao55, co55, eo55⟩ := Kd.R_slice HO887.out; subst eo55; obtain ⟨Ao56, co56, eo56⟩ := Kd.R_slice HO895.out; subst eo56) | ((with_reducible refine gate_callee (f := 38) rfl ?_); refine goesL_ (some 115) rfl rfl Try.func38 (by kernel_rfl) rfl #[.agg #[iv_ t881, .slice Ao54 t882.length co54, .slice Ao55 t885.length co55, iv_ t888, iv_ t889, iv_ t890, iv_ t891, iv_ t892, .slice Ao56 t893.length co56, iv_ t896], iv_ t897, iv_ t898] rfl mp_ ?_; (with_reducible refine (impl_PlanOf.calls k1 t881 _ _ t882 _ _ t885 t888 t889 t890 t891 t892 _ _ t893 t896 t897 t898 t900 _ ?side1 ?side2 ?side3 ?side4 ?side5 ?side6 A42.out).mono ?_); (case side1 => refine (Kd.R_reads' (e := 72) (base := w.heap.size) (ok := fun k_ => (True ∧ some k_ ≠ (.slice Ao9 t849.length co9 : Value).ownBlock)) (n := t882.length) (c := co54) ?_).2.2; exact (by (with_reducible repeat (first | apply Kd.R_alloc | apply Kd.R_drewN | apply Kd.R_drew)); exact (Kd.R_mono (Kd.R_far (p := ⟨gb899, 9, none⟩) (Kd.R_far (p := ⟨gb899, 8, none⟩) (Kd.R_far (p := ⟨gb899, 7, none⟩) (Kd.R_far (p := ⟨gb899, 6, none⟩) (Kd.R_far (p := ⟨gb899, 5, none⟩) (Kd.R_far (p := ⟨gb899, 4, none⟩) (Kd.R_far (p := ⟨gb899, 3, none⟩) (Kd.R_far (p := ⟨gb899, 2, none⟩) (Kd.R_far (p := ⟨gb899, 1, none⟩) (Kd.R_far (p := ⟨gb899, 0, none⟩) (Kd.R_types HO884.out BK899.out (by decide)) (fun _ hk => hk.2) (iv_ t881)) (fun _ hk => hk.2) (.slice Ao54 t882.length co54)) (fun _ hk => hk.2) (.slice Ao55 t885.length co55)) (fun _ hk => hk.2) (iv_ t888)) (fun _ hk => hk.2) (iv_ t889)) (fun _ hk => hk.2) (iv_ t890)) (fun _ hk => hk.2) (iv_ t891)) (fun _ hk => hk.2) (iv_ t892)) (fun _ hk => hk.2) (.slice Ao56 t893.length co56)) (fun _ hk => hk.2) (iv_ t896)) (fun _ h_ => h_.1)))); (case side2 => exact (Kd.R_reads' HO884.out).2.1); (case side3 => refine (Kd.R_reads' (e := 74) (base := w.heap.size) (ok := fun k_ => (True ∧ some k_ ≠ (.slice Ao10 t852.length co10 : Value).ownBlock)) (n := t885.length) (c := co55) ?_).2.2; exact (by (with_reducible repeat (first | apply Kd.R_alloc | apply Kd.R_drewN | apply Kd.R_drew)); exact (Kd.R_mono (Kd.R_far (p := ⟨gb899, 9, none⟩) (Kd.R_far (p := ⟨gb899, 8, none⟩) (Kd.R_far (p := ⟨gb899, 7, none⟩) (Kd.R_far (p := ⟨gb899, 6, none⟩) (Kd.R_far (p := ⟨gb899, 5, none⟩) (Kd.R_far (p := ⟨gb899, 4, none⟩) (Kd.R_far (p := ⟨gb899, 3, none⟩) (Kd.R_far (p := ⟨gb899, 2, none⟩) (Kd.R_far (p := ⟨gb899, 1, none⟩) (Kd.R_far (p := ⟨gb899, 0, none⟩) (Kd.R_types HO887.out BK899.out (by decide)) (fun _ hk => hk.2) (iv_ t881)) (fun _ hk => hk.2) (.slice Ao54 t882.length co54)) (fun _ hk => hk.2) (.slice Ao55 t885.length co55)) (fun _ hk => hk.2) (iv_ t888)) (fun _ hk => hk.2) (iv_ t889)) (fun _ hk => hk.2) (iv_ t890)) (fun _ hk => hk.2) (iv_ t891)) (fun _ hk => hk.2) (iv_ t892)) (fun _ hk => hk.2) (.slice Ao56 t893.length co56)) (fun _ hk => hk.2) (iv_ t896)) (fun _ h_ => h_.1)))); (case side4 => exact (Kd.R_reads' HO887.out).2.1); (case side5 => refine (Kd.R_reads' (e := 88) (base := w.heap.size) (ok := fun k_ => (True ∧ some k_ ≠ (.slice Ao11 t860.length co11 : Value).ownBlock)) (n := t893.length) (c := co56) ?_).2.2; exact (by (with_reducible repeat (first | apply Kd.R_alloc | apply Kd.R_drewN | apply Kd.R_drew)); exact (Kd.R_mono (Kd.R_far (p := ⟨gb899, 9, none⟩) (Kd.R_far (p := ⟨gb899, 8, none⟩) (Kd.R_far (p := ⟨gb899, 7, none⟩) (Kd.R_far (p := ⟨gb899, 6, none⟩) (Kd.R_far (p := ⟨gb899, 5, none⟩) (Kd.R_far (p := ⟨gb899, 4, none⟩) (Kd.R_far (p := ⟨gb899, 3, none⟩) (Kd.R_far (p := ⟨gb899, 2, none⟩) (Kd.R_far (p := ⟨gb899, 1, none⟩) (Kd.R_far (p := ⟨gb899, 0, none⟩) (Kd.R_types HO895.out BK899.out (by decide)) (fun _ hk => hk.2) (iv_ t881)) (fun _ hk => hk.2) (.slice Ao54 t882.length co54)) (fun _ hk => hk.2) (.slice Ao55 t885.length co55)) (fun _ hk => hk.2) (iv_ t888)) (fun _ hk => hk.2) (iv_ t889)) (fun _ hk => hk.2) (iv_ t890)) (fun _ hk => hk.2) (iv_ t891)) (fun _ hk => hk.2) (iv_ t892)) (fun _ hk => hk.2) (.slice Ao56 t893.length co56)) (fun _ hk => hk.2) (iv_ t896)) (fun _ h_ => h_.1)))); (case side6 => exact (Kd.R_reads' HO895.out).2.1); rintro e w57 ⟨v901, rfl, ho0, hb⟩; refine ⟨_, rfl, sh11_ (Kd.R_elder' (by (with_reducible repeat (first | apply Kd.R_alloc | apply Kd.R_drewN | apply Kd.R_drew)); exact (Kd.R_mono (Kd.R_far (p := ⟨gb899, 9, none⟩) (Kd.R_far (p := ⟨gb899, 8, none⟩) (Kd.R_far (p := ⟨gb899, 7, none⟩) (Kd.R_far (p := ⟨gb899, 6, none⟩) (Kd.R_far (p := ⟨gb899, 5, none⟩) (Kd.R_far (p := ⟨gb899, 4, none⟩) (Kd.R_far (p := ⟨gb899, 3, none⟩) (Kd.R_far (p := ⟨gb899, 2, none⟩) (Kd.R_far (p := ⟨gb899, 1, none⟩) (Kd.R_far (p := ⟨gb899, 0, none⟩) (Kd.R_types HO_8.out BK899.out (by decide)) (fun _ hk => hk.2) (iv_ t881)) (fun _ hk => hk.2) (.slice Ao54 t882.length co54)) (fun _ hk => hk.2) (.slice Ao55 t885.length co55)) (fun _ hk => hk.2) (iv_ t888)) (fun _ hk => hk.2) (iv_ t889)) (fun _ hk => hk.2) (iv_ t890)) (fun _ hk => hk.2) (iv_ t891)) (fun _ hk => hk.2) (iv_ t892)) (fun _ hk => hk.2) (.slice Ao56 t893.length co56)) (fun _ hk => hk.2) (iv_ t896)) (fun _ h_ => h_.1))) (Kd.R_base ho0) hb) (Kd.R_below (by (with_reducible repeat (first | apply Kd.R_alloc | apply Kd.R_drewN | apply Kd.R_drew)); exact (Kd.R_mono (Kd.R_far (p := ⟨gb899, 9, none⟩) (Kd.R_far (p := ⟨gb899, 8, none⟩) (Kd.R_far (p := ⟨gb899, 7, none⟩) (Kd.R_far (p := ⟨gb899, 6, none⟩) (Kd.R_far (p := ⟨gb899, 5, none⟩) (Kd.R_far (p := ⟨gb899, 4, none⟩) (Kd.R_far (p := ⟨gb899, 3, none⟩) (Kd.R_far (p := ⟨gb899, 2, none⟩) (Kd.R_far (p := ⟨gb899, 1, none⟩) (Kd.R_far (p := ⟨gb899, 0, none⟩) (Kd.R_types HO_869001.out BK899.out (by decide)) (fun _ hk => hk.2) (iv_ t881)) (fun _ hk => hk.2) (.slice Ao54 t882.length co54)) (fun _ hk => hk.2) (.slice Ao55 t885.length co55)) (fun _ hk => hk.2) (iv_ t888)) (fun _ hk => hk.2) (iv_ t889)) (fun _ hk => hk.2) (iv_ t890)) (fun _ hk => hk.2) (iv_ t891)) (fun _ hk => hk.2) (iv_ t892)) (fun _ hk => hk.2) (.slice Ao56 t893.length co56)) (fun _ hk => hk.2) (iv_ t896)) (fun _ h_ => h_.1))) hb) (Kd.R_below (by (with_reducible repeat (first | apply Kd.R_alloc | apply Kd.R_drewN | apply Kd.R_drew)); exact (Kd.R_mono (Kd.R_far (p := ⟨gb899, 9, none⟩) (Kd.R_far (p := ⟨gb899, 8, none⟩) (Kd.R_far (p := ⟨gb899, 7, none⟩) (Kd.R_far (p := ⟨gb899, 6, none⟩) (Kd.R_far (p := ⟨gb899, 5, none⟩) (Kd.R_far (p := ⟨gb899, 4, none⟩) (Kd.R_far (p := ⟨gb899, 3, none⟩) (Kd.R_far (p := ⟨gb899, 2, none⟩) (Kd.R_far (p := ⟨gb899, 1, none⟩) (Kd.R_far (p := ⟨gb899, 0, none⟩) (Kd.R_types HO_869002.out BK899.out (by decide)) (fun _ hk => hk.2) (iv_ t881)) (fun _ hk => hk.2) (.slice Ao54 t882.length co54)) (fun _ hk => hk.2) (.slice Ao55 t885.length co55)) (fun _ hk => hk.2) (iv_ t888)) (fun _ hk => hk.2) (iv_ t889)) (fun _ hk => hk.2) (iv_ t890)) (fun _ hk => hk.2) (iv_ t891)) (fun _ hk => hk.2) (iv_ t892)) (fun _ hk => hk.2) (.slice Ao56 t893.length co56)) (fun _ hk => hk.2) (iv_ t896)) (fun _ h_ => h_.1))) hb) (Kd.R_below (by (with_reducible repeat (first | apply Kd.R_alloc | apply Kd.R_drewN | apply Kd.R_drew)); exact (Kd.R_mono (Kd.R_far (p := ⟨gb899, 9, none⟩) (Kd.R_far (p := ⟨gb899, 8, none⟩) (Kd.R_far (p := ⟨gb899, 7, none⟩) (Kd.R_far (p := ⟨gb899, 6, none⟩) (Kd.R_far (p := ⟨gb899, 5, none⟩) (Kd.R_far (p := ⟨gb899, 4, none⟩) (Kd.R_far (p := ⟨gb899, 3, none⟩) (Kd.R_far (p := ⟨gb899, 2, none⟩) (Kd.R_far (p := ⟨gb899, 1, none⟩) (Kd.R_far (p := ⟨gb899, 0, none⟩) (Kd.R_types HO_869008.out BK899.out (by decide)) (fun _ hk => hk.2) (iv_ t881)) (fun _ hk => hk.2) (.slice Ao54 t882.length co54)) (fun _ hk => hk.2) (.slice Ao55 t885.length co55)) (fun _ hk => hk.2) (iv_ t888)) (fun _ hk => hk.2) (iv_ t889)) (fun _ hk => hk.2) (iv_ t890)) (fun _ hk => hk.2) (iv_ t891)) (fun _ hk => hk.2) (iv_ t892)) (fun _ hk => hk.2) (.slice Ao56 t893.length co56)) (fun _ hk => hk.2) (iv_ t896)) (fun _ h_ => h_.1))) hb) (Kd.R_below (by (with_reducible repeat (first | apply Kd.R_alloc | apply Kd.R_drewN | apply Kd.R_drew)); exact (Kd.R_mono (Kd.R_far (p := ⟨gb899, 9, none⟩) (Kd.R_far (p := ⟨gb899, 8, none⟩) (Kd.R_far (p := ⟨gb899, 7, none⟩) (Kd.R_far (p := ⟨gb899, 6, none⟩) (Kd.R_far (p := ⟨gb899, 5, none⟩) (Kd.R_far (p := ⟨gb899, 4, none⟩) (Kd.R_far (p := ⟨gb899, 3, none⟩) (Kd.R_far (p := ⟨gb899, 2, none⟩) (Kd.R_far (p := ⟨gb899, 1, none⟩) (Kd.R_far (p := ⟨gb899, 0, none⟩) (Kd.R_types HO884.out BK899.out (by decide)) (fun _ hk => hk.2) (iv_ t881)) (fun _ hk => hk.2) (.slice Ao54 t882.length co54)) (fun _ hk => hk.2) (.slice Ao55 t885.length co55)) (fun _ hk => hk.2) (iv_ t888)) (fun _ hk => hk.2) (iv_ t889)) (fun _ hk => hk.2) (iv_ t890)) (fun _ hk => hk.2) (iv_ t891)) (fun _ hk => hk.2) (iv_ t892)) (fun _ hk => hk.2) (.slice Ao56 t893.length co56)) (fun _ hk => hk.2) (iv_ t896)) (fun _ h_ => h_.1))) hb) (Kd.R_below (by (with_reducible repeat (first | apply Kd.R_alloc | apply Kd.R_drewN | apply Kd.R_drew)); exact (Kd.R_mono (Kd.R_far (p := ⟨gb899, 9, none⟩) (Kd.R_far (p := ⟨gb899, 8, none⟩) (Kd.R_far (p := ⟨gb899, 7, none⟩) (Kd.R_far (p := ⟨gb899, 6, none⟩) (Kd.R_far (p := ⟨gb899, 5, none⟩) (Kd.R_far (p := ⟨gb899, 4, none⟩) (Kd.R_far (p := ⟨gb899, 3, none⟩) (Kd.R_far (p := ⟨gb899, 2, none⟩) (Kd.R_far (p := ⟨gb899, 1, none⟩) (Kd.R_far (p := ⟨gb899, 0, none⟩) (Kd.R_types HO887.out BK899.out (by decide)) (fun _ hk => hk.2) (iv_ t881)) (fun _ hk => hk.2) (.slice Ao54 t882.length co54)) (fun _ hk => hk.2) (.slice Ao55 t885.length co55)) (fun _ hk => hk.2) (iv_ t888)) (fun _ hk => hk.2) (iv_ t889)) (fun _ hk => hk.2) (iv_ t890)) (fun _ hk => hk.2) (iv_ t891)) (fun _ hk => hk.2) (iv_ t892)) (fun _ hk => hk.2) (.slice Ao56 t893.length co56)) (fun _ hk => hk.2) (iv_ t896)) (fun _ h_ => h_.1))) hb) (Kd.R_below (by (with_reducible repeat (first | apply Kd.R_alloc | apply Kd.R_drewN | apply Kd.R_drew)); exact (Kd.R_mono (Kd.R_far (p := ⟨gb899, 9, none⟩) (Kd.R_far (p := ⟨gb899, 8, none⟩) (Kd.R_far (p := ⟨gb899, 7, none⟩) (Kd.R_far (p := ⟨gb899, 6, none⟩) (Kd.R_far (p := ⟨gb899, 5, none⟩) (Kd.R_far (p := ⟨gb899, 4, none⟩) (Kd.R_far (p := ⟨gb899, 3, none⟩) (Kd.R_far (p := ⟨gb899, 2, none⟩) (Kd.R_far (p := ⟨gb899, 1, none⟩) (Kd.R_far (p := ⟨gb899, 0, none⟩) (Kd.R_types HO895.out BK899.out (by decide)) (fun _ hk => hk.2) (iv_ t881)) (fun _ hk => hk.2) (.slice Ao54 t882.length co54)) (fun _ hk => hk.2) (.slice Ao55 t885.length co55)) (fun _ hk => hk.2) (iv_ t888)) (fun _ hk => hk.2) (iv_ t889)) (fun _ hk => hk.2) (iv_ t890)) (fun _ hk => hk.2) (iv_ t891)) (fun _ hk => hk.2) (iv_ t892)) (fun _ hk => hk.2) (.slice Ao56 t893.length co56)) (fun _ hk => hk.2) (iv_ t896)) (fun _ h_ => h_.1))) hb) (Kd.R_lower (Kd.R_new' ho0 (Kd.R_lt (by (with_reducible repeat (first | apply Kd.R_alloc | apply Kd.R_drewN | apply Kd.R_drew)); exact (Kd.R_mono (Kd.R_far (p := ⟨gb899, 9, none⟩) (Kd.R_far (p := ⟨gb899, 8, none⟩) (Kd.R_far (p := ⟨gb899, 7, none⟩) (Kd.R_far (p := ⟨gb899, 6, none⟩) (Kd.R_far (p := ⟨gb899, 5, none⟩) (Kd.R_far (p := ⟨gb899, 4, none⟩) (Kd.R_far (p := ⟨gb899, 3, none⟩) (Kd.R_far (p := ⟨gb899, 2, none⟩) (Kd.R_far (p := ⟨gb899, 1, none⟩) (Kd.R_far (p := ⟨gb899, 0, none⟩) (Kd.R_types HO_8.out BK899.out (by decide)) (fun _ hk => hk.2) (iv_ t881)) (fun _ hk => hk.2) (.slice Ao54 t882.length co54)) (fun _ hk => hk.2) (.slice Ao55 t885.length co55)) (fun _ hk => hk.2) (iv_ t888)) (fun _ hk => hk.2) (iv_ t889)) (fun _ hk => hk.2) (iv_ t890)) (fun _ hk => hk.2) (iv_ t891)) (fun _ hk => hk.2) (iv_ t892)) (fun _ hk => hk.2) (.slice Ao56 t893.length co56)) (fun _ hk => hk.2) (iv_ t896)) (fun _ h_ => h_.1))))) (below_size (bl2_ HB GE868 GE899))) (blk_below (g := gb868) (o := .cells #[iv_ t848, .slice Ao9 t849.length co9, .slice Ao10 t852.length co10, iv_ t855, iv_ t856, iv_ t857, iv_ t858, iv_ t859, .slice Ao11 t860.length co11, iv_ t863] 28 (0, 0)) (bp_ BK868) hb) (blk_below (g := gb899) (o := .cells #[iv_ t881, .slice Ao54 t882.length co54, .slice Ao55 t885.length co55, iv_ t888, iv_ t889, iv_ t890, iv_ t891, iv_ t892, .slice Ao56 t893.length co56, iv_ t896] 28 (0, 0)) (bp_ BK899) hb) (below_step (bl2_ HB GE868 GE899) hb) ?_⟩; clear HO_8 HO_869001 HO_869002 HO_869008 HO884 HO887 HO895 BK868 BK899 HB hb ho0; intro HO_8 HO_869001 HO_869002 HO_869008 HO884 HO887 HO895 HO902 BK868 BK899 HB) | ((with_reducible refine gate_callee (f := 39) rfl ?_); refine gl_ 118 Try.func39 (spec_DrawCanSpeak.calls k1 _ _ l0 t903 t904 t905 t906 _ (ck_ HR0 HB) HC0.out A43.out) ?_; rintro e w58 ⟨v907, rfl, ho0, hb⟩; refine ⟨_, rfl, sh12_ (Kd.R_elder' (ra_ HO_8) (Kd.R_base ho0) hb) (Kd.R_below (ra_ HO_869001) hb) (Kd.R_below (ra_ HO_869002) hb) (Kd.R_below (ra_ HO_869008) hb) (Kd.R_below (ra_ HO884) hb) (Kd.R_below (ra_ HO887) hb) (Kd.R_below (ra_ HO895) hb) (Kd.R_elder' (ra_ HO902) (Kd.R_base ho0) hb) (Kd.R_lower (Kd.R_new' (Kd.R_new' ho0 (Kd.R_lt (ra_ HO_8))) (Kd.R_lt (ra_ HO902))) (below_size (bl2_ HB GE868 GE899))) (blk_below (bk_ BK868) hb) (blk_below (bk_ BK899) hb) (below_step (bl2_ HB GE868 GE899) hb) ?_⟩; clear HO_8 HO_869001 HO_869002 HO_869008 HO884 HO887 HO895 HO902 BK868 BK899 HB hb ho0; intro HO_8 HO_869001 HO_869002 HO_869008 HO884 HO887 HO895 HO902 HO908 BK868 BK899 HB; have hcz59 := cf10_ BK899) | ((with_reducible refine gate_callee (f := 41) rfl ?_); refine gl_ 125 Try.func41 (impl_NodesOf.calls t881 _ _ t882 _ _ t885 t888 t889 t890 t891 t892 _ _ t893 t896 t909 _ (cr_ HO884) (rl_ HO884) (cr_ HO887) (rl_ HO887) (cr_ HO895) (rl_ HO895) A44.out) ?_; rintro e w60 ⟨rfl, hb⟩; refine ⟨_, rfl, sh12_ (Kd.R_below (ra_ HO_8) hb) (Kd.R_below (ra_ HO_869001) hb) (Kd.R_below (ra_ HO_869002) hb) (Kd.R_below (ra_ HO_869008) hb) (Kd.R_below (ra_ HO884) hb) (Kd.R_below (ra_ HO887) hb) (Kd.R_below (ra_ HO895) hb) (Kd.R_below (ra_ HO902) hb) (Kd.R_below (ra_ HO908) hb) (blk_below (bk_ BK868) hb) (blk_below (bk_ BK899) hb) (below_step (bl2_ HB GE868 GE899) hb) ?_⟩; clear HO_8 HO_869001 HO_869002 HO_869008 HO884 HO887 HO895 HO902 HO908 BK868 BK899 HB hb; intro HO_8 HO_869001 HO_869002 HO_869008 HO884 HO887 HO895 HO902 HO908 BK868 BK899 HB; obtain ⟨Ao61, co61, eo61⟩ := Kd.R_slice HO902.out; subst eo61) | ((with_reducible refine gate_callee (f := 40) rfl ?_); refine gl_ 126 Try.func40 (impl_IsPlan.calls k1 _ _ t900 t909 true _ (cr_ HO902) (rl_ HO902) A45.out) ?_; rintro e w62 ⟨rfl, hb⟩; refine ⟨_, rfl, sh12_ (Kd.R_below (ra_ HO_8) hb) (Kd.R_below (ra_ HO_869001) hb) (Kd.R_below (ra_ HO_869002) hb) (Kd.R_below (ra_ HO_869008) hb) (Kd.R_below (ra_ HO884) hb) (Kd.R_below (ra_ HO887) hb) (Kd.R_below (ra_ HO895) hb) (Kd.R_below (ra_ HO902) hb) (Kd.R_below (ra_ HO908) hb) (blk_below (bk_ BK868) hb) (blk_below (bk_ BK899) hb) (below_step (bl2_ HB GE868 GE899) hb) ?_⟩; clear HO_8 HO_869001 HO_869002 HO_869008 HO884 HO887 HO895 HO902 HO908 BK868 BK899 HB hb; intro HO_8 HO_869001 HO_869002 HO_869008 HO884 HO887 HO895 HO902 HO908 BK868 BK899 HB; obtain ⟨Ao63, co63, eo63⟩ := Kd.R_slice HO908.out; subst eo63) | (go_at_call 42; (with_reducible refine (impl_CanSpeak.calls k1 _ _ t903 t904 t905 t906 t911 _ ?side1 ?side2 A47.out).mono ?_); (case side1 => repeat (first | exact (Kd.R_reads' HO908.out).2.2 | (with_reducible refine Kd.C_alloc ?_ _) | (with_reducible refine Kd.C_drewN ?_ _) | (with_reducible refine Kd.C_drew ?_))); (case side2 => exact (Kd.R_reads' HO908.out).2.1); rintro e w64 ⟨rfl, hb⟩; refine sh12_ (Kd.R_below (ra_ HO_8) hb) (Kd.R_below (ra_ HO_869001) hb) (Kd.R_below (ra_ HO_869002) hb) (Kd.R_below (ra_ HO_869008) hb) (Kd.R_below (ra_ HO884) hb) (Kd.R_below (ra_ HO887) hb) (Kd.R_below (ra_ HO895) hb) (Kd.R_below (ra_ HO902) hb) (Kd.R_below (ra_ HO908) hb) (blk_below (bk_ BK868) hb) (blk_below (bk_ BK899) hb) (below_step (bl2_ HB GE868 GE899) hb) ?_; clear HO_8 HO_869001 HO_869002 HO_869008 HO884 HO887 HO895 HO902 HO908 BK868 BK899 HB hb; intro HO_8 HO_869001 HO_869002 HO_869008 HO884 HO887 HO895 HO902 HO908 BK868 BK899 HB) | (go_at_call 42; (with_reducible refine (impl_CanSpeak.calls k1 _ _ t903 t905 t904 t906 t912 _ ?side1 ?side2 A48.out).mono ?_); (case side1 => repeat (first | exact (Kd.R_reads' HO908.out).2.2 | (with_reducible refine Kd.C_alloc ?_ _) | (with_reducible refine Kd.C_drewN ?_ _) | (with_reducible refine Kd.C_drew ?_))); (case side2 => exact (Kd.R_reads' HO908.out).2.1); rintro e w65 ⟨rfl, hb⟩; refine sh12_ (Kd.R_below (ra_ HO_8) hb) (Kd.R_below (ra_ HO_869001) hb) (Kd.R_below (ra_ HO_869002) hb) (Kd.R_below (ra_ HO_869008) hb) (Kd.R_below (ra_ HO884) hb) (Kd.R_below (ra_ HO887) hb) (Kd.R_below (ra_ HO895) hb) (Kd.R_below (ra_ HO902) hb) (Kd.R_below (ra_ HO908) hb) (blk_below (bk_ BK868) hb) (blk_below (bk_ BK899) hb) (below_step (bl2_ HB GE868 GE899) hb) ?_; clear HO_8 HO_869001 HO_869002 HO_869008 HO884 HO887 HO895 HO902 HO908 BK868 BK899 HB hb; intro HO_8 HO_869001 HO_869002 HO_869008 HO884 HO887 HO895 HO902 HO908 BK868 BK899 HB))
      go_ret
      exact ⟨by first | (rw [hRT_.out]; rfl) | exact er_, bl2_ HB GE868 GE899⟩
     ·replace c46 := Bool.eq_false_iff.mpr c46
      subst c46
      have H1 : (some false) = some true := by first | (rw [if_neg (show ¬ (false = true) by decide)] at H; exact H) | rfl
      clear H
      have H := H1
      clear H1
      exact absurd H (by simp)

/-- THE ONE PURE STATEMENT of laws_FnContacts: yours. -/
def laws_FnContacts.Pure : Prop := ∀ (j : List Int), j.length ≤ maxLen → j.length * 1 ≤ 140737488351232 → (∀ x ∈ j, (Lit.int .u8 x).wf = true) → ∃ k, laws_FnContacts.f k j = some true
theorem laws_FnContacts.walk (P : laws_FnContacts.Pure) (s : Option Addr) (m j : Nat) (l : List Int) (w : World) (E : (s = none ∧ m = 0 ∧ j = 0 ∧ l = []) ∨ ∃ x, s = some x ∧ m ≤ j ∧ j ≤ maxLen ∧ l.length = j ∧ (∀ i, i < l.length → w.cell? (x.add i) = some (.int .u8 (l.getD i 0))) ∧ ∀ n ∈ l, (Lit.int .u8 n).wf = true) (G : m * 1 ≤ 140737488351232) :
  Calls Try.prog 6 #[.slice s m j] w fun e w' => e = .returned (.bool true) ∧ Below w.heap.size w w' := by
 obtain ⟨u, rfl, B, z, D, y⟩ := ReadsInt.ofRowC E
 obtain ⟨k, h⟩ := P u z G D
 refine (laws_FnContacts.calls k _ _ u true w (Kd.C_of_reads (d := (0 : Int)) (h1 := fun _ => rfl) B) y h).mono ?_
 rintro e w' ⟨rfl, hd⟩
 exact ⟨rfl, hd⟩

end Go.Proofs.Ytopbkdcicidajaa.PFnContacts
