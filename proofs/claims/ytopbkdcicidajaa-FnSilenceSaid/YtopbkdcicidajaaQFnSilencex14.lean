-- Written by a program of this session for this claim (the kit's printer with changes).
import Derived.Test.YtopbkdcicidajaaQFnSilencex0
import Derived.Test.YtopbkdcicidajaaQFnSilencex1
import Derived.Test.YtopbkdcicidajaaQFnSilencex5
import Derived.Test.YtopbkdcicidajaaQFnSilencex6
import Derived.Test.YtopbkdcicidajaaQFnSilencex7
import Derived.Test.YtopbkdcicidajaaQFnSilencex8
import Derived.Test.YtopbkdcicidajaaQFnSilencex12
import Derived.Test.YtopbkdcicidajaaQFnSilencex13
namespace Go.Proofs.Ytopbkdcicidajaa.PFnSilence
open Go.RowKit Go.Proofs.YtopbkdcicidajaaW.PrintWords Go.Proofs.YtopbkdcicidajaaW.PrintLast Go.Proofs.YtopbkdcicidajaaW.PrintMore
attribute [local go_sem] max2_int min2_int max_two min_two max_three min_three max_four min_four   -- for this text's walks alone
set_option linter.unusedVariables false
set_option maxHeartbeats 8000000
set_option maxRecDepth 100000
set_option linter.unusedSimpArgs false

/-! ### laws_FnSilence: function 5 -/
mutual
def laws_FnSilence.l0 : Nat → List Int → Int → Int → Int → List S82 → List S82 → Int → Int → List S72 → List S74 → Int → Int → Int → Int → Int → List S88 → Int → Option (Bool)
 | 0, _, _, _, _, _, _, _, _, _, _, _, _, _, _, _, _, _ => none
 | k + 1, M, I, J, O, T, L, l, m, s, u, x, y, z, B, D, E, G => if l < O then ((impl_MayDisturb.f k m s u x y z B D E G I l).bind fun Z => (if Z = true then (laws_FnSilence.j1 k M I J O T L l false m s u x y z B D E G) else ((impl_MayDisturb.f k m s u x y z B D E G J l).bind fun a0 => (laws_FnSilence.j1 k M I J O T L l (!a0) m s u x y z B D E G)))) else ((spec_DrawMayDisturb.f k M).bind fun j => ((impl_MayDisturb.f k j.1 j.2.1 j.2.2.1 j.2.2.2.1 j.2.2.2.2.1 j.2.2.2.2.2.1 j.2.2.2.2.2.2.1 j.2.2.2.2.2.2.2.1 j.2.2.2.2.2.2.2.2.1 j.2.2.2.2.2.2.2.2.2.1 j.2.2.2.2.2.2.2.2.2.2.1 j.2.2.2.2.2.2.2.2.2.2.2).bind fun X => (if X = true then (if j.2.2.2.2.2.2.2.2.2.2.1 ≥ 0 then (if j.2.2.2.2.2.2.2.2.2.2.1 < (j.2.1.length : Int) then ((impl_IsQuietSky.f k j.1 j.2.1 j.2.2.1 j.2.2.2.1 j.2.2.2.2.1 j.2.2.2.2.2.1 j.2.2.2.2.2.2.1 j.2.2.2.2.2.2.2.1 j.2.2.2.2.2.2.2.2.1 j.2.2.2.2.2.2.2.2.2.1 j.2.2.2.2.2.2.2.2.2.2.2).bind fun Y => (some (!Y))) else (some false)) else (some false)) else (some true))))
def laws_FnSilence.j1 : Nat → List Int → Int → Int → Int → List S82 → List S82 → Int → Bool → Int → List S72 → List S74 → Int → Int → Int → Int → Int → List S88 → Int → Option (Bool)
 | 0, _, _, _, _, _, _, _, _, _, _, _, _, _, _, _, _, _, _ => none
 | k + 1, M, I, J, O, T, L, l, a6, m, s, u, x, y, z, B, D, E, G => (impl_InSpans.f k T l).bind fun U => (if a6 = true then ((impl_IsSure.f k m s u x y z B D E G I J l).bind fun a1 => (if (U != a1) = true then (some false) else ((impl_InSpans.f k L l).bind fun a2 => ((impl_MayDisturb.f k m s u x y z B D E G I l).bind fun a3 => (if (a2 != a3) = true then (some false) else (laws_FnSilence.l0 k M I J O T L (wrap64 (l + 1)) m s u x y z B D E G)))))) else (if (U != false) = true then (some false) else ((impl_InSpans.f k L l).bind fun a4 => ((impl_MayDisturb.f k m s u x y z B D E G I l).bind fun a5 => (if (a4 != a5) = true then (some false) else (laws_FnSilence.l0 k M I J O T L (wrap64 (l + 1)) m s u x y z B D E G))))))
end
def laws_FnSilence.f (k : Nat) (l : List Int) : Option (Bool) := (laws_big.f l).bind fun s => (if s = true then (some true) else ((spec_DrawSpeakingSpans.f k l).bind fun j => ((impl_SpeakingSpans.f k j.1 j.2.1 j.2.2.1 j.2.2.2.1 j.2.2.2.2.1 j.2.2.2.2.2.1 j.2.2.2.2.2.2.1 j.2.2.2.2.2.2.2.1 j.2.2.2.2.2.2.2.2.1 j.2.2.2.2.2.2.2.2.2.1 j.2.2.2.2.2.2.2.2.2.2.1 j.2.2.2.2.2.2.2.2.2.2.2.1 j.2.2.2.2.2.2.2.2.2.2.2.2.1 j.2.2.2.2.2.2.2.2.2.2.2.2.2).bind fun m => ((spec_SpeakingSpans.f k j.1 j.2.1 j.2.2.1 j.2.2.2.1 j.2.2.2.2.1 j.2.2.2.2.2.1 j.2.2.2.2.2.2.1 j.2.2.2.2.2.2.2.1 j.2.2.2.2.2.2.2.2.1 j.2.2.2.2.2.2.2.2.2.1 j.2.2.2.2.2.2.2.2.2.2.1 j.2.2.2.2.2.2.2.2.2.2.2.1 j.2.2.2.2.2.2.2.2.2.2.2.2.1 j.2.2.2.2.2.2.2.2.2.2.2.2.2).bind fun u => (if (m.length : Int) = (u.length : Int) then ((impl_QuietSpans.f k j.1 j.2.1 j.2.2.1 j.2.2.2.1 j.2.2.2.2.1 j.2.2.2.2.2.1 j.2.2.2.2.2.2.1 j.2.2.2.2.2.2.2.1 j.2.2.2.2.2.2.2.2.1 j.2.2.2.2.2.2.2.2.2.1 j.2.2.2.2.2.2.2.2.2.2.1 j.2.2.2.2.2.2.2.2.2.2.2.2.1 j.2.2.2.2.2.2.2.2.2.2.2.2.2).bind fun x => ((impl_Max.f 0 j.2.2.2.2.2.2.2.2.2.2.2.2.1).bind fun y => (laws_FnSilence.l0 k l j.2.2.2.2.2.2.2.2.2.2.1 j.2.2.2.2.2.2.2.2.2.2.2.1 j.2.2.2.2.2.2.2.2.2.2.2.2.2 m x y j.1 j.2.1 j.2.2.1 j.2.2.2.1 j.2.2.2.2.1 j.2.2.2.2.2.1 j.2.2.2.2.2.2.1 j.2.2.2.2.2.2.2.1 j.2.2.2.2.2.2.2.2.1 j.2.2.2.2.2.2.2.2.2.1))) else (some false))))))
def laws_FnSilence.T12 : Bool × List (List Nat × List Nat) := (true, [([], []), ([], []), ([0, 1], [0, 1]), ([], []), ([3, 2], [3]), ([4], [4]), ([4], [4]), ([4], [4]), ([4], [4]), ([5, 6, 7, 8, 4, 4], [4, 5, 6, 7, 8]), ([4, 9], [4, 9]), ([2, 10], [2, 10]), ([11, 9], [11]), ([12], [12]), ([12], [12]), ([13, 14, 12, 12], [12, 13, 14]), ([12], [12]), ([12], [12]), ([12], [12]), ([16, 17, 18, 15, 12], [12, 16, 17, 18]), ([15, 19, 12], [12, 15, 19]), ([12, 20], [12, 20])])
def laws_FnSilence.B12 : List Nat := [0, 0, 3, 0, 15, 31, 31, 31, 31, 511, 1023, 2047, 4095, 8191, 8191, 32767, 8191, 8191, 8191, 524287, 1048575, 2097151]
theorem laws_FnSilence.tab12 : rtab .any (opsOf Try.f5 12) = laws_FnSilence.T12 := by kernel_rfl
theorem laws_FnSilence.bits12 : waitsOk laws_FnSilence.T12.2 laws_FnSilence.B12 = true := by kernel_rfl
theorem laws_FnSilence.calls (k : Nat) (A0 : Option Addr) (c0 : Nat) (l0 : List Int) (r : Bool) (w : World) (k6 : Kd.C (Kd.int .u8) w A0 l0.length l0) (k5 : l0.length ≤ c0) (h : laws_FnSilence.f k l0 = some r) (hT_ : r = true := by rfl) :
  Calls Try.prog 5 #[.slice A0 l0.length c0] w fun e w' => e = .returned (.bool r) ∧ Below w.heap.size w w' := by
 have s1 := Try.underlying28
 have h7 := Aside0.mk k6
 have h6 := Aside0.mk k5
 clear k6 k5
 have HB := Aside0.mk (Below.refl w.heap.size w)
 subst hT_
 have H := h
 clear h
 unfold laws_FnSilence.f at H
 replace H := bs_ H
 obtain ⟨o9, A2, H⟩ := H
 by_cases c3 : o9 = true
 ·subst c3
  try rw [if_pos rfl] at H
  clear H
  go_enter Try.func5, Try.ntmps5
  go_wp2_with (first | ((with_reducible refine gate_callee (f := 8) rfl ?_); refine gl_ 16 Try.func8 (laws_big.calls _ _ l0 true _ (cq_ h7) h6.out A2.out) ?_; rintro e w' ⟨rfl, ⟨nd, rfl⟩⟩; refine ⟨_, rfl, ?_⟩))
  go_ret
  exact ⟨by first | (rw [hRT_.out]; rfl) | exact er_, bl_ HB⟩
 ·replace c3 := Bool.eq_false_iff.mpr c3
  subst c3
  have H1 : ((spec_DrawSpeakingSpans.f k l0).bind fun B => ((impl_SpeakingSpans.f k B.1 B.2.1 B.2.2.1 B.2.2.2.1 B.2.2.2.2.1 B.2.2.2.2.2.1 B.2.2.2.2.2.2.1 B.2.2.2.2.2.2.2.1 B.2.2.2.2.2.2.2.2.1 B.2.2.2.2.2.2.2.2.2.1 B.2.2.2.2.2.2.2.2.2.2.1 B.2.2.2.2.2.2.2.2.2.2.2.1 B.2.2.2.2.2.2.2.2.2.2.2.2.1 B.2.2.2.2.2.2.2.2.2.2.2.2.2).bind fun c1 => ((spec_SpeakingSpans.f k B.1 B.2.1 B.2.2.1 B.2.2.2.1 B.2.2.2.2.1 B.2.2.2.2.2.1 B.2.2.2.2.2.2.1 B.2.2.2.2.2.2.2.1 B.2.2.2.2.2.2.2.2.1 B.2.2.2.2.2.2.2.2.2.1 B.2.2.2.2.2.2.2.2.2.2.1 B.2.2.2.2.2.2.2.2.2.2.2.1 B.2.2.2.2.2.2.2.2.2.2.2.2.1 B.2.2.2.2.2.2.2.2.2.2.2.2.2).bind fun h5 => (if (c1.length : Int) = (h5.length : Int) then ((impl_QuietSpans.f k B.1 B.2.1 B.2.2.1 B.2.2.2.1 B.2.2.2.2.1 B.2.2.2.2.2.1 B.2.2.2.2.2.2.1 B.2.2.2.2.2.2.2.1 B.2.2.2.2.2.2.2.2.1 B.2.2.2.2.2.2.2.2.2.1 B.2.2.2.2.2.2.2.2.2.2.1 B.2.2.2.2.2.2.2.2.2.2.2.2.1 B.2.2.2.2.2.2.2.2.2.2.2.2.2).bind fun f0 => ((impl_Max.f 0 B.2.2.2.2.2.2.2.2.2.2.2.2.1).bind fun i5 => (laws_FnSilence.l0 k l0 B.2.2.2.2.2.2.2.2.2.2.1 B.2.2.2.2.2.2.2.2.2.2.2.1 B.2.2.2.2.2.2.2.2.2.2.2.2.2 c1 f0 i5 B.1 B.2.1 B.2.2.1 B.2.2.2.1 B.2.2.2.2.1 B.2.2.2.2.2.1 B.2.2.2.2.2.2.1 B.2.2.2.2.2.2.2.1 B.2.2.2.2.2.2.2.2.1 B.2.2.2.2.2.2.2.2.2.1))) else (some false))))) = some true := by first | (rw [if_neg (show ¬ (false = true) by decide)] at H; exact H) | rfl
  clear H
  have H := H1
  clear H1
  replace H := bs_ H
  obtain ⟨⟨a2, E, G, a3, a4, a5, a6, a7, I, a8, d5, f7, h4, f8⟩, A4, H⟩ := H
  dsimp only at H
  replace H := bs_ H
  obtain ⟨c1, A5, H⟩ := H
  replace H := bs_ H
  obtain ⟨h5, A6, H⟩ := H
  by_cases c7 : (c1.length : Int) = (h5.length : Int)
  ·rw [if_pos c7] at H
   obtain ⟨n5, n6⟩ := bt_ c7
   have n7 : (c1.length == h5.length) = true := by first | simpa using c7 | (simp at c7 ⊢; omega)
   clear c7
   replace H := bs_ H
   obtain ⟨f0, A8, H⟩ := H
   replace H := bs_ H
   obtain ⟨i5, A9, H⟩ := H
   have H' := Aside0.mk H
   clear H
   go_enter Try.func5, Try.ntmps5
   go_wp2_with (first | ((with_reducible refine gate_callee (f := 8) rfl ?_); refine gl_ 16 Try.func8 (laws_big.calls _ _ l0 false _ (cq_ h7) h6.out A2.out) ?_; rintro e w' ⟨rfl, ⟨nd, rfl⟩⟩; refine ⟨_, rfl, ?_⟩) | ((with_reducible refine gate_callee (f := 26) rfl ?_); refine gl_ 19 Try.func26 (spec_DrawSpeakingSpans.calls k _ _ l0 a2 E G a3 a4 a5 a6 a7 I a8 d5 f7 h4 f8 _ (cq_ h7) h6.out A4.out) ?_; rintro e s7 ⟨s2, s3, s4, rfl, b6, g1, g2, hb⟩; refine ⟨_, rfl, sh4_ (Kd.R_lower b6 (below_size (bl_ HB))) (Kd.R_lower g1 (below_size (bl_ HB))) (Kd.R_lower g2 (below_size (bl_ HB))) (below_step (bl_ HB) hb) ?_⟩; clear HB hb b6 g1 g2; intro b2 b3 b4 HB) | ((with_reducible refine gate_dst (N := 3) rfl ?_); (try (refine gate_guard (by rfl) ?_; dsimp only)); refine box_event ?hg (N := 3) ?hd (cs := #[iv_ 0, .slice none 0 0, .slice none 0 0, iv_ 0, iv_ 0, iv_ 0, iv_ 0, iv_ 0, .slice none 0 0, iv_ 0]) (t := 28) ?hr ?_; (case hd => rfl); (case hg => rfl); (case hr => first | (go_simp; done) | (go_simp; rfl)); intro z hg s8 hbox hb; refine sh6_ (Kd.R_below (ra_ b2) hb) (Kd.R_below (ra_ b3) hb) (Kd.R_below (ra_ b4) hb) (below_step (bl_ HB) hb) hbox (ge_ hg (bl_ HB)) ?_; clear b2 b3 b4 HB hb hbox hg; intro b2 b3 b4 HB l D; have q8 := cf10_ l; obtain ⟨d1, b7, n8⟩ := Kd.R_slice b2.out; subst n8; obtain ⟨d2, b8, n9⟩ := Kd.R_slice b3.out; subst n9; obtain ⟨d3, b9, o0⟩ := Kd.R_slice b4.out; subst o0) | ((with_reducible refine gate_callee (f := 27) rfl ?_); refine goesL_ (some 30) rfl rfl Try.func27 (by kernel_rfl) rfl #[.agg #[iv_ a2, .slice d1 E.length b7, .slice d2 G.length b8, iv_ a3, iv_ a4, iv_ a5, iv_ a6, iv_ a7, .slice d3 I.length b9, iv_ a8], iv_ d5, iv_ f7, iv_ h4, iv_ f8] rfl mp_ ?_; (with_reducible refine (impl_SpeakingSpans.calls k a2 _ _ E _ _ G a3 a4 a5 a6 a7 _ _ I a8 d5 f7 h4 f8 c1 _ ?side1 ?side2 ?side3 ?side4 ?side5 ?side6 A5.out).mono ?_); (case side1 => refine (Kd.R_reads' (e := 72) (base := w.heap.size) (ok := fun k_ => True) (n := E.length) (c := b7) ?_).2.2; exact (by (with_reducible repeat (first | apply Kd.R_alloc | apply Kd.R_drewN | apply Kd.R_drew)); exact (Kd.R_mono (Kd.R_far (p := ⟨z, 9, none⟩) (Kd.R_far (p := ⟨z, 8, none⟩) (Kd.R_far (p := ⟨z, 7, none⟩) (Kd.R_far (p := ⟨z, 6, none⟩) (Kd.R_far (p := ⟨z, 5, none⟩) (Kd.R_far (p := ⟨z, 4, none⟩) (Kd.R_far (p := ⟨z, 3, none⟩) (Kd.R_far (p := ⟨z, 2, none⟩) (Kd.R_far (p := ⟨z, 1, none⟩) (Kd.R_far (p := ⟨z, 0, none⟩) (Kd.R_types b2.out l.out (by decide)) (fun _ hk => hk.2) (iv_ a2)) (fun _ hk => hk.2) (.slice d1 E.length b7)) (fun _ hk => hk.2) (.slice d2 G.length b8)) (fun _ hk => hk.2) (iv_ a3)) (fun _ hk => hk.2) (iv_ a4)) (fun _ hk => hk.2) (iv_ a5)) (fun _ hk => hk.2) (iv_ a6)) (fun _ hk => hk.2) (iv_ a7)) (fun _ hk => hk.2) (.slice d3 I.length b9)) (fun _ hk => hk.2) (iv_ a8)) (fun _ h_ => h_.1)))); (case side2 => exact (Kd.R_reads' b2.out).2.1); (case side3 => refine (Kd.R_reads' (e := 74) (base := w.heap.size) (ok := fun k_ => True) (n := G.length) (c := b8) ?_).2.2; exact (by (with_reducible repeat (first | apply Kd.R_alloc | apply Kd.R_drewN | apply Kd.R_drew)); exact (Kd.R_mono (Kd.R_far (p := ⟨z, 9, none⟩) (Kd.R_far (p := ⟨z, 8, none⟩) (Kd.R_far (p := ⟨z, 7, none⟩) (Kd.R_far (p := ⟨z, 6, none⟩) (Kd.R_far (p := ⟨z, 5, none⟩) (Kd.R_far (p := ⟨z, 4, none⟩) (Kd.R_far (p := ⟨z, 3, none⟩) (Kd.R_far (p := ⟨z, 2, none⟩) (Kd.R_far (p := ⟨z, 1, none⟩) (Kd.R_far (p := ⟨z, 0, none⟩) (Kd.R_types b3.out l.out (by decide)) (fun _ hk => hk.2) (iv_ a2)) (fun _ hk => hk.2) (.slice d1 E.length b7)) (fun _ hk => hk.2) (.slice d2 G.length b8)) (fun _ hk => hk.2) (iv_ a3)) (fun _ hk => hk.2) (iv_ a4)) (fun _ hk => hk.2) (iv_ a5)) (fun _ hk => hk.2) (iv_ a6)) (fun _ hk => hk.2) (iv_ a7)) (fun _ hk => hk.2) (.slice d3 I.length b9)) (fun _ hk => hk.2) (iv_ a8)) (fun _ h_ => h_.1)))); (case side4 => exact (Kd.R_reads' b3.out).2.1); (case side5 => refine (Kd.R_reads' (e := 88) (base := w.heap.size) (ok := fun k_ => True) (n := I.length) (c := b9) ?_).2.2; exact (by (with_reducible repeat (first | apply Kd.R_alloc | apply Kd.R_drewN | apply Kd.R_drew)); exact (Kd.R_mono (Kd.R_far (p := ⟨z, 9, none⟩) (Kd.R_far (p := ⟨z, 8, none⟩) (Kd.R_far (p := ⟨z, 7, none⟩) (Kd.R_far (p := ⟨z, 6, none⟩) (Kd.R_far (p := ⟨z, 5, none⟩) (Kd.R_far (p := ⟨z, 4, none⟩) (Kd.R_far (p := ⟨z, 3, none⟩) (Kd.R_far (p := ⟨z, 2, none⟩) (Kd.R_far (p := ⟨z, 1, none⟩) (Kd.R_far (p := ⟨z, 0, none⟩) (Kd.R_types b4.out l.out (by decide)) (fun _ hk => hk.2) (iv_ a2)) (fun _ hk => hk.2) (.slice d1 E.length b7)) (fun _ hk => hk.2) (.slice d2 G.length b8)) (fun _ hk => hk.2) (iv_ a3)) (fun _ hk => hk.2) (iv_ a4)) (fun _ hk => hk.2) (iv_ a5)) (fun _ hk => hk.2) (iv_ a6)) (fun _ hk => hk.2) (iv_ a7)) (fun _ hk => hk.2) (.slice d3 I.length b9)) (fun _ hk => hk.2) (iv_ a8)) (fun _ h_ => h_.1)))); (case side6 => exact (Kd.R_reads' b4.out).2.1); rintro e s9 ⟨s5, rfl, b6, hb⟩; refine ⟨_, rfl, sh6_ (Kd.R_below (by (with_reducible repeat (first | apply Kd.R_alloc | apply Kd.R_drewN | apply Kd.R_drew)); exact (Kd.R_mono (Kd.R_far (p := ⟨z, 9, none⟩) (Kd.R_far (p := ⟨z, 8, none⟩) (Kd.R_far (p := ⟨z, 7, none⟩) (Kd.R_far (p := ⟨z, 6, none⟩) (Kd.R_far (p := ⟨z, 5, none⟩) (Kd.R_far (p := ⟨z, 4, none⟩) (Kd.R_far (p := ⟨z, 3, none⟩) (Kd.R_far (p := ⟨z, 2, none⟩) (Kd.R_far (p := ⟨z, 1, none⟩) (Kd.R_far (p := ⟨z, 0, none⟩) (Kd.R_types b2.out l.out (by decide)) (fun _ hk => hk.2) (iv_ a2)) (fun _ hk => hk.2) (.slice d1 E.length b7)) (fun _ hk => hk.2) (.slice d2 G.length b8)) (fun _ hk => hk.2) (iv_ a3)) (fun _ hk => hk.2) (iv_ a4)) (fun _ hk => hk.2) (iv_ a5)) (fun _ hk => hk.2) (iv_ a6)) (fun _ hk => hk.2) (iv_ a7)) (fun _ hk => hk.2) (.slice d3 I.length b9)) (fun _ hk => hk.2) (iv_ a8)) (fun _ h_ => h_.1))) hb) (Kd.R_below (by (with_reducible repeat (first | apply Kd.R_alloc | apply Kd.R_drewN | apply Kd.R_drew)); exact (Kd.R_mono (Kd.R_far (p := ⟨z, 9, none⟩) (Kd.R_far (p := ⟨z, 8, none⟩) (Kd.R_far (p := ⟨z, 7, none⟩) (Kd.R_far (p := ⟨z, 6, none⟩) (Kd.R_far (p := ⟨z, 5, none⟩) (Kd.R_far (p := ⟨z, 4, none⟩) (Kd.R_far (p := ⟨z, 3, none⟩) (Kd.R_far (p := ⟨z, 2, none⟩) (Kd.R_far (p := ⟨z, 1, none⟩) (Kd.R_far (p := ⟨z, 0, none⟩) (Kd.R_types b3.out l.out (by decide)) (fun _ hk => hk.2) (iv_ a2)) (fun _ hk => hk.2) (.slice d1 E.length b7)) (fun _ hk => hk.2) (.slice d2 G.length b8)) (fun _ hk => hk.2) (iv_ a3)) (fun _ hk => hk.2) (iv_ a4)) (fun _ hk => hk.2) (iv_ a5)) (fun _ hk => hk.2) (iv_ a6)) (fun _ hk => hk.2) (iv_ a7)) (fun _ hk => hk.2) (.slice d3 I.length b9)) (fun _ hk => hk.2) (iv_ a8)) (fun _ h_ => h_.1))) hb) (Kd.R_below (by (with_reducible repeat (first | apply Kd.R_alloc | apply Kd.R_drewN | apply Kd.R_drew)); exact (Kd.R_mono (Kd.R_far (p := ⟨z, 9, none⟩) (Kd.R_far (p := ⟨z, 8, none⟩) (Kd.R_far (p := ⟨z, 7, none⟩) (Kd.R_far (p := ⟨z, 6, none⟩) (Kd.R_far (p := ⟨z, 5, none⟩) (Kd.R_far (p := ⟨z, 4, none⟩) (Kd.R_far (p := ⟨z, 3, none⟩) (Kd.R_far (p := ⟨z, 2, none⟩) (Kd.R_far (p := ⟨z, 1, none⟩) (Kd.R_far (p := ⟨z, 0, none⟩) (Kd.R_types b4.out l.out (by decide)) (fun _ hk => hk.2) (iv_ a2)) (fun _ hk => hk.2) (.slice d1 E.length b7)) (fun _ hk => hk.2) (.slice d2 G.length b8)) (fun _ hk => hk.2) (iv_ a3)) (fun _ hk => hk.2) (iv_ a4)) (fun _ hk => hk.2) (iv_ a5)) (fun _ hk => hk.2) (iv_ a6)) (fun _ hk => hk.2) (iv_ a7)) (fun _ hk => hk.2) (.slice d3 I.length b9)) (fun _ hk => hk.2) (iv_ a8)) (fun _ h_ => h_.1))) hb) (Kd.R_lower b6 (below_size (bl1_ HB D))) (blk_below (g := z) (o := .cells #[iv_ a2, .slice d1 E.length b7, .slice d2 G.length b8, iv_ a3, iv_ a4, iv_ a5, iv_ a6, iv_ a7, .slice d3 I.length b9, iv_ a8] 28 (0, 0)) (bp_ l) hb) (below_step (bl1_ HB D) hb) ?_⟩; clear b2 b3 b4 l HB hb b6; intro b2 b3 b4 e8 l HB; obtain ⟨h8, i4, o1⟩ := Kd.R_slice e8.out; subst o1; have q9 := cf10_ l) | ((with_reducible refine gate_callee (f := 28) rfl ?_); refine gl_ 38 Try.func28 (spec_SpeakingSpans.calls k a2 _ _ E _ _ G a3 a4 a5 a6 a7 _ _ I a8 d5 f7 h4 f8 h5 _ (cr_ b2) (rl_ b2) (cr_ b3) (rl_ b3) (cr_ b4) (rl_ b4) A6.out) ?_; rintro e t0 ⟨s6, rfl, b6, hb⟩; refine ⟨_, rfl, sh7_ (Kd.R_below (ra_ b2) hb) (Kd.R_below (ra_ b3) hb) (Kd.R_below (ra_ b4) hb) (Kd.R_elder' (ra_ e8) (Kd.R_base b6) hb) (Kd.R_lower (Kd.R_new' b6 (Kd.R_lt (ra_ e8))) (below_size (bl1_ HB D))) (blk_below (bk_ l) hb) (below_step (bl1_ HB D) hb) ?_⟩; clear b2 b3 b4 e8 l HB hb b6; intro b2 b3 b4 e8 g7 l HB; obtain ⟨p8, q5, o2⟩ := Kd.R_slice g7.out; subst o2; have r0 := cf10_ l) | ((with_reducible refine gate_callee (f := 29) rfl ?_); refine gl_ 45 Try.func29 (impl_QuietSpans.calls k a2 _ _ E _ _ G a3 a4 a5 a6 a7 _ _ I a8 d5 h4 f8 f0 _ (cr_ b2) (rl_ b2) (cr_ b3) (rl_ b3) (cr_ b4) (rl_ b4) A8.out) ?_; rintro e t1 ⟨i7, rfl, b6, hb⟩; refine ⟨_, rfl, sh8_ (Kd.R_below (ra_ b2) hb) (Kd.R_below (ra_ b3) hb) (Kd.R_below (ra_ b4) hb) (Kd.R_elder' (ra_ e8) (Kd.R_base b6) hb) (Kd.R_elder' (ra_ g7) (Kd.R_base b6) hb) (Kd.R_lower (Kd.R_new' (Kd.R_new' b6 (Kd.R_lt (ra_ e8))) (Kd.R_lt (ra_ g7))) (below_size (bl1_ HB D))) (blk_below (bk_ l) hb) (below_step (bl1_ HB D) hb) ?_⟩; clear b2 b3 b4 e8 g7 l HB hb b6; intro b2 b3 b4 e8 g7 i0 l HB) | ((with_reducible refine gate_callee (f := 30) rfl ?_); refine gl_ 47 Try.func30 (impl_Max.calls 0 h4 i5 _ A9.out) ?_; rintro e t2 ⟨rfl, hb⟩; refine ⟨_, rfl, sh8_ (Kd.R_below (ra_ b2) hb) (Kd.R_below (ra_ b3) hb) (Kd.R_below (ra_ b4) hb) (Kd.R_below (ra_ e8) hb) (Kd.R_below (ra_ g7) hb) (Kd.R_below (ra_ i0) hb) (blk_below (bk_ l) hb) (below_step (bl1_ HB D) hb) ?_⟩; clear b2 b3 b4 e8 g7 i0 l HB hb; intro b2 b3 b4 e8 g7 i0 l HB))
   go_loopg [10] k (fun kq p3 w' => ∃ (b5 : Int), p3 = iv_ b5 ∧ Aside0 (laws_FnSilence.l0 kq l0 d5 f7 f8 c1 f0 b5 a2 E G a3 a4 a5 a6 a7 I a8 = some true) ∧ Aside0 (kq ≤ k) ∧ Aside0 (Kd.R k82 82 w' w.heap.size (fun k_ => some k_ ≠ (i7 : Value).ownBlock) (.slice h8 c1.length i4) c1) ∧ Aside0 (Kd.R k82 82 w' w.heap.size (fun k_ => some k_ ≠ ((.slice h8 c1.length i4) : Value).ownBlock) i7 f0) ∧ Aside0 (Kd.R k72 72 w' w.heap.size (fun _ => True) (.slice d1 E.length b7) E) ∧ Aside0 (Kd.R k74 74 w' w.heap.size (fun _ => True) (.slice d2 G.length b8) G) ∧ Aside0 (Kd.R k88 88 w' w.heap.size (fun _ => True) (.slice d3 I.length b9) I) ∧ Aside0 (w'.heap[z]? = some (.cells #[iv_ a2, (.slice d1 E.length b7), (.slice d2 G.length b8), iv_ a3, iv_ a4, iv_ a5, iv_ a6, iv_ a7, (.slice d3 I.length b9), iv_ a8] 28 (0, 0))) ∧ Aside0 (Below w.heap.size w w'))
   case atStart => exact ⟨(i5), (by first | rfl | (simp; done) | (simp [*]; done)), H', ⟨Nat.le_refl _⟩, ⟨by (with_reducible repeat (first | apply Kd.R_alloc | apply Kd.R_drewN | apply Kd.R_drew)); exact Kd.R_mono e8.out (fun _ hk => hk.2)⟩, ⟨by (with_reducible repeat (first | apply Kd.R_alloc | apply Kd.R_drewN | apply Kd.R_drew)); exact Kd.R_mono i0.out (fun _ hk => hk.1.2)⟩, ⟨ra_ b2⟩, ⟨ra_ b3⟩, ⟨ra_ b4⟩, ⟨by (with_reducible repeat (first | refine blk_drewN ?_ _ | refine blk_drew ?_ | refine blk_alloc ?_ _)); exact l.out⟩, ⟨bl1_ HB D⟩⟩
   case round =>
    clear H'
    obtain ⟨b5, rfl, HA, h0, y, x, m, s, u, l, HB⟩ := hrel
    cases gk with
    | zero => exact absurd HA.out (by simp [laws_FnSilence.l0])
    | succ k1 =>
     have H := HA.out
     clear HA
     simp only [laws_FnSilence.l0] at H
     by_cases h1 : b5 < f8
     ·rw [if_pos h1] at H
      have m0 := decide_eq_true h1
      clear h1
      have i9 := Aside0.mk H
      clear H
      go_upto_region 11 with (fail)
      go_cut [11] (fun p4 wc => ∃ (kq : Nat) (i8 : Bool), p4 = .bool i8 ∧ Aside0 (laws_FnSilence.j1 kq l0 d5 f7 f8 c1 f0 b5 i8 a2 E G a3 a4 a5 a6 a7 I a8 = some true) ∧ Aside0 (kq ≤ k1) ∧ Aside0 (Kd.R k82 82 wc w.heap.size (fun k_ => some k_ ≠ (i7 : Value).ownBlock) (.slice h8 c1.length i4) c1) ∧ Aside0 (Kd.R k82 82 wc w.heap.size (fun k_ => some k_ ≠ ((.slice h8 c1.length i4) : Value).ownBlock) i7 f0) ∧ Aside0 (Kd.R k72 72 wc w.heap.size (fun _ => True) (.slice d1 E.length b7) E) ∧ Aside0 (Kd.R k74 74 wc w.heap.size (fun _ => True) (.slice d2 G.length b8) G) ∧ Aside0 (Kd.R k88 88 wc w.heap.size (fun _ => True) (.slice d3 I.length b9) I) ∧ Aside0 (wc.heap[z]? = some (.cells #[iv_ a2, (.slice d1 E.length b7), (.slice d2 G.length b8), iv_ a3, iv_ a4, iv_ a5, iv_ a6, iv_ a7, (.slice d3 I.length b9), iv_ a8] 28 (0, 0))) ∧ Aside0 (Below w.heap.size w wc))
      case first =>
       have H := i9.out
       clear i9
       replace H := bs_ H
       obtain ⟨p2, j7, H⟩ := H
       by_cases i1 : p2 = true
       ·subst i1
        try rw [if_pos rfl] at H
        have H' := Aside0.mk H
        clear H
        have r1 := cf10_ l
        go_wp2_with (first | ((with_reducible refine gate_callee (f := 31) rfl ?_); refine gl_ 56 Try.func31 (impl_MayDisturb.calls k1 a2 _ _ E _ _ G a3 a4 a5 a6 a7 _ _ I a8 d5 b5 true _ (cr_ m) (rl_ m) (cr_ s) (rl_ s) (cr_ u) (rl_ u) j7.out) ?_; rintro e t3 ⟨rfl, hb⟩; refine ⟨_, rfl, sh7_ (Kd.R_below (ra_ y) hb) (Kd.R_below (ra_ x) hb) (Kd.R_below (ra_ m) hb) (Kd.R_below (ra_ s) hb) (Kd.R_below (ra_ u) hb) (blk_below (bk_ l) hb) (below_step (bl1_ HB D) hb) ?_⟩; clear y x m s u l HB hb; intro y x m s u l HB))
        go_meet
        case rel => exact ⟨_, (false), (by first | rfl | (simp; done) | (simp [*]; done)), H', ⟨by have := h0.out; first | omega | exact Nat.le_refl _⟩, ⟨ra_ y⟩, ⟨ra_ x⟩, ⟨ra_ m⟩, ⟨ra_ s⟩, ⟨ra_ u⟩, ⟨by (with_reducible repeat (first | refine blk_drewN ?_ _ | refine blk_drew ?_ | refine blk_alloc ?_ _)); exact l.out⟩, ⟨bl1_ HB D⟩⟩
       ·replace i1 := Bool.eq_false_iff.mpr i1
        subst i1
        have H1 : ((impl_MayDisturb.f k1 a2 E G a3 a4 a5 a6 a7 I a8 f7 b5).bind fun i6 => (laws_FnSilence.j1 k1 l0 d5 f7 f8 c1 f0 b5 (!i6) a2 E G a3 a4 a5 a6 a7 I a8)) = some true := by first | (rw [if_neg (show ¬ (false = true) by decide)] at H; exact H) | rfl
        clear H
        have H := H1
        clear H1
        replace H := bs_ H
        obtain ⟨i6, k7, H⟩ := H
        have H' := Aside0.mk H
        clear H
        have r2 := cf10_ l
        go_wp2_with (first | ((with_reducible refine gate_callee (f := 31) rfl ?_); refine gl_ 56 Try.func31 (impl_MayDisturb.calls k1 a2 _ _ E _ _ G a3 a4 a5 a6 a7 _ _ I a8 d5 b5 false _ (cr_ m) (rl_ m) (cr_ s) (rl_ s) (cr_ u) (rl_ u) j7.out) ?_; rintro e t4 ⟨rfl, hb⟩; refine ⟨_, rfl, sh7_ (Kd.R_below (ra_ y) hb) (Kd.R_below (ra_ x) hb) (Kd.R_below (ra_ m) hb) (Kd.R_below (ra_ s) hb) (Kd.R_below (ra_ u) hb) (blk_below (bk_ l) hb) (below_step (bl1_ HB D) hb) ?_⟩; clear y x m s u l HB hb; intro y x m s u l HB; have r3 := cf10_ l) | (go_at_call 31; (with_reducible refine (impl_MayDisturb.calls k1 a2 _ _ E _ _ G a3 a4 a5 a6 a7 _ _ I a8 f7 b5 i6 _ ?side1 ?side2 ?side3 ?side4 ?side5 ?side6 k7.out).mono ?_); (case side1 => repeat (first | exact (Kd.R_reads' m.out).2.2 | (with_reducible refine Kd.C_alloc ?_ _) | (with_reducible refine Kd.C_drewN ?_ _) | (with_reducible refine Kd.C_drew ?_))); (case side2 => exact (Kd.R_reads' m.out).2.1); (case side3 => repeat (first | exact (Kd.R_reads' s.out).2.2 | (with_reducible refine Kd.C_alloc ?_ _) | (with_reducible refine Kd.C_drewN ?_ _) | (with_reducible refine Kd.C_drew ?_))); (case side4 => exact (Kd.R_reads' s.out).2.1); (case side5 => repeat (first | exact (Kd.R_reads' u.out).2.2 | (with_reducible refine Kd.C_alloc ?_ _) | (with_reducible refine Kd.C_drewN ?_ _) | (with_reducible refine Kd.C_drew ?_))); (case side6 => exact (Kd.R_reads' u.out).2.1); rintro e t5 ⟨rfl, hb⟩; refine sh7_ (Kd.R_below (ra_ y) hb) (Kd.R_below (ra_ x) hb) (Kd.R_below (ra_ m) hb) (Kd.R_below (ra_ s) hb) (Kd.R_below (ra_ u) hb) (blk_below (bk_ l) hb) (below_step (bl1_ HB D) hb) ?_; clear y x m s u l HB hb; intro y x m s u l HB))
        go_meet
        case rel => exact ⟨_, (!i6), (by first | rfl | (simp; done) | (simp [*]; done)), H', ⟨by have := h0.out; first | omega | exact Nat.le_refl _⟩, ⟨ra_ y⟩, ⟨ra_ x⟩, ⟨ra_ m⟩, ⟨ra_ s⟩, ⟨ra_ u⟩, ⟨by (with_reducible repeat (first | refine blk_drewN ?_ _ | refine blk_drew ?_ | refine blk_alloc ?_ _)); exact l.out⟩, ⟨bl1_ HB D⟩⟩
      case rest =>
       clear i9
       obtain ⟨kq, i8, rfl, HA, h9, y, x, m, s, u, l, HB⟩ := hcut
       cases kq with
       | zero => exact absurd HA.out (by simp [laws_FnSilence.j1])
       | succ e9 =>
        have H := HA.out
        clear HA
        simp only [laws_FnSilence.j1] at H
        replace H := bs_ H
        obtain ⟨d0, j8, H⟩ := H
        by_cases i2 : i8 = true
        ·subst i2
         try rw [if_pos rfl] at H
         replace H := bs_ H
         obtain ⟨g4, k8, H⟩ := H
         by_cases f2 : (d0 != g4) = true
         ·rw [if_pos f2] at H
          have m1 : (d0 != g4) = true := f2
          (try (have m2 : decide (d0 = g4) = false := by simpa using f2))
          (try (have m3 : (d0 == g4) = false := by simpa using f2))
          (try (have q1 : ¬ (d0 = g4) := by simpa using f2))
          clear f2
          exact absurd H (by simp)
         ·rw [if_neg f2] at H
          have m1 : (d0 != g4) = false := by simpa using f2
          (try (have m2 : decide (d0 = g4) = true := by simpa using f2))
          (try (have m3 : (d0 == g4) = true := by simpa using f2))
          clear f2
          replace H := bs_ H
          obtain ⟨g5, k9, H⟩ := H
          replace H := bs_ H
          obtain ⟨g6, l2, H⟩ := H
          by_cases f3 : (g5 != g6) = true
          ·rw [if_pos f3] at H
           have m4 : (g5 != g6) = true := f3
           (try (have m5 : decide (g5 = g6) = false := by simpa using f3))
           (try (have m6 : (g5 == g6) = false := by simpa using f3))
           (try (have q2 : ¬ (g5 = g6) := by simpa using f3))
           clear f3
           exact absurd H (by simp)
          ·rw [if_neg f3] at H
           have m4 : (g5 != g6) = false := by simpa using f3
           (try (have m5 : decide (g5 = g6) = true := by simpa using f3))
           (try (have m6 : (g5 == g6) = true := by simpa using f3))
           clear f3
           have H' := Aside0.mk H
           clear H
           try go_wp2
           refine sh7_ (Kd.R_drew y.out) (Kd.R_drew x.out) (Kd.R_drew m.out) (Kd.R_drew s.out) (Kd.R_drew u.out) (blk_drew l.out) (below_drew1 HB.out) ?_
           clear y x m s u l HB
           intro y x m s u l HB
           refine start_ (n := 22) (S := fun w' => Cz10 w' z (iv_ a2) (.slice d1 E.length b7) (.slice d2 G.length b8) (iv_ a3) (iv_ a4) (iv_ a5) (iv_ a6) (iv_ a7) (.slice d3 I.length b9) (iv_ a8)) (ds := []) (bo_ 22 0) (by kernel_rfl) rfl rfl (cz10_ l) (fun hHeld => ?_); refine with_tabW laws_FnSilence.tab12 laws_FnSilence.bits12 (fun HT_ HW_ => ?_)
           generalize wc.drew = t6 at y x m s u l HB hHeld ⊢
           refine pur_ 0 (bo_ 22 1) (some 65) HT_ ?_
           refine pur_ 1 (bo_ 22 3) (some 66) HT_ ?_
           refine pur_ 3 (bo_ 22 11) (some 68) HT_ ?_
           refine onc_ 2 (bo_ 22 15) (some 67) HT_ Try.func17 (impl_InSpans.calls e9 _ _ c1 b5 d0 _ (cr_ y) (rl_ y) j8.out) ?_
           rintro e t7 ⟨rfl, hb⟩
           refine sh7_ (Kd.R_below (ra_ y) hb) (Kd.R_below (ra_ x) hb) (Kd.R_below (ra_ m) hb) (Kd.R_below (ra_ s) hb) (Kd.R_below (ra_ u) hb) (blk_below (bk_ l) hb) (below_step (bl1_ HB D) hb) ?_
           clear y x m s u l HB hb
           intro y x m s u l HB
           refine ⟨_, _, rfl, (cz10_ l), pt_, fun hHeld => ?_⟩
           refine pur_ 4 (bo_ 22 31) (some 69) HT_ ?_
           refine pur_ 6 (bo_ 22 95) (some 71) HT_ ?_
           refine pur_ 7 (bo_ 22 223) (some 72) HT_ ?_
           refine pur_ 8 (bo_ 22 479) (some 73) HT_ ?_
           refine tak_ 5 (bo_ 22 511) (some 70) HT_ HW_ hHeld ?_
           refine onc_ 9 (bo_ 22 1023) (some 74) HT_ Try.func12 (impl_IsSure.calls e9 a2 _ _ E _ _ G a3 a4 a5 a6 a7 _ _ I a8 d5 f7 b5 g4 _ (cr_ m) (rl_ m) (cr_ s) (rl_ s) (cr_ u) (rl_ u) k8.out) ?_
           rintro e t8 ⟨rfl, hb⟩
           refine sh7_ (Kd.R_below (ra_ y) hb) (Kd.R_below (ra_ x) hb) (Kd.R_below (ra_ m) hb) (Kd.R_below (ra_ s) hb) (Kd.R_below (ra_ u) hb) (blk_below (bk_ l) hb) (below_step (bl1_ HB D) hb) ?_
           clear y x m s u l HB hb
           intro y x m s u l HB
           obtain ⟨p9, q6, k3⟩ := Kd.R_slice x.out
           (first | subst k3 | (injection k3 with f1_ f2_ f3_; have j3 := f1_.symm; have j4 := f3_.symm; clear f1_ f2_ f3_; subst j3; subst j4))
           refine ⟨_, _, rfl, (cz10_ l), pt_, fun hHeld => ?_⟩
           refine pur_ 10 (bo_ 22 2047) (some 75) HT_ ?_
           refine pur_ 11 (bo_ 22 4095) (some 76) HT_ ?_
           refine pur_ 12 (bo_ 22 8191) (some 77) HT_ ?_
           refine pur_ 13 (bo_ 22 16383) (some 78) HT_ ?_
           refine pur_ 14 (bo_ 22 32767) (some 79) HT_ ?_
           refine pur_ 17 (bo_ 22 163839) (some 82) HT_ ?_
           refine pur_ 18 (bo_ 22 425983) (some 83) HT_ ?_
           refine tak_ 16 (bo_ 22 491519) (some 81) HT_ HW_ hHeld ?_
           refine onc_ 15 (bo_ 22 524287) (some 80) HT_ Try.func17 (impl_InSpans.calls e9 _ _ f0 b5 g5 _ (cr_ x) (rl_ x) k9.out) ?_
           rintro e t9 ⟨rfl, hb⟩
           refine sh7_ (Kd.R_below (ra_ y) hb) (Kd.R_below (ra_ x) hb) (Kd.R_below (ra_ m) hb) (Kd.R_below (ra_ s) hb) (Kd.R_below (ra_ u) hb) (blk_below (bk_ l) hb) (below_step (bl1_ HB D) hb) ?_
           clear y x m s u l HB hb
           intro y x m s u l HB
           refine ⟨_, _, rfl, (cz10_ l), pt_, fun hHeld => ?_⟩
           refine onc_ 19 (bo_ 22 1048575) (some 84) HT_ Try.func31 (impl_MayDisturb.calls e9 a2 _ _ E _ _ G a3 a4 a5 a6 a7 _ _ I a8 d5 b5 g6 _ (cr_ m) (rl_ m) (cr_ s) (rl_ s) (cr_ u) (rl_ u) l2.out) ?_
           rintro e u0 ⟨rfl, hb⟩
           refine sh7_ (Kd.R_below (ra_ y) hb) (Kd.R_below (ra_ x) hb) (Kd.R_below (ra_ m) hb) (Kd.R_below (ra_ s) hb) (Kd.R_below (ra_ u) hb) (blk_below (bk_ l) hb) (below_step (bl1_ HB D) hb) ?_
           clear y x m s u l HB hb
           intro y x m s u l HB
           refine ⟨_, _, rfl, (cz10_ l), pt_, fun hHeld => ?_⟩
           refine pur_ 20 (bo_ 22 2097151) (some 85) HT_ ?_
           refine pur_ 21 (bo_ 22 4194303) (some 86) HT_ ?_
           refine done_ (done_of HT_.out (by kernel_rfl)) ?_
           try go_wp2
           go_roundg e9
           case measure => have := h0.out; have := h9.out; omega
           case rel => exact ⟨(wrap64 (b5 + 1)), (by first | rfl | (simp; done) | (simp [*]; done)), H', ⟨by have := h0.out; have := h9.out; omega⟩, ⟨ra_ y⟩, ⟨ra_ x⟩, ⟨ra_ m⟩, ⟨ra_ s⟩, ⟨ra_ u⟩, ⟨by (with_reducible repeat (first | refine blk_drewN ?_ _ | refine blk_drew ?_ | refine blk_alloc ?_ _)); exact l.out⟩, ⟨bl1_ HB D⟩⟩
        ·replace i2 := Bool.eq_false_iff.mpr i2
         subst i2
         have H1 : (if (d0 != false) = true then (some false) else ((impl_InSpans.f e9 f0 b5).bind fun f9 => ((impl_MayDisturb.f e9 a2 E G a3 a4 a5 a6 a7 I a8 d5 b5).bind fun g0 => (if (f9 != g0) = true then (some false) else (laws_FnSilence.l0 e9 l0 d5 f7 f8 c1 f0 (wrap64 (b5 + 1)) a2 E G a3 a4 a5 a6 a7 I a8))))) = some true := by first | (rw [if_neg (show ¬ (false = true) by decide)] at H; exact H) | rfl
         clear H
         have H := H1
         clear H1
         by_cases f4 : (d0 != false) = true
         ·rw [if_pos f4] at H
          have m7 : (d0 != false) = true := f4
          (try (have m8 : decide (d0 = false) = false := by simpa using f4))
          (try (have m9 : (d0 == false) = false := by simpa using f4))
          (try (have q3 : ¬ (d0 = false) := by simpa using f4))
          clear f4
          exact absurd H (by simp)
         ·rw [if_neg f4] at H
          have m7 : (d0 != false) = false := by simpa using f4
          (try (have m8 : decide (d0 = false) = true := by simpa using f4))
          (try (have m9 : (d0 == false) = true := by simpa using f4))
          clear f4
          replace H := bs_ H
          obtain ⟨f9, l3, H⟩ := H
          replace H := bs_ H
          obtain ⟨g0, l5, H⟩ := H
          by_cases f5 : (f9 != g0) = true
          ·rw [if_pos f5] at H
           have n0 : (f9 != g0) = true := f5
           (try (have n1 : decide (f9 = g0) = false := by simpa using f5))
           (try (have n2 : (f9 == g0) = false := by simpa using f5))
           (try (have q4 : ¬ (f9 = g0) := by simpa using f5))
           clear f5
           exact absurd H (by simp)
          ·rw [if_neg f5] at H
           have n0 : (f9 != g0) = false := by simpa using f5
           (try (have n1 : decide (f9 = g0) = true := by simpa using f5))
           (try (have n2 : (f9 == g0) = true := by simpa using f5))
           clear f5
           have H' := Aside0.mk H
           clear H
           try go_wp2
           refine sh7_ (Kd.R_drew y.out) (Kd.R_drew x.out) (Kd.R_drew m.out) (Kd.R_drew s.out) (Kd.R_drew u.out) (blk_drew l.out) (below_drew1 HB.out) ?_
           clear y x m s u l HB
           intro y x m s u l HB
           refine start_ (n := 22) (S := fun w' => Cz10 w' z (iv_ a2) (.slice d1 E.length b7) (.slice d2 G.length b8) (iv_ a3) (iv_ a4) (iv_ a5) (iv_ a6) (iv_ a7) (.slice d3 I.length b9) (iv_ a8)) (ds := []) (bo_ 22 0) (by kernel_rfl) rfl rfl (cz10_ l) (fun hHeld => ?_); refine with_tabW laws_FnSilence.tab12 laws_FnSilence.bits12 (fun HT_ HW_ => ?_)
           generalize wc.drew = u1 at y x m s u l HB hHeld ⊢
           refine pur_ 0 (bo_ 22 1) (some 65) HT_ ?_
           refine pur_ 1 (bo_ 22 3) (some 66) HT_ ?_
           refine pur_ 3 (bo_ 22 11) (some 68) HT_ ?_
           refine onc_ 2 (bo_ 22 15) (some 67) HT_ Try.func17 (impl_InSpans.calls e9 _ _ c1 b5 d0 _ (cr_ y) (rl_ y) j8.out) ?_
           rintro e u2 ⟨rfl, hb⟩
           refine sh7_ (Kd.R_below (ra_ y) hb) (Kd.R_below (ra_ x) hb) (Kd.R_below (ra_ m) hb) (Kd.R_below (ra_ s) hb) (Kd.R_below (ra_ u) hb) (blk_below (bk_ l) hb) (below_step (bl1_ HB D) hb) ?_
           clear y x m s u l HB hb
           intro y x m s u l HB
           obtain ⟨q0, q7, k4⟩ := Kd.R_slice x.out
           (first | subst k4 | (injection k4 with f1_ f2_ f3_; have j3 := f1_.symm; have j4 := f3_.symm; clear f1_ f2_ f3_; subst j3; subst j4))
           refine ⟨_, _, rfl, (cz10_ l), pt_, fun hHeld => ?_⟩
           refine pur_ 4 (bo_ 22 31) (some 69) HT_ ?_
           refine pure_ (i := 5) (N := some 70) (v := undef) (a' := ?_) (bo_ 22 63) rfl rfl (any_of HT_.out (by kernel_rfl)) (fun _ _ _ h => h) (Or.inr ⟨by rfl, rfl⟩) ?_ ?_
           rotate_left
           ·simp only [Act.put, List.setIfInBounds_toArray, List.set_cons_zero, List.set_cons_succ, i64_w, i32_w]
            rfl
           refine pure_ (i := 6) (N := some 71) (v := undef) (a' := ?_) (bo_ 22 127) rfl rfl (any_of HT_.out (by kernel_rfl)) (fun _ _ _ h => h) (Or.inr ⟨by rfl, rfl⟩) ?_ ?_
           rotate_left
           ·simp only [Act.put, List.setIfInBounds_toArray, List.set_cons_zero, List.set_cons_succ, i64_w, i32_w]
            rfl
           refine pure_ (i := 7) (N := some 72) (v := undef) (a' := ?_) (bo_ 22 255) rfl rfl (any_of HT_.out (by kernel_rfl)) (fun _ _ _ h => h) (Or.inr ⟨by rfl, rfl⟩) ?_ ?_
           rotate_left
           ·simp only [Act.put, List.setIfInBounds_toArray, List.set_cons_zero, List.set_cons_succ, i64_w, i32_w]
            rfl
           refine pure_ (i := 8) (N := some 73) (v := undef) (a' := ?_) (bo_ 22 511) rfl rfl (any_of HT_.out (by kernel_rfl)) (fun _ _ _ h => h) (Or.inr ⟨by rfl, rfl⟩) ?_ ?_
           rotate_left
           ·simp only [Act.put, List.setIfInBounds_toArray, List.set_cons_zero, List.set_cons_succ, i64_w, i32_w]
            rfl
           refine pure_ (i := 9) (N := some 74) (v := undef) (a' := ?_) (bo_ 22 1023) rfl rfl (any_of HT_.out (by kernel_rfl)) (fun _ _ _ h => h) (Or.inr ⟨by rfl, rfl⟩) ?_ ?_
           rotate_left
           ·simp only [Act.put, List.setIfInBounds_toArray, List.set_cons_zero, List.set_cons_succ, i64_w, i32_w]
            rfl
           refine pur_ 10 (bo_ 22 2047) (some 75) HT_ ?_
           refine pur_ 11 (bo_ 22 4095) (some 76) HT_ ?_
           refine pur_ 12 (bo_ 22 8191) (some 77) HT_ ?_
           refine pur_ 13 (bo_ 22 16383) (some 78) HT_ ?_
           refine pur_ 14 (bo_ 22 32767) (some 79) HT_ ?_
           refine pur_ 17 (bo_ 22 163839) (some 82) HT_ ?_
           refine pur_ 18 (bo_ 22 425983) (some 83) HT_ ?_
           refine tak_ 16 (bo_ 22 491519) (some 81) HT_ HW_ hHeld ?_
           refine onc_ 15 (bo_ 22 524287) (some 80) HT_ Try.func17 (impl_InSpans.calls e9 _ _ f0 b5 f9 _ (cr_ x) (rl_ x) l3.out) ?_
           rintro e u3 ⟨rfl, hb⟩
           refine sh7_ (Kd.R_below (ra_ y) hb) (Kd.R_below (ra_ x) hb) (Kd.R_below (ra_ m) hb) (Kd.R_below (ra_ s) hb) (Kd.R_below (ra_ u) hb) (blk_below (bk_ l) hb) (below_step (bl1_ HB D) hb) ?_
           clear y x m s u l HB hb
           intro y x m s u l HB
           refine ⟨_, _, rfl, (cz10_ l), pt_, fun hHeld => ?_⟩
           refine onc_ 19 (bo_ 22 1048575) (some 84) HT_ Try.func31 (impl_MayDisturb.calls e9 a2 _ _ E _ _ G a3 a4 a5 a6 a7 _ _ I a8 d5 b5 g0 _ (cr_ m) (rl_ m) (cr_ s) (rl_ s) (cr_ u) (rl_ u) l5.out) ?_
           rintro e u4 ⟨rfl, hb⟩
           refine sh7_ (Kd.R_below (ra_ y) hb) (Kd.R_below (ra_ x) hb) (Kd.R_below (ra_ m) hb) (Kd.R_below (ra_ s) hb) (Kd.R_below (ra_ u) hb) (blk_below (bk_ l) hb) (below_step (bl1_ HB D) hb) ?_
           clear y x m s u l HB hb
           intro y x m s u l HB
           refine ⟨_, _, rfl, (cz10_ l), pt_, fun hHeld => ?_⟩
           refine pur_ 20 (bo_ 22 2097151) (some 85) HT_ ?_
           refine pur_ 21 (bo_ 22 4194303) (some 86) HT_ ?_
           refine done_ (done_of HT_.out (by kernel_rfl)) ?_
           try go_wp2
           go_roundg e9
           case measure => have := h0.out; have := h9.out; omega
           case rel => exact ⟨(wrap64 (b5 + 1)), (by first | rfl | (simp; done) | (simp [*]; done)), H', ⟨by have := h0.out; have := h9.out; omega⟩, ⟨ra_ y⟩, ⟨ra_ x⟩, ⟨ra_ m⟩, ⟨ra_ s⟩, ⟨ra_ u⟩, ⟨by (with_reducible repeat (first | refine blk_drewN ?_ _ | refine blk_drew ?_ | refine blk_alloc ?_ _)); exact l.out⟩, ⟨bl1_ HB D⟩⟩
     ·rw [if_neg h1] at H
      have m0 : decide (b5 < f8) = false := decide_eq_false h1
      clear h1
      replace H := bs_ H
      obtain ⟨⟨T, L, M, U, X, Y, Z, a0, O, a1, g3, g8⟩, j9, H⟩ := H
      dsimp only at H
      replace H := bs_ H
      obtain ⟨p0, k0, H⟩ := H
      by_cases i3 : p0 = true
      ·subst i3
       try rw [if_pos rfl] at H
       by_cases h2 : g3 ≥ 0
       ·rw [if_pos h2] at H
        have n3 : decide (0 ≤ g3) = true := decide_eq_true h2
        clear h2
        by_cases h3 : g3 < (L.length : Int)
        ·rw [if_pos h3] at H
         have n4 := decide_eq_true h3
         clear h3
         replace H := bs_ H
         obtain ⟨p1, l7, H⟩ := H
         have hRT_ := Aside0.mk (Option.some.inj H)
         clear H
         go_wp2_with (first | ((with_reducible refine gate_callee (f := 32) rfl ?_); refine gl_ 89 Try.func32 (spec_DrawMayDisturb.calls k1 _ _ l0 T L M U X Y Z a0 O a1 g3 g8 _ (ck_ h7 HB) h6.out j9.out) ?_; rintro e u5 ⟨p5, p6, p7, rfl, b6, g1, g2, hb⟩; refine ⟨_, rfl, sh10_ (Kd.R_below (ra_ y) hb) (Kd.R_below (ra_ x) hb) (Kd.R_elder' (ra_ m) (Kd.R_base b6) hb) (Kd.R_elder' (ra_ s) (Kd.R_base g1) hb) (Kd.R_elder' (ra_ u) (Kd.R_base g2) hb) (Kd.R_lower (Kd.R_new' b6 (Kd.R_lt (ra_ m))) (below_size (bl1_ HB D))) (Kd.R_lower (Kd.R_new' g1 (Kd.R_lt (ra_ s))) (below_size (bl1_ HB D))) (Kd.R_lower (Kd.R_new' g2 (Kd.R_lt (ra_ u))) (below_size (bl1_ HB D))) (blk_below (bk_ l) hb) (below_step (bl1_ HB D) hb) ?_⟩; clear y x m s u l HB hb b6 g1 g2; intro y x m s u a9 b0 b1 l HB) | ((with_reducible refine gate_dst (N := 12) rfl ?_); (try (refine gate_guard (by rfl) ?_; dsimp only)); refine box_event ?hg (N := 12) ?hd (cs := #[iv_ 0, .slice none 0 0, .slice none 0 0, iv_ 0, iv_ 0, iv_ 0, iv_ 0, iv_ 0, .slice none 0 0, iv_ 0]) (t := 28) ?hr ?_; (case hd => rfl); (case hg => rfl); (case hr => first | (go_simp; done) | (go_simp; rfl)); intro j hg u6 hbox hb; refine sh14_ (Kd.R_below (ra_ y) hb) (Kd.R_below (ra_ x) hb) (Kd.R_below (ra_ m) hb) (Kd.R_below (ra_ s) hb) (Kd.R_below (ra_ u) hb) (Kd.R_below (ra_ a9) hb) (Kd.R_below (ra_ b0) hb) (Kd.R_below (ra_ b1) hb) (blk_below (bk_ l) hb) (below_step (bl1_ HB D) hb) hbox (ge_ hg (bl1_ HB D)) (nl_ hg (bk_ l)) (ng_ hg (bk_ l)) ?_; clear y x m s u a9 b0 b1 l HB hb hbox hg; intro y x m s u a9 b0 b1 l HB J g9 j0 j2; have r7 := j2.out; have r9 := j0.out; have r4 := cf10_ J; obtain ⟨e2, d6, o3⟩ := Kd.R_slice a9.out; subst o3; obtain ⟨e3, d7, o4⟩ := Kd.R_slice b0.out; subst o4; obtain ⟨e4, d8, o5⟩ := Kd.R_slice b1.out; subst o5) | ((with_reducible refine gate_callee (f := 31) rfl ?_); refine goesL_ (some 96) rfl rfl Try.func31 (by kernel_rfl) rfl #[.agg #[iv_ T, .slice e2 L.length d6, .slice e3 M.length d7, iv_ U, iv_ X, iv_ Y, iv_ Z, iv_ a0, .slice e4 O.length d8, iv_ a1], iv_ g3, iv_ g8] rfl mp_ ?_; (with_reducible refine (impl_MayDisturb.calls k1 T _ _ L _ _ M U X Y Z a0 _ _ O a1 g3 g8 true _ ?side1 ?side2 ?side3 ?side4 ?side5 ?side6 k0.out).mono ?_); (case side1 => refine (Kd.R_reads' (e := 72) (base := w.heap.size) (ok := fun k_ => (True ∧ some k_ ≠ (.slice d1 E.length b7 : Value).ownBlock)) (n := L.length) (c := d6) ?_).2.2; exact (by (with_reducible repeat (first | apply Kd.R_alloc | apply Kd.R_drewN | apply Kd.R_drew)); exact (Kd.R_mono (Kd.R_far (p := ⟨j, 9, none⟩) (Kd.R_far (p := ⟨j, 8, none⟩) (Kd.R_far (p := ⟨j, 7, none⟩) (Kd.R_far (p := ⟨j, 6, none⟩) (Kd.R_far (p := ⟨j, 5, none⟩) (Kd.R_far (p := ⟨j, 4, none⟩) (Kd.R_far (p := ⟨j, 3, none⟩) (Kd.R_far (p := ⟨j, 2, none⟩) (Kd.R_far (p := ⟨j, 1, none⟩) (Kd.R_far (p := ⟨j, 0, none⟩) (Kd.R_types a9.out J.out (by decide)) (fun _ hk => hk.2) (iv_ T)) (fun _ hk => hk.2) (.slice e2 L.length d6)) (fun _ hk => hk.2) (.slice e3 M.length d7)) (fun _ hk => hk.2) (iv_ U)) (fun _ hk => hk.2) (iv_ X)) (fun _ hk => hk.2) (iv_ Y)) (fun _ hk => hk.2) (iv_ Z)) (fun _ hk => hk.2) (iv_ a0)) (fun _ hk => hk.2) (.slice e4 O.length d8)) (fun _ hk => hk.2) (iv_ a1)) (fun _ h_ => h_.1)))); (case side2 => exact (Kd.R_reads' a9.out).2.1); (case side3 => refine (Kd.R_reads' (e := 74) (base := w.heap.size) (ok := fun k_ => (True ∧ some k_ ≠ (.slice d2 G.length b8 : Value).ownBlock)) (n := M.length) (c := d7) ?_).2.2; exact (by (with_reducible repeat (first | apply Kd.R_alloc | apply Kd.R_drewN | apply Kd.R_drew)); exact (Kd.R_mono (Kd.R_far (p := ⟨j, 9, none⟩) (Kd.R_far (p := ⟨j, 8, none⟩) (Kd.R_far (p := ⟨j, 7, none⟩) (Kd.R_far (p := ⟨j, 6, none⟩) (Kd.R_far (p := ⟨j, 5, none⟩) (Kd.R_far (p := ⟨j, 4, none⟩) (Kd.R_far (p := ⟨j, 3, none⟩) (Kd.R_far (p := ⟨j, 2, none⟩) (Kd.R_far (p := ⟨j, 1, none⟩) (Kd.R_far (p := ⟨j, 0, none⟩) (Kd.R_types b0.out J.out (by decide)) (fun _ hk => hk.2) (iv_ T)) (fun _ hk => hk.2) (.slice e2 L.length d6)) (fun _ hk => hk.2) (.slice e3 M.length d7)) (fun _ hk => hk.2) (iv_ U)) (fun _ hk => hk.2) (iv_ X)) (fun _ hk => hk.2) (iv_ Y)) (fun _ hk => hk.2) (iv_ Z)) (fun _ hk => hk.2) (iv_ a0)) (fun _ hk => hk.2) (.slice e4 O.length d8)) (fun _ hk => hk.2) (iv_ a1)) (fun _ h_ => h_.1)))); (case side4 => exact (Kd.R_reads' b0.out).2.1); (case side5 => refine (Kd.R_reads' (e := 88) (base := w.heap.size) (ok := fun k_ => (True ∧ some k_ ≠ (.slice d3 I.length b9 : Value).ownBlock)) (n := O.length) (c := d8) ?_).2.2; exact (by (with_reducible repeat (first | apply Kd.R_alloc | apply Kd.R_drewN | apply Kd.R_drew)); exact (Kd.R_mono (Kd.R_far (p := ⟨j, 9, none⟩) (Kd.R_far (p := ⟨j, 8, none⟩) (Kd.R_far (p := ⟨j, 7, none⟩) (Kd.R_far (p := ⟨j, 6, none⟩) (Kd.R_far (p := ⟨j, 5, none⟩) (Kd.R_far (p := ⟨j, 4, none⟩) (Kd.R_far (p := ⟨j, 3, none⟩) (Kd.R_far (p := ⟨j, 2, none⟩) (Kd.R_far (p := ⟨j, 1, none⟩) (Kd.R_far (p := ⟨j, 0, none⟩) (Kd.R_types b1.out J.out (by decide)) (fun _ hk => hk.2) (iv_ T)) (fun _ hk => hk.2) (.slice e2 L.length d6)) (fun _ hk => hk.2) (.slice e3 M.length d7)) (fun _ hk => hk.2) (iv_ U)) (fun _ hk => hk.2) (iv_ X)) (fun _ hk => hk.2) (iv_ Y)) (fun _ hk => hk.2) (iv_ Z)) (fun _ hk => hk.2) (iv_ a0)) (fun _ hk => hk.2) (.slice e4 O.length d8)) (fun _ hk => hk.2) (iv_ a1)) (fun _ h_ => h_.1)))); (case side6 => exact (Kd.R_reads' b1.out).2.1); rintro e u7 ⟨rfl, hb⟩; refine ⟨_, rfl, sh11_ (Kd.R_below (by (with_reducible repeat (first | apply Kd.R_alloc | apply Kd.R_drewN | apply Kd.R_drew)); exact (Kd.R_mono (Kd.R_far (p := ⟨j, 9, none⟩) (Kd.R_far (p := ⟨j, 8, none⟩) (Kd.R_far (p := ⟨j, 7, none⟩) (Kd.R_far (p := ⟨j, 6, none⟩) (Kd.R_far (p := ⟨j, 5, none⟩) (Kd.R_far (p := ⟨j, 4, none⟩) (Kd.R_far (p := ⟨j, 3, none⟩) (Kd.R_far (p := ⟨j, 2, none⟩) (Kd.R_far (p := ⟨j, 1, none⟩) (Kd.R_far (p := ⟨j, 0, none⟩) (Kd.R_types y.out J.out (by decide)) (fun _ hk => hk.2) (iv_ T)) (fun _ hk => hk.2) (.slice e2 L.length d6)) (fun _ hk => hk.2) (.slice e3 M.length d7)) (fun _ hk => hk.2) (iv_ U)) (fun _ hk => hk.2) (iv_ X)) (fun _ hk => hk.2) (iv_ Y)) (fun _ hk => hk.2) (iv_ Z)) (fun _ hk => hk.2) (iv_ a0)) (fun _ hk => hk.2) (.slice e4 O.length d8)) (fun _ hk => hk.2) (iv_ a1)) (fun _ h_ => h_.1))) hb) (Kd.R_below (by (with_reducible repeat (first | apply Kd.R_alloc | apply Kd.R_drewN | apply Kd.R_drew)); exact (Kd.R_mono (Kd.R_far (p := ⟨j, 9, none⟩) (Kd.R_far (p := ⟨j, 8, none⟩) (Kd.R_far (p := ⟨j, 7, none⟩) (Kd.R_far (p := ⟨j, 6, none⟩) (Kd.R_far (p := ⟨j, 5, none⟩) (Kd.R_far (p := ⟨j, 4, none⟩) (Kd.R_far (p := ⟨j, 3, none⟩) (Kd.R_far (p := ⟨j, 2, none⟩) (Kd.R_far (p := ⟨j, 1, none⟩) (Kd.R_far (p := ⟨j, 0, none⟩) (Kd.R_types x.out J.out (by decide)) (fun _ hk => hk.2) (iv_ T)) (fun _ hk => hk.2) (.slice e2 L.length d6)) (fun _ hk => hk.2) (.slice e3 M.length d7)) (fun _ hk => hk.2) (iv_ U)) (fun _ hk => hk.2) (iv_ X)) (fun _ hk => hk.2) (iv_ Y)) (fun _ hk => hk.2) (iv_ Z)) (fun _ hk => hk.2) (iv_ a0)) (fun _ hk => hk.2) (.slice e4 O.length d8)) (fun _ hk => hk.2) (iv_ a1)) (fun _ h_ => h_.1))) hb) (Kd.R_below (by (with_reducible repeat (first | apply Kd.R_alloc | apply Kd.R_drewN | apply Kd.R_drew)); exact (Kd.R_mono (Kd.R_far (p := ⟨j, 9, none⟩) (Kd.R_far (p := ⟨j, 8, none⟩) (Kd.R_far (p := ⟨j, 7, none⟩) (Kd.R_far (p := ⟨j, 6, none⟩) (Kd.R_far (p := ⟨j, 5, none⟩) (Kd.R_far (p := ⟨j, 4, none⟩) (Kd.R_far (p := ⟨j, 3, none⟩) (Kd.R_far (p := ⟨j, 2, none⟩) (Kd.R_far (p := ⟨j, 1, none⟩) (Kd.R_far (p := ⟨j, 0, none⟩) (Kd.R_types m.out J.out (by decide)) (fun _ hk => hk.2) (iv_ T)) (fun _ hk => hk.2) (.slice e2 L.length d6)) (fun _ hk => hk.2) (.slice e3 M.length d7)) (fun _ hk => hk.2) (iv_ U)) (fun _ hk => hk.2) (iv_ X)) (fun _ hk => hk.2) (iv_ Y)) (fun _ hk => hk.2) (iv_ Z)) (fun _ hk => hk.2) (iv_ a0)) (fun _ hk => hk.2) (.slice e4 O.length d8)) (fun _ hk => hk.2) (iv_ a1)) (fun _ h_ => h_.1))) hb) (Kd.R_below (by (with_reducible repeat (first | apply Kd.R_alloc | apply Kd.R_drewN | apply Kd.R_drew)); exact (Kd.R_mono (Kd.R_far (p := ⟨j, 9, none⟩) (Kd.R_far (p := ⟨j, 8, none⟩) (Kd.R_far (p := ⟨j, 7, none⟩) (Kd.R_far (p := ⟨j, 6, none⟩) (Kd.R_far (p := ⟨j, 5, none⟩) (Kd.R_far (p := ⟨j, 4, none⟩) (Kd.R_far (p := ⟨j, 3, none⟩) (Kd.R_far (p := ⟨j, 2, none⟩) (Kd.R_far (p := ⟨j, 1, none⟩) (Kd.R_far (p := ⟨j, 0, none⟩) (Kd.R_types s.out J.out (by decide)) (fun _ hk => hk.2) (iv_ T)) (fun _ hk => hk.2) (.slice e2 L.length d6)) (fun _ hk => hk.2) (.slice e3 M.length d7)) (fun _ hk => hk.2) (iv_ U)) (fun _ hk => hk.2) (iv_ X)) (fun _ hk => hk.2) (iv_ Y)) (fun _ hk => hk.2) (iv_ Z)) (fun _ hk => hk.2) (iv_ a0)) (fun _ hk => hk.2) (.slice e4 O.length d8)) (fun _ hk => hk.2) (iv_ a1)) (fun _ h_ => h_.1))) hb) (Kd.R_below (by (with_reducible repeat (first | apply Kd.R_alloc | apply Kd.R_drewN | apply Kd.R_drew)); exact (Kd.R_mono (Kd.R_far (p := ⟨j, 9, none⟩) (Kd.R_far (p := ⟨j, 8, none⟩) (Kd.R_far (p := ⟨j, 7, none⟩) (Kd.R_far (p := ⟨j, 6, none⟩) (Kd.R_far (p := ⟨j, 5, none⟩) (Kd.R_far (p := ⟨j, 4, none⟩) (Kd.R_far (p := ⟨j, 3, none⟩) (Kd.R_far (p := ⟨j, 2, none⟩) (Kd.R_far (p := ⟨j, 1, none⟩) (Kd.R_far (p := ⟨j, 0, none⟩) (Kd.R_types u.out J.out (by decide)) (fun _ hk => hk.2) (iv_ T)) (fun _ hk => hk.2) (.slice e2 L.length d6)) (fun _ hk => hk.2) (.slice e3 M.length d7)) (fun _ hk => hk.2) (iv_ U)) (fun _ hk => hk.2) (iv_ X)) (fun _ hk => hk.2) (iv_ Y)) (fun _ hk => hk.2) (iv_ Z)) (fun _ hk => hk.2) (iv_ a0)) (fun _ hk => hk.2) (.slice e4 O.length d8)) (fun _ hk => hk.2) (iv_ a1)) (fun _ h_ => h_.1))) hb) (Kd.R_below (by (with_reducible repeat (first | apply Kd.R_alloc | apply Kd.R_drewN | apply Kd.R_drew)); exact (Kd.R_mono (Kd.R_far (p := ⟨j, 9, none⟩) (Kd.R_far (p := ⟨j, 8, none⟩) (Kd.R_far (p := ⟨j, 7, none⟩) (Kd.R_far (p := ⟨j, 6, none⟩) (Kd.R_far (p := ⟨j, 5, none⟩) (Kd.R_far (p := ⟨j, 4, none⟩) (Kd.R_far (p := ⟨j, 3, none⟩) (Kd.R_far (p := ⟨j, 2, none⟩) (Kd.R_far (p := ⟨j, 1, none⟩) (Kd.R_far (p := ⟨j, 0, none⟩) (Kd.R_types a9.out J.out (by decide)) (fun _ hk => hk.2) (iv_ T)) (fun _ hk => hk.2) (.slice e2 L.length d6)) (fun _ hk => hk.2) (.slice e3 M.length d7)) (fun _ hk => hk.2) (iv_ U)) (fun _ hk => hk.2) (iv_ X)) (fun _ hk => hk.2) (iv_ Y)) (fun _ hk => hk.2) (iv_ Z)) (fun _ hk => hk.2) (iv_ a0)) (fun _ hk => hk.2) (.slice e4 O.length d8)) (fun _ hk => hk.2) (iv_ a1)) (fun _ h_ => h_.1))) hb) (Kd.R_below (by (with_reducible repeat (first | apply Kd.R_alloc | apply Kd.R_drewN | apply Kd.R_drew)); exact (Kd.R_mono (Kd.R_far (p := ⟨j, 9, none⟩) (Kd.R_far (p := ⟨j, 8, none⟩) (Kd.R_far (p := ⟨j, 7, none⟩) (Kd.R_far (p := ⟨j, 6, none⟩) (Kd.R_far (p := ⟨j, 5, none⟩) (Kd.R_far (p := ⟨j, 4, none⟩) (Kd.R_far (p := ⟨j, 3, none⟩) (Kd.R_far (p := ⟨j, 2, none⟩) (Kd.R_far (p := ⟨j, 1, none⟩) (Kd.R_far (p := ⟨j, 0, none⟩) (Kd.R_types b0.out J.out (by decide)) (fun _ hk => hk.2) (iv_ T)) (fun _ hk => hk.2) (.slice e2 L.length d6)) (fun _ hk => hk.2) (.slice e3 M.length d7)) (fun _ hk => hk.2) (iv_ U)) (fun _ hk => hk.2) (iv_ X)) (fun _ hk => hk.2) (iv_ Y)) (fun _ hk => hk.2) (iv_ Z)) (fun _ hk => hk.2) (iv_ a0)) (fun _ hk => hk.2) (.slice e4 O.length d8)) (fun _ hk => hk.2) (iv_ a1)) (fun _ h_ => h_.1))) hb) (Kd.R_below (by (with_reducible repeat (first | apply Kd.R_alloc | apply Kd.R_drewN | apply Kd.R_drew)); exact (Kd.R_mono (Kd.R_far (p := ⟨j, 9, none⟩) (Kd.R_far (p := ⟨j, 8, none⟩) (Kd.R_far (p := ⟨j, 7, none⟩) (Kd.R_far (p := ⟨j, 6, none⟩) (Kd.R_far (p := ⟨j, 5, none⟩) (Kd.R_far (p := ⟨j, 4, none⟩) (Kd.R_far (p := ⟨j, 3, none⟩) (Kd.R_far (p := ⟨j, 2, none⟩) (Kd.R_far (p := ⟨j, 1, none⟩) (Kd.R_far (p := ⟨j, 0, none⟩) (Kd.R_types b1.out J.out (by decide)) (fun _ hk => hk.2) (iv_ T)) (fun _ hk => hk.2) (.slice e2 L.length d6)) (fun _ hk => hk.2) (.slice e3 M.length d7)) (fun _ hk => hk.2) (iv_ U)) (fun _ hk => hk.2) (iv_ X)) (fun _ hk => hk.2) (iv_ Y)) (fun _ hk => hk.2) (iv_ Z)) (fun _ hk => hk.2) (iv_ a0)) (fun _ hk => hk.2) (.slice e4 O.length d8)) (fun _ hk => hk.2) (iv_ a1)) (fun _ h_ => h_.1))) hb) (blk_below (g := z) (o := .cells #[iv_ a2, .slice d1 E.length b7, .slice d2 G.length b8, iv_ a3, iv_ a4, iv_ a5, iv_ a6, iv_ a7, .slice d3 I.length b9, iv_ a8] 28 (0, 0)) (bp_ l) hb) (blk_below (g := j) (o := .cells #[iv_ T, .slice e2 L.length d6, .slice e3 M.length d7, iv_ U, iv_ X, iv_ Y, iv_ Z, iv_ a0, .slice e4 O.length d8, iv_ a1] 28 (0, 0)) (bp_ J) hb) (below_step (bl2_ HB D g9) hb) ?_⟩; clear y x m s u a9 b0 b1 l J HB hb; intro y x m s u a9 b0 b1 l J HB; have r5 := cf10_ J) | (go_at_call 33; (with_reducible refine (impl_IsQuietSky.calls k1 T _ _ L _ _ M U X Y Z a0 _ _ O a1 g8 p1 _ ?side1 ?side2 ?side3 ?side4 ?side5 ?side6 l7.out).mono ?_); (case side1 => repeat (first | exact (Kd.R_reads' a9.out).2.2 | (with_reducible refine Kd.C_alloc ?_ _) | (with_reducible refine Kd.C_drewN ?_ _) | (with_reducible refine Kd.C_drew ?_))); (case side2 => exact (Kd.R_reads' a9.out).2.1); (case side3 => repeat (first | exact (Kd.R_reads' b0.out).2.2 | (with_reducible refine Kd.C_alloc ?_ _) | (with_reducible refine Kd.C_drewN ?_ _) | (with_reducible refine Kd.C_drew ?_))); (case side4 => exact (Kd.R_reads' b0.out).2.1); (case side5 => repeat (first | exact (Kd.R_reads' b1.out).2.2 | (with_reducible refine Kd.C_alloc ?_ _) | (with_reducible refine Kd.C_drewN ?_ _) | (with_reducible refine Kd.C_drew ?_))); (case side6 => exact (Kd.R_reads' b1.out).2.1); rintro e u9 ⟨rfl, hb⟩; refine sh11_ (Kd.R_below (ra_ y) hb) (Kd.R_below (ra_ x) hb) (Kd.R_below (ra_ m) hb) (Kd.R_below (ra_ s) hb) (Kd.R_below (ra_ u) hb) (Kd.R_below (ra_ a9) hb) (Kd.R_below (ra_ b0) hb) (Kd.R_below (ra_ b1) hb) (blk_below (bk_ l) hb) (blk_below (bk_ J) hb) (below_step (bl2_ HB D g9) hb) ?_; clear y x m s u a9 b0 b1 l J HB hb; intro y x m s u a9 b0 b1 l J HB))
         go_ret
         exact ⟨by first | (rw [hRT_.out]; rfl) | exact er_, bl2_ HB D g9⟩
        ·rw [if_neg h3] at H
         have n4 := decide_eq_false h3
         clear h3
         exact absurd H (by simp)
       ·rw [if_neg h2] at H
        have n3 : decide (0 ≤ g3) = false := decide_eq_false h2
        clear h2
        exact absurd H (by simp)
      ·replace i3 := Bool.eq_false_iff.mpr i3
       subst i3
       have H1 : (some true) = some true := by first | (rw [if_neg (show ¬ (false = true) by decide)] at H; exact H) | rfl
       clear H
       have H := H1
       clear H1
       clear H
       go_wp2_with (first | ((with_reducible refine gate_callee (f := 32) rfl ?_); refine gl_ 89 Try.func32 (spec_DrawMayDisturb.calls k1 _ _ l0 T L M U X Y Z a0 O a1 g3 g8 _ (ck_ h7 HB) h6.out j9.out) ?_; rintro e v0 ⟨p5, p6, p7, rfl, b6, g1, g2, hb⟩; refine ⟨_, rfl, sh10_ (Kd.R_below (ra_ y) hb) (Kd.R_below (ra_ x) hb) (Kd.R_elder' (ra_ m) (Kd.R_base b6) hb) (Kd.R_elder' (ra_ s) (Kd.R_base g1) hb) (Kd.R_elder' (ra_ u) (Kd.R_base g2) hb) (Kd.R_lower (Kd.R_new' b6 (Kd.R_lt (ra_ m))) (below_size (bl1_ HB D))) (Kd.R_lower (Kd.R_new' g1 (Kd.R_lt (ra_ s))) (below_size (bl1_ HB D))) (Kd.R_lower (Kd.R_new' g2 (Kd.R_lt (ra_ u))) (below_size (bl1_ HB D))) (blk_below (bk_ l) hb) (below_step (bl1_ HB D) hb) ?_⟩; clear y x m s u l HB hb b6 g1 g2; intro y x m s u a9 b0 b1 l HB) | ((with_reducible refine gate_dst (N := 12) rfl ?_); (try (refine gate_guard (by rfl) ?_; dsimp only)); refine box_event ?hg (N := 12) ?hd (cs := #[iv_ 0, .slice none 0 0, .slice none 0 0, iv_ 0, iv_ 0, iv_ 0, iv_ 0, iv_ 0, .slice none 0 0, iv_ 0]) (t := 28) ?hr ?_; (case hd => rfl); (case hg => rfl); (case hr => first | (go_simp; done) | (go_simp; rfl)); intro j hg v1 hbox hb; refine sh14_ (Kd.R_below (ra_ y) hb) (Kd.R_below (ra_ x) hb) (Kd.R_below (ra_ m) hb) (Kd.R_below (ra_ s) hb) (Kd.R_below (ra_ u) hb) (Kd.R_below (ra_ a9) hb) (Kd.R_below (ra_ b0) hb) (Kd.R_below (ra_ b1) hb) (blk_below (bk_ l) hb) (below_step (bl1_ HB D) hb) hbox (ge_ hg (bl1_ HB D)) (nl_ hg (bk_ l)) (ng_ hg (bk_ l)) ?_; clear y x m s u a9 b0 b1 l HB hb hbox hg; intro y x m s u a9 b0 b1 l HB J g9 j0 j2; have r8 := j2.out; have s0 := j0.out; have r6 := cf10_ J; obtain ⟨e5, d9, o6⟩ := Kd.R_slice a9.out; subst o6; obtain ⟨e6, e0, o7⟩ := Kd.R_slice b0.out; subst o7; obtain ⟨e7, e1, o8⟩ := Kd.R_slice b1.out; subst o8) | ((with_reducible refine gate_callee (f := 31) rfl ?_); refine goesL_ (some 96) rfl rfl Try.func31 (by kernel_rfl) rfl #[.agg #[iv_ T, .slice e5 L.length d9, .slice e6 M.length e0, iv_ U, iv_ X, iv_ Y, iv_ Z, iv_ a0, .slice e7 O.length e1, iv_ a1], iv_ g3, iv_ g8] rfl mp_ ?_; (with_reducible refine (impl_MayDisturb.calls k1 T _ _ L _ _ M U X Y Z a0 _ _ O a1 g3 g8 false _ ?side1 ?side2 ?side3 ?side4 ?side5 ?side6 k0.out).mono ?_); (case side1 => refine (Kd.R_reads' (e := 72) (base := w.heap.size) (ok := fun k_ => (True ∧ some k_ ≠ (.slice d1 E.length b7 : Value).ownBlock)) (n := L.length) (c := d9) ?_).2.2; exact (by (with_reducible repeat (first | apply Kd.R_alloc | apply Kd.R_drewN | apply Kd.R_drew)); exact (Kd.R_mono (Kd.R_far (p := ⟨j, 9, none⟩) (Kd.R_far (p := ⟨j, 8, none⟩) (Kd.R_far (p := ⟨j, 7, none⟩) (Kd.R_far (p := ⟨j, 6, none⟩) (Kd.R_far (p := ⟨j, 5, none⟩) (Kd.R_far (p := ⟨j, 4, none⟩) (Kd.R_far (p := ⟨j, 3, none⟩) (Kd.R_far (p := ⟨j, 2, none⟩) (Kd.R_far (p := ⟨j, 1, none⟩) (Kd.R_far (p := ⟨j, 0, none⟩) (Kd.R_types a9.out J.out (by decide)) (fun _ hk => hk.2) (iv_ T)) (fun _ hk => hk.2) (.slice e5 L.length d9)) (fun _ hk => hk.2) (.slice e6 M.length e0)) (fun _ hk => hk.2) (iv_ U)) (fun _ hk => hk.2) (iv_ X)) (fun _ hk => hk.2) (iv_ Y)) (fun _ hk => hk.2) (iv_ Z)) (fun _ hk => hk.2) (iv_ a0)) (fun _ hk => hk.2) (.slice e7 O.length e1)) (fun _ hk => hk.2) (iv_ a1)) (fun _ h_ => h_.1)))); (case side2 => exact (Kd.R_reads' a9.out).2.1); (case side3 => refine (Kd.R_reads' (e := 74) (base := w.heap.size) (ok := fun k_ => (True ∧ some k_ ≠ (.slice d2 G.length b8 : Value).ownBlock)) (n := M.length) (c := e0) ?_).2.2; exact (by (with_reducible repeat (first | apply Kd.R_alloc | apply Kd.R_drewN | apply Kd.R_drew)); exact (Kd.R_mono (Kd.R_far (p := ⟨j, 9, none⟩) (Kd.R_far (p := ⟨j, 8, none⟩) (Kd.R_far (p := ⟨j, 7, none⟩) (Kd.R_far (p := ⟨j, 6, none⟩) (Kd.R_far (p := ⟨j, 5, none⟩) (Kd.R_far (p := ⟨j, 4, none⟩) (Kd.R_far (p := ⟨j, 3, none⟩) (Kd.R_far (p := ⟨j, 2, none⟩) (Kd.R_far (p := ⟨j, 1, none⟩) (Kd.R_far (p := ⟨j, 0, none⟩) (Kd.R_types b0.out J.out (by decide)) (fun _ hk => hk.2) (iv_ T)) (fun _ hk => hk.2) (.slice e5 L.length d9)) (fun _ hk => hk.2) (.slice e6 M.length e0)) (fun _ hk => hk.2) (iv_ U)) (fun _ hk => hk.2) (iv_ X)) (fun _ hk => hk.2) (iv_ Y)) (fun _ hk => hk.2) (iv_ Z)) (fun _ hk => hk.2) (iv_ a0)) (fun _ hk => hk.2) (.slice e7 O.length e1)) (fun _ hk => hk.2) (iv_ a1)) (fun _ h_ => h_.1)))); (case side4 => exact (Kd.R_reads' b0.out).2.1); (case side5 => refine (Kd.R_reads' (e := 88) (base := w.heap.size) (ok := fun k_ => (True ∧ some k_ ≠ (.slice d3 I.length b9 : Value).ownBlock)) (n := O.length) (c := e1) ?_).2.2; exact (by (with_reducible repeat (first | apply Kd.R_alloc | apply Kd.R_drewN | apply Kd.R_drew)); exact (Kd.R_mono (Kd.R_far (p := ⟨j, 9, none⟩) (Kd.R_far (p := ⟨j, 8, none⟩) (Kd.R_far (p := ⟨j, 7, none⟩) (Kd.R_far (p := ⟨j, 6, none⟩) (Kd.R_far (p := ⟨j, 5, none⟩) (Kd.R_far (p := ⟨j, 4, none⟩) (Kd.R_far (p := ⟨j, 3, none⟩) (Kd.R_far (p := ⟨j, 2, none⟩) (Kd.R_far (p := ⟨j, 1, none⟩) (Kd.R_far (p := ⟨j, 0, none⟩) (Kd.R_types b1.out J.out (by decide)) (fun _ hk => hk.2) (iv_ T)) (fun _ hk => hk.2) (.slice e5 L.length d9)) (fun _ hk => hk.2) (.slice e6 M.length e0)) (fun _ hk => hk.2) (iv_ U)) (fun _ hk => hk.2) (iv_ X)) (fun _ hk => hk.2) (iv_ Y)) (fun _ hk => hk.2) (iv_ Z)) (fun _ hk => hk.2) (iv_ a0)) (fun _ hk => hk.2) (.slice e7 O.length e1)) (fun _ hk => hk.2) (iv_ a1)) (fun _ h_ => h_.1)))); (case side6 => exact (Kd.R_reads' b1.out).2.1); rintro e v2 ⟨rfl, hb⟩; refine ⟨_, rfl, sh11_ (Kd.R_below (by (with_reducible repeat (first | apply Kd.R_alloc | apply Kd.R_drewN | apply Kd.R_drew)); exact (Kd.R_mono (Kd.R_far (p := ⟨j, 9, none⟩) (Kd.R_far (p := ⟨j, 8, none⟩) (Kd.R_far (p := ⟨j, 7, none⟩) (Kd.R_far (p := ⟨j, 6, none⟩) (Kd.R_far (p := ⟨j, 5, none⟩) (Kd.R_far (p := ⟨j, 4, none⟩) (Kd.R_far (p := ⟨j, 3, none⟩) (Kd.R_far (p := ⟨j, 2, none⟩) (Kd.R_far (p := ⟨j, 1, none⟩) (Kd.R_far (p := ⟨j, 0, none⟩) (Kd.R_types y.out J.out (by decide)) (fun _ hk => hk.2) (iv_ T)) (fun _ hk => hk.2) (.slice e5 L.length d9)) (fun _ hk => hk.2) (.slice e6 M.length e0)) (fun _ hk => hk.2) (iv_ U)) (fun _ hk => hk.2) (iv_ X)) (fun _ hk => hk.2) (iv_ Y)) (fun _ hk => hk.2) (iv_ Z)) (fun _ hk => hk.2) (iv_ a0)) (fun _ hk => hk.2) (.slice e7 O.length e1)) (fun _ hk => hk.2) (iv_ a1)) (fun _ h_ => h_.1))) hb) (Kd.R_below (by (with_reducible repeat (first | apply Kd.R_alloc | apply Kd.R_drewN | apply Kd.R_drew)); exact (Kd.R_mono (Kd.R_far (p := ⟨j, 9, none⟩) (Kd.R_far (p := ⟨j, 8, none⟩) (Kd.R_far (p := ⟨j, 7, none⟩) (Kd.R_far (p := ⟨j, 6, none⟩) (Kd.R_far (p := ⟨j, 5, none⟩) (Kd.R_far (p := ⟨j, 4, none⟩) (Kd.R_far (p := ⟨j, 3, none⟩) (Kd.R_far (p := ⟨j, 2, none⟩) (Kd.R_far (p := ⟨j, 1, none⟩) (Kd.R_far (p := ⟨j, 0, none⟩) (Kd.R_types x.out J.out (by decide)) (fun _ hk => hk.2) (iv_ T)) (fun _ hk => hk.2) (.slice e5 L.length d9)) (fun _ hk => hk.2) (.slice e6 M.length e0)) (fun _ hk => hk.2) (iv_ U)) (fun _ hk => hk.2) (iv_ X)) (fun _ hk => hk.2) (iv_ Y)) (fun _ hk => hk.2) (iv_ Z)) (fun _ hk => hk.2) (iv_ a0)) (fun _ hk => hk.2) (.slice e7 O.length e1)) (fun _ hk => hk.2) (iv_ a1)) (fun _ h_ => h_.1))) hb) (Kd.R_below (by (with_reducible repeat (first | apply Kd.R_alloc | apply Kd.R_drewN | apply Kd.R_drew)); exact (Kd.R_mono (Kd.R_far (p := ⟨j, 9, none⟩) (Kd.R_far (p := ⟨j, 8, none⟩) (Kd.R_far (p := ⟨j, 7, none⟩) (Kd.R_far (p := ⟨j, 6, none⟩) (Kd.R_far (p := ⟨j, 5, none⟩) (Kd.R_far (p := ⟨j, 4, none⟩) (Kd.R_far (p := ⟨j, 3, none⟩) (Kd.R_far (p := ⟨j, 2, none⟩) (Kd.R_far (p := ⟨j, 1, none⟩) (Kd.R_far (p := ⟨j, 0, none⟩) (Kd.R_types m.out J.out (by decide)) (fun _ hk => hk.2) (iv_ T)) (fun _ hk => hk.2) (.slice e5 L.length d9)) (fun _ hk => hk.2) (.slice e6 M.length e0)) (fun _ hk => hk.2) (iv_ U)) (fun _ hk => hk.2) (iv_ X)) (fun _ hk => hk.2) (iv_ Y)) (fun _ hk => hk.2) (iv_ Z)) (fun _ hk => hk.2) (iv_ a0)) (fun _ hk => hk.2) (.slice e7 O.length e1)) (fun _ hk => hk.2) (iv_ a1)) (fun _ h_ => h_.1))) hb) (Kd.R_below (by (with_reducible repeat (first | apply Kd.R_alloc | apply Kd.R_drewN | apply Kd.R_drew)); exact (Kd.R_mono (Kd.R_far (p := ⟨j, 9, none⟩) (Kd.R_far (p := ⟨j, 8, none⟩) (Kd.R_far (p := ⟨j, 7, none⟩) (Kd.R_far (p := ⟨j, 6, none⟩) (Kd.R_far (p := ⟨j, 5, none⟩) (Kd.R_far (p := ⟨j, 4, none⟩) (Kd.R_far (p := ⟨j, 3, none⟩) (Kd.R_far (p := ⟨j, 2, none⟩) (Kd.R_far (p := ⟨j, 1, none⟩) (Kd.R_far (p := ⟨j, 0, none⟩) (Kd.R_types s.out J.out (by decide)) (fun _ hk => hk.2) (iv_ T)) (fun _ hk => hk.2) (.slice e5 L.length d9)) (fun _ hk => hk.2) (.slice e6 M.length e0)) (fun _ hk => hk.2) (iv_ U)) (fun _ hk => hk.2) (iv_ X)) (fun _ hk => hk.2) (iv_ Y)) (fun _ hk => hk.2) (iv_ Z)) (fun _ hk => hk.2) (iv_ a0)) (fun _ hk => hk.2) (.slice e7 O.length e1)) (fun _ hk => hk.2) (iv_ a1)) (fun _ h_ => h_.1))) hb) (Kd.R_below (by (with_reducible repeat (first | apply Kd.R_alloc | apply Kd.R_drewN | apply Kd.R_drew)); exact (Kd.R_mono (Kd.R_far (p := ⟨j, 9, none⟩) (Kd.R_far (p := ⟨j, 8, none⟩) (Kd.R_far (p := ⟨j, 7, none⟩) (Kd.R_far (p := ⟨j, 6, none⟩) (Kd.R_far (p := ⟨j, 5, none⟩) (Kd.R_far (p := ⟨j, 4, none⟩) (Kd.R_far (p := ⟨j, 3, none⟩) (Kd.R_far (p := ⟨j, 2, none⟩) (Kd.R_far (p := ⟨j, 1, none⟩) (Kd.R_far (p := ⟨j, 0, none⟩) (Kd.R_types u.out J.out (by decide)) (fun _ hk => hk.2) (iv_ T)) (fun _ hk => hk.2) (.slice e5 L.length d9)) (fun _ hk => hk.2) (.slice e6 M.length e0)) (fun _ hk => hk.2) (iv_ U)) (fun _ hk => hk.2) (iv_ X)) (fun _ hk => hk.2) (iv_ Y)) (fun _ hk => hk.2) (iv_ Z)) (fun _ hk => hk.2) (iv_ a0)) (fun _ hk => hk.2) (.slice e7 O.length e1)) (fun _ hk => hk.2) (iv_ a1)) (fun _ h_ => h_.1))) hb) (Kd.R_below (by (with_reducible repeat (first | apply Kd.R_alloc | apply Kd.R_drewN | apply Kd.R_drew)); exact (Kd.R_mono (Kd.R_far (p := ⟨j, 9, none⟩) (Kd.R_far (p := ⟨j, 8, none⟩) (Kd.R_far (p := ⟨j, 7, none⟩) (Kd.R_far (p := ⟨j, 6, none⟩) (Kd.R_far (p := ⟨j, 5, none⟩) (Kd.R_far (p := ⟨j, 4, none⟩) (Kd.R_far (p := ⟨j, 3, none⟩) (Kd.R_far (p := ⟨j, 2, none⟩) (Kd.R_far (p := ⟨j, 1, none⟩) (Kd.R_far (p := ⟨j, 0, none⟩) (Kd.R_types a9.out J.out (by decide)) (fun _ hk => hk.2) (iv_ T)) (fun _ hk => hk.2) (.slice e5 L.length d9)) (fun _ hk => hk.2) (.slice e6 M.length e0)) (fun _ hk => hk.2) (iv_ U)) (fun _ hk => hk.2) (iv_ X)) (fun _ hk => hk.2) (iv_ Y)) (fun _ hk => hk.2) (iv_ Z)) (fun _ hk => hk.2) (iv_ a0)) (fun _ hk => hk.2) (.slice e7 O.length e1)) (fun _ hk => hk.2) (iv_ a1)) (fun _ h_ => h_.1))) hb) (Kd.R_below (by (with_reducible repeat (first | apply Kd.R_alloc | apply Kd.R_drewN | apply Kd.R_drew)); exact (Kd.R_mono (Kd.R_far (p := ⟨j, 9, none⟩) (Kd.R_far (p := ⟨j, 8, none⟩) (Kd.R_far (p := ⟨j, 7, none⟩) (Kd.R_far (p := ⟨j, 6, none⟩) (Kd.R_far (p := ⟨j, 5, none⟩) (Kd.R_far (p := ⟨j, 4, none⟩) (Kd.R_far (p := ⟨j, 3, none⟩) (Kd.R_far (p := ⟨j, 2, none⟩) (Kd.R_far (p := ⟨j, 1, none⟩) (Kd.R_far (p := ⟨j, 0, none⟩) (Kd.R_types b0.out J.out (by decide)) (fun _ hk => hk.2) (iv_ T)) (fun _ hk => hk.2) (.slice e5 L.length d9)) (fun _ hk => hk.2) (.slice e6 M.length e0)) (fun _ hk => hk.2) (iv_ U)) (fun _ hk => hk.2) (iv_ X)) (fun _ hk => hk.2) (iv_ Y)) (fun _ hk => hk.2) (iv_ Z)) (fun _ hk => hk.2) (iv_ a0)) (fun _ hk => hk.2) (.slice e7 O.length e1)) (fun _ hk => hk.2) (iv_ a1)) (fun _ h_ => h_.1))) hb) (Kd.R_below (by (with_reducible repeat (first | apply Kd.R_alloc | apply Kd.R_drewN | apply Kd.R_drew)); exact (Kd.R_mono (Kd.R_far (p := ⟨j, 9, none⟩) (Kd.R_far (p := ⟨j, 8, none⟩) (Kd.R_far (p := ⟨j, 7, none⟩) (Kd.R_far (p := ⟨j, 6, none⟩) (Kd.R_far (p := ⟨j, 5, none⟩) (Kd.R_far (p := ⟨j, 4, none⟩) (Kd.R_far (p := ⟨j, 3, none⟩) (Kd.R_far (p := ⟨j, 2, none⟩) (Kd.R_far (p := ⟨j, 1, none⟩) (Kd.R_far (p := ⟨j, 0, none⟩) (Kd.R_types b1.out J.out (by decide)) (fun _ hk => hk.2) (iv_ T)) (fun _ hk => hk.2) (.slice e5 L.length d9)) (fun _ hk => hk.2) (.slice e6 M.length e0)) (fun _ hk => hk.2) (iv_ U)) (fun _ hk => hk.2) (iv_ X)) (fun _ hk => hk.2) (iv_ Y)) (fun _ hk => hk.2) (iv_ Z)) (fun _ hk => hk.2) (iv_ a0)) (fun _ hk => hk.2) (.slice e7 O.length e1)) (fun _ hk => hk.2) (iv_ a1)) (fun _ h_ => h_.1))) hb) (blk_below (g := z) (o := .cells #[iv_ a2, .slice d1 E.length b7, .slice d2 G.length b8, iv_ a3, iv_ a4, iv_ a5, iv_ a6, iv_ a7, .slice d3 I.length b9, iv_ a8] 28 (0, 0)) (bp_ l) hb) (blk_below (g := j) (o := .cells #[iv_ T, .slice e5 L.length d9, .slice e6 M.length e0, iv_ U, iv_ X, iv_ Y, iv_ Z, iv_ a0, .slice e7 O.length e1, iv_ a1] 28 (0, 0)) (bp_ J) hb) (below_step (bl2_ HB D g9) hb) ?_⟩; clear y x m s u a9 b0 b1 l J HB hb; intro y x m s u a9 b0 b1 l J HB))
       go_ret
       exact ⟨by first | (rw [hRT_.out]; rfl) | exact er_, bl2_ HB D g9⟩
  ·rw [if_neg c7] at H
   obtain ⟨n5, n6⟩ := bn_ c7
   have n7 : (c1.length == h5.length) = false := by first | simpa using c7 | (simp at c7 ⊢; omega)
   exact absurd H (by simp)

/-- THE ONE PURE STATEMENT of laws_FnSilence: yours. -/
def laws_FnSilence.Pure : Prop := ∀ (j : List Int), j.length ≤ maxLen → j.length * 1 ≤ 140737488351232 → (∀ x ∈ j, (Lit.int .u8 x).wf = true) → ∃ k, laws_FnSilence.f k j = some true
theorem laws_FnSilence.walk (P : laws_FnSilence.Pure) (s : Option Addr) (m j : Nat) (l : List Int) (w : World) (E : (s = none ∧ m = 0 ∧ j = 0 ∧ l = []) ∨ ∃ x, s = some x ∧ m ≤ j ∧ j ≤ maxLen ∧ l.length = j ∧ (∀ i, i < l.length → w.cell? (x.add i) = some (.int .u8 (l.getD i 0))) ∧ ∀ n ∈ l, (Lit.int .u8 n).wf = true) (G : m * 1 ≤ 140737488351232) :
  Calls Try.prog 5 #[.slice s m j] w fun e w' => e = .returned (.bool true) ∧ Below w.heap.size w w' := by
 obtain ⟨u, rfl, B, z, D, y⟩ := ReadsInt.ofRowC E
 obtain ⟨k, h⟩ := P u z G D
 refine (laws_FnSilence.calls k _ _ u true w (Kd.C_of_reads (d := (0 : Int)) (h1 := fun _ => rfl) B) y h).mono ?_
 rintro e w' ⟨rfl, hd⟩
 exact ⟨rfl, hd⟩

end Go.Proofs.Ytopbkdcicidajaa.PFnSilence
