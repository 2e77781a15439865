-- Written by a program of this session for this claim (the kit's printer with changes).
import Derived.Test.YtopbkdcicidajaaQFnShadowsx4
import Derived.Test.YtopbkdcicidajaaQFnShadowsx2
import Derived.Test.YtopbkdcicidajaaQFnShadowsx0
import Derived.Test.YtopbkdcicidajaaQFnShadowsx1
import Derived.Test.YtopbkdcicidajaaQFnShadowsx3
namespace Go.Proofs.Ytopbkdcicidajaa.PFnShadows
open Go.RowKit Go.Proofs.YtopbkdcicidajaaW.PrintWords Go.Proofs.YtopbkdcicidajaaW.PrintLast Go.Proofs.YtopbkdcicidajaaW.PrintMore
attribute [local go_sem] max2_int min2_int max_two min_two max_three min_three max_four min_four   -- for this text's walks alone
set_option linter.unusedVariables false
set_option linter.unusedSimpArgs false

/-! ### spec_DrawNodeAt: function 66 -/
def spec_DrawNodeAt.f (k : Nat) (l0 : List Int) : Option (Int × (List (S72)) × (List (S74)) × Int × Int × Int × Int × Int × (List (S88)) × Int × Int × Int) := (spec_l1New.f k l0).bind fun bt484 => ((spec_l7Any.f k bt484.1 bt484.2.1 bt484.2.2).bind fun bt488 => ((spec_l1Below.f bt484.1 bt488.2.2.2.2.2.2.2.2.2.2.1 bt488.2.2.2.2.2.2.2.2.2.2.2 11).bind fun bt507 => ((spec_l4Raw.f bt484.1 bt507.2.1 bt507.2.2).bind fun bt510 => (some (bt488.1, bt488.2.1, bt488.2.2.1, bt488.2.2.2.1, bt488.2.2.2.2.1, bt488.2.2.2.2.2.1, bt488.2.2.2.2.2.2.1, bt488.2.2.2.2.2.2.2.1, bt488.2.2.2.2.2.2.2.2.1, bt488.2.2.2.2.2.2.2.2.2.1, wrap64 (bt507.1 - 1), bt510.1)))))
theorem spec_DrawNodeAt.mono : ∀ a0 k, LeO (spec_DrawNodeAt.f k a0) (spec_DrawNodeAt.f (k + 1) a0) := by
 intro a0 k
 unfold spec_DrawNodeAt.f
 repeat' first | (with_reducible first | exact spec_l1New.mono _ _ | exact spec_l7Any.mono _ _ _ _ | exact LeO.refl _ | exact LeO.none _ | refine LeO.ite ?_ ?_ | refine LeO.bind ?_ (fun _ => ?_)) | exact LeO.none _ | refine LeO.ite ?_ ?_ | refine LeO.bind ?_ (fun _ => ?_)
set_option maxHeartbeats 8000000 in
set_option maxRecDepth 100000 in
theorem spec_DrawNodeAt.calls (k : Nat) (A0 : Option Addr) (c0 : Nat) (l0 : List Int) (r1 : Int) (r2 : List (S72)) (r3 : List (S74)) (r4 : Int) (r5 : Int) (r6 : Int) (r7 : Int) (r8 : Int) (r9 : List (S88)) (r10 : Int) (r11 : Int) (r12 : Int) (w : World) (hr0 : Kd.C (Kd.int .u8) w A0 l0.length l0) (hc0 : l0.length ≤ c0) (h : spec_DrawNodeAt.f k l0 = some (r1, r2, r3, r4, r5, r6, r7, r8, r9, r10, r11, r12)) :
  Calls Try.prog 66 #[.slice A0 l0.length c0] w fun e w' => ∃ v1_ v2_ v8_ : Value, e = .returned (.tuple #[.agg #[iv_ r1, v1_, v2_, iv_ r4, iv_ r5, iv_ r6, iv_ r7, iv_ r8, v8_, iv_ r10], iv_ r11, iv_ r12]) ∧ Kd.R k72 72 w' w.heap.size (fun _ => True) v1_ r2 ∧ Kd.R k74 74 w' w.heap.size (fun _ => True) v2_ r3 ∧ Kd.R k88 88 w' w.heap.size (fun _ => True) v8_ r9 ∧ Below w.heap.size w w' := by
 have hu28 := Try.underlying28
 have HR0 := Aside0.mk hr0
 have HC0 := Aside0.mk hc0
 clear hr0 hc0
 have HB := Aside0.mk (Below.refl w.heap.size w)
 have H := h
 clear h
 unfold spec_DrawNodeAt.f at H
 replace H := bs_ H
 obtain ⟨⟨t484, t485, t486⟩, A2, H⟩ := H
 dsimp only at H
 replace H := bs_ H
 obtain ⟨⟨t488, t489, t492, t495, t496, t497, t498, t499, t500, t503, t504, t505⟩, A3, H⟩ := H
 dsimp only at H
 replace H := bs_ H
 obtain ⟨⟨t507, t508, t509⟩, A4, H⟩ := H
 dsimp only at H
 replace H := bs_ H
 obtain ⟨⟨t510, t511, t512⟩, A5, H⟩ := H
 dsimp only at H
 simp only [Option.some.injEq, Prod.mk.injEq] at H
 obtain ⟨rfl, rfl, rfl, rfl, rfl, rfl, rfl, rfl, rfl, rfl, rfl, rfl⟩ := H
 go_enter Try.func66, Try.ntmps66
 try go_wp2_with (first | ((with_reducible refine gd_ 2 ?_); refine bx_ 2 28 #[iv_ 0, .slice none 0 0, .slice none 0 0, iv_ 0, iv_ 0, iv_ 0, iv_ 0, iv_ 0, .slice none 0 0, iv_ 0] ?_; intro gb483 hg w6 hbox hb; refine sh3_ (below_step (bl_ HB) hb) hbox (ge_ hg (bl_ HB)) ?_; clear HB hb hbox hg; intro HB BK483 GE483) | ((with_reducible refine gate_callee (f := 49) rfl ?_); refine goesL_ (some 9) rfl rfl Try.func49 (by kernel_rfl) rfl #[.slice A0 l0.length c0] rfl mp_ ?_; (with_reducible refine (spec_l1New.calls k _ _ l0 t484 t485 t486 w _ ?side1 ?side2 ?side3 A2.out).mono ?_); (case side1 => repeat (first | (with_reducible first | exact HB.out | apply below_alloc | apply pw_below_drewN | apply below_drew1 | refine below_set ?_ GE483.out) | exact HB.out)); (case side2 => exact HR0.out); (case side3 => exact HC0.out); rintro e w7 ⟨g487, rfl, hi, hb, hb2⟩; refine ⟨_, rfl, sh5_ (blk_below (bk_ BK483) hb2) hb hi (IsS102.ne_blk hi (blk_below (bk_ BK483) hb2) (by decide)) (Ne.symm (IsS102.ne_blk hi (blk_below (bk_ BK483) hb2) (by decide))) ?_⟩; clear BK483 HB hb hb2 hi; intro BK483 HB HI487 NB487_483 NB483_487) | ((with_reducible refine gate_callee (f := 79) rfl ?_); refine goesL_ (some 11) rfl rfl Try.func79 (by kernel_rfl) rfl #[.pointer (some ⟨g487, 0, none⟩)] rfl mp_ ?_; (with_reducible refine (spec_l7Any.calls k g487 t484 t485 t486 t488 t489 t492 t495 t496 t497 t498 t499 t500 t503 t504 t505 w _ ?side1 ?side2 A3.out).mono ?_); (case side1 => repeat (first | (with_reducible first | exact HI487.out | apply IsS102.alloc | apply IsS102.drewN | apply IsS102.drew | apply IsS102.set_1 | apply IsS102.set_2 | refine IsS102.far ?_ NB487_483.out _) | exact HI487.out)); (case side2 => repeat (first | (with_reducible first | exact HB.out | apply below_alloc | apply pw_below_drewN | apply below_drew1 | refine below_set ?_ (IsS102.ge HI487.out) | refine below_set ?_ GE483.out) | exact HB.out)); rintro e w8 ⟨v490, v493, v501, rfl, ho0, ho1, ho2, hi, hb, hk⟩; refine ⟨_, rfl, sh6_ (KeepBut.blk hk (g' := gb483) (o := .cells #[iv_ 0, .slice none 0 0, .slice none 0 0, iv_ 0, iv_ 0, iv_ 0, iv_ 0, iv_ 0, .slice none 0 0, iv_ 0] 28 (0, 0)) (bk_ BK483) NB483_487.out (by simp)) (Kd.R_lower ho0 (below_size (by repeat (first | (with_reducible first | exact HB.out | apply below_alloc | apply pw_below_drewN | apply below_drew1 | refine below_set ?_ (IsS102.ge HI487.out) | refine below_set ?_ GE483.out) | exact HB.out)))) (Kd.R_lower ho1 (below_size (by repeat (first | (with_reducible first | exact HB.out | apply below_alloc | apply pw_below_drewN | apply below_drew1 | refine below_set ?_ (IsS102.ge HI487.out) | refine below_set ?_ GE483.out) | exact HB.out)))) (Kd.R_lower ho2 (below_size (by repeat (first | (with_reducible first | exact HB.out | apply below_alloc | apply pw_below_drewN | apply below_drew1 | refine below_set ?_ (IsS102.ge HI487.out) | refine below_set ?_ GE483.out) | exact HB.out)))) hb hi ?_⟩; clear BK483 HB HI487 hb hk hi ho0 ho1 ho2; intro BK483 HO491 HO494 HO502 HB HI487) | ((with_reducible refine gd_ 6 ?_); refine bx_ 6 28 #[iv_ 0, .slice none 0 0, .slice none 0 0, iv_ 0, iv_ 0, iv_ 0, iv_ 0, iv_ 0, .slice none 0 0, iv_ 0] ?_; intro gb506 hg w9 hbox hb; refine sh13_ (Kd.R_below (ra_ HO491) hb) (Kd.R_below (ra_ HO494) hb) (Kd.R_below (ra_ HO502) hb) (blk_below (bk_ BK483) hb) (IsS102.below (by repeat (first | (with_reducible first | exact HI487.out | apply IsS102.alloc | apply IsS102.drewN | apply IsS102.drew | apply IsS102.set_1 | apply IsS102.set_2 | refine IsS102.far ?_ NB487_483.out _) | exact HI487.out)) hb) (below_step (by repeat (first | (with_reducible first | exact HB.out | apply below_alloc | apply pw_below_drewN | apply below_drew1 | refine below_set ?_ (IsS102.ge HI487.out) | refine below_set ?_ GE483.out) | exact HB.out)) hb) hbox (ge_ hg (by repeat (first | (with_reducible first | exact HB.out | apply below_alloc | apply pw_below_drewN | apply below_drew1 | refine below_set ?_ (IsS102.ge HI487.out) | refine below_set ?_ GE483.out) | exact HB.out))) (ge_ hg (by repeat (first | (with_reducible first | exact HB.out | apply below_alloc | apply pw_below_drewN | apply below_drew1 | refine below_set ?_ (IsS102.ge HI487.out) | refine below_set ?_ GE483.out) | exact HB.out))) (nl_ hg (bk_ BK483)) (ng_ hg (bk_ BK483)) ((by rw [hg]; exact Nat.ne_of_lt (IsS102.lt (show IsS102 w _ g487 t484 t504 t505 from by repeat (first | (with_reducible first | exact HI487.out | apply IsS102.alloc | apply IsS102.drewN | apply IsS102.drew | apply IsS102.set_1 | apply IsS102.set_2 | refine IsS102.far ?_ NB487_483.out _) | exact HI487.out))) : g487 ≠ gb506)) ((by rw [hg]; exact Nat.ne_of_gt (IsS102.lt (show IsS102 w _ g487 t484 t504 t505 from by repeat (first | (with_reducible first | exact HI487.out | apply IsS102.alloc | apply IsS102.drewN | apply IsS102.drew | apply IsS102.set_1 | apply IsS102.set_2 | refine IsS102.far ?_ NB487_483.out _) | exact HI487.out))) : gb506 ≠ g487)) ?_; clear HO491 HO494 HO502 BK483 HI487 HB hb hbox hg; intro HO491 HO494 HO502 BK483 HI487 HB BK506 GW506 GE506 NB483_506 NB506_483 NB487_506 NB506_487; have hnb10 := NB506_483.out; have hnc10 := NB483_506.out; have hnb11 := NB506_487.out; have hnc11 := NB487_506.out; have hcz12 := cf10_ BK506; obtain ⟨Ao13, co13, eo13⟩ := Kd.R_slice HO491.out; subst eo13; obtain ⟨Ao14, co14, eo14⟩ := Kd.R_slice HO494.out; subst eo14; obtain ⟨Ao15, co15, eo15⟩ := Kd.R_slice HO502.out; subst eo15) | ((with_reducible refine gate_callee (f := 60) rfl ?_); refine goesL_ (some 13) rfl rfl Try.func60 (by kernel_rfl) rfl #[.pointer (some ⟨g487, 0, none⟩), iv_ 11] rfl mp_ ?_; (with_reducible refine (spec_l1Below.calls g487 t484 t504 t505 11 t507 t508 t509 w _ ?side1 ?side2 A4.out).mono ?_); (case side1 => repeat (first | (with_reducible first | exact HI487.out | apply IsS102.alloc | apply IsS102.drewN | apply IsS102.drew | apply IsS102.set_1 | apply IsS102.set_2 | refine IsS102.far ?_ NB487_483.out _ | refine IsS102.far ?_ NB487_506.out _) | exact HI487.out)); (case side2 => repeat (first | (with_reducible first | exact HB.out | apply below_alloc | apply pw_below_drewN | apply below_drew1 | refine below_set ?_ (IsS102.ge HI487.out) | refine below_set ?_ GE483.out | refine below_set ?_ GE506.out) | exact HB.out)); rintro e w16 ⟨rfl, hi, hb, hk⟩; refine ⟨_, rfl, sh7_ (KeepBut.blk hk (g' := gb483) (o := .cells #[iv_ 0, .slice none 0 0, .slice none 0 0, iv_ 0, iv_ 0, iv_ 0, iv_ 0, iv_ 0, .slice none 0 0, iv_ 0] 28 (0, 0)) (bp_ BK483) NB483_487.out (by simp)) (Kd.R_mono (Kd.R_keep (IsS102.apart (show IsS102 w _ g487 t484 t504 t505 from by repeat (first | (with_reducible first | exact HI487.out | apply IsS102.alloc | apply IsS102.drewN | apply IsS102.drew | apply IsS102.set_1 | apply IsS102.set_2 | refine IsS102.far ?_ NB487_483.out _ | refine IsS102.far ?_ NB487_506.out _) | exact HI487.out)) (by (with_reducible repeat (first | apply Kd.R_alloc | apply Kd.R_drewN | apply Kd.R_drew)); exact (Kd.R_mono (Kd.R_far (p := ⟨gb506, 9, none⟩) (Kd.R_far (p := ⟨gb506, 8, none⟩) (Kd.R_far (p := ⟨gb506, 7, none⟩) (Kd.R_far (p := ⟨gb506, 6, none⟩) (Kd.R_far (p := ⟨gb506, 5, none⟩) (Kd.R_far (p := ⟨gb506, 4, none⟩) (Kd.R_far (p := ⟨gb506, 3, none⟩) (Kd.R_far (p := ⟨gb506, 2, none⟩) (Kd.R_far (p := ⟨gb506, 1, none⟩) (Kd.R_far (p := ⟨gb506, 0, none⟩) (Kd.R_types HO491.out BK506.out (by decide)) (fun _ hk => hk.2) (iv_ t488)) (fun _ hk => hk.2) (.slice Ao13 t489.length co13)) (fun _ hk => hk.2) (.slice Ao14 t492.length co14)) (fun _ hk => hk.2) (iv_ t495)) (fun _ hk => hk.2) (iv_ t496)) (fun _ hk => hk.2) (iv_ t497)) (fun _ hk => hk.2) (iv_ t498)) (fun _ hk => hk.2) (iv_ t499)) (fun _ hk => hk.2) (.slice Ao15 t500.length co15)) (fun _ hk => hk.2) (iv_ t503)) (fun _ h_ => h_.1))) (by decide)) hk (fun _ h => h.2)) (fun _ h => h.1)) (Kd.R_mono (Kd.R_keep (IsS102.apart (show IsS102 w _ g487 t484 t504 t505 from by repeat (first | (with_reducible first | exact HI487.out | apply IsS102.alloc | apply IsS102.drewN | apply IsS102.drew | apply IsS102.set_1 | apply IsS102.set_2 | refine IsS102.far ?_ NB487_483.out _ | refine IsS102.far ?_ NB487_506.out _) | exact HI487.out)) (by (with_reducible repeat (first | apply Kd.R_alloc | apply Kd.R_drewN | apply Kd.R_drew)); exact (Kd.R_mono (Kd.R_far (p := ⟨gb506, 9, none⟩) (Kd.R_far (p := ⟨gb506, 8, none⟩) (Kd.R_far (p := ⟨gb506, 7, none⟩) (Kd.R_far (p := ⟨gb506, 6, none⟩) (Kd.R_far (p := ⟨gb506, 5, none⟩) (Kd.R_far (p := ⟨gb506, 4, none⟩) (Kd.R_far (p := ⟨gb506, 3, none⟩) (Kd.R_far (p := ⟨gb506, 2, none⟩) (Kd.R_far (p := ⟨gb506, 1, none⟩) (Kd.R_far (p := ⟨gb506, 0, none⟩) (Kd.R_types HO494.out BK506.out (by decide)) (fun _ hk => hk.2) (iv_ t488)) (fun _ hk => hk.2) (.slice Ao13 t489.length co13)) (fun _ hk => hk.2) (.slice Ao14 t492.length co14)) (fun _ hk => hk.2) (iv_ t495)) (fun _ hk => hk.2) (iv_ t496)) (fun _ hk => hk.2) (iv_ t497)) (fun _ hk => hk.2) (iv_ t498)) (fun _ hk => hk.2) (iv_ t499)) (fun _ hk => hk.2) (.slice Ao15 t500.length co15)) (fun _ hk => hk.2) (iv_ t503)) (fun _ h_ => h_.1))) (by decide)) hk (fun _ h => h.2)) (fun _ h => h.1)) (Kd.R_mono (Kd.R_keep (IsS102.apart (show IsS102 w _ g487 t484 t504 t505 from by repeat (first | (with_reducible first | exact HI487.out | apply IsS102.alloc | apply IsS102.drewN | apply IsS102.drew | apply IsS102.set_1 | apply IsS102.set_2 | refine IsS102.far ?_ NB487_483.out _ | refine IsS102.far ?_ NB487_506.out _) | exact HI487.out)) (by (with_reducible repeat (first | apply Kd.R_alloc | apply Kd.R_drewN | apply Kd.R_drew)); exact (Kd.R_mono (Kd.R_far (p := ⟨gb506, 9, none⟩) (Kd.R_far (p := ⟨gb506, 8, none⟩) (Kd.R_far (p := ⟨gb506, 7, none⟩) (Kd.R_far (p := ⟨gb506, 6, none⟩) (Kd.R_far (p := ⟨gb506, 5, none⟩) (Kd.R_far (p := ⟨gb506, 4, none⟩) (Kd.R_far (p := ⟨gb506, 3, none⟩) (Kd.R_far (p := ⟨gb506, 2, none⟩) (Kd.R_far (p := ⟨gb506, 1, none⟩) (Kd.R_far (p := ⟨gb506, 0, none⟩) (Kd.R_types HO502.out BK506.out (by decide)) (fun _ hk => hk.2) (iv_ t488)) (fun _ hk => hk.2) (.slice Ao13 t489.length co13)) (fun _ hk => hk.2) (.slice Ao14 t492.length co14)) (fun _ hk => hk.2) (iv_ t495)) (fun _ hk => hk.2) (iv_ t496)) (fun _ hk => hk.2) (iv_ t497)) (fun _ hk => hk.2) (iv_ t498)) (fun _ hk => hk.2) (iv_ t499)) (fun _ hk => hk.2) (.slice Ao15 t500.length co15)) (fun _ hk => hk.2) (iv_ t503)) (fun _ h_ => h_.1))) (by decide)) hk (fun _ h => h.2)) (fun _ h => h.1)) (KeepBut.blk hk (g' := gb506) (o := .cells #[iv_ t488, .slice Ao13 t489.length co13, .slice Ao14 t492.length co14, iv_ t495, iv_ t496, iv_ t497, iv_ t498, iv_ t499, .slice Ao15 t500.length co15, iv_ t503] 28 (0, 0)) (bp_ BK506) NB506_487.out (by simp)) hb hi ?_⟩; clear BK483 HO491 HO494 HO502 BK506 HB HI487 hb hk hi; intro BK483 HO491 HO494 HO502 BK506 HB HI487))
 refine sh7_ (Kd.R_drew HO491.out) (Kd.R_drew HO494.out) (Kd.R_drew HO502.out) (blk_drew BK483.out) (blk_drew BK506.out) (IsS102.drew HI487.out) (below_drew1 HB.out) ?_
 clear HO491 HO494 HO502 BK483 BK506 HI487 HB
 intro HO491 HO494 HO502 BK483 BK506 HI487 HB
 refine start_ (n := 7) (S := fun w' => Cz10 w' gb506 (iv_ t488) (.slice Ao13 t489.length co13) (.slice Ao14 t492.length co14) (iv_ t495) (iv_ t496) (iv_ t497) (iv_ t498) (iv_ t499) (.slice Ao15 t500.length co15) (iv_ t503)) (ds := []) (bo_ 7 0) (by kernel_rfl) rfl rfl (cz10_ BK506) (fun hHeld => ?_)
 generalize w16.drew = w17 at HO491 HO494 HO502 BK483 BK506 HI487 HB hHeld ⊢
 refine pu0_ 1 (bo_ 7 2) (some 16) ?_
 refine pu0_ 2 (bo_ 7 6) (some 17) ?_
 refine take_ (i := 0) (N := some 15) (v := ?_) (a' := ?_) (bo_ 7 7) rfl rfl (by kernel_rfl) (fun _ _ _ h => h) (Or.inl ⟨by rfl, ?_⟩) hHeld ?_ ?_
 rotate_left
 ·rintro w' ⟨s0, s1, s2, s3, s4, s5, s6, s7, s8, s9⟩
  go_simp
  with_reducible rfl
 rotate_left
 ·simp only [Act.put, List.setIfInBounds_toArray, List.set_cons_zero, List.set_cons_succ, i64_w, i32_w]
  rfl
 refine one_ (i := 3) (N := some 18) (bo_ 7 15) rfl rfl (by kernel_rfl) (by decide) (fun K hK => ?_)
 refine goes_ Try.func50 (by kernel_rfl) rfl #[.pointer (some ⟨g487, 0, none⟩)] (by rfl) rfl rfl mp_ ?_
 with_reducible refine (spec_l4Raw.calls g487 t484 t508 t509 t510 t511 t512 w _ ?side1 ?side2 A5.out).mono ?_
 (case side1 => repeat (first | (with_reducible first | exact HI487.out | apply IsS102.alloc | apply IsS102.drewN | apply IsS102.drew | apply IsS102.set_1 | apply IsS102.set_2 | refine IsS102.far ?_ NB487_483.out _ | refine IsS102.far ?_ NB487_506.out _) | exact HI487.out))
 (case side2 => repeat (first | (with_reducible first | exact HB.out | apply below_alloc | apply pw_below_drewN | apply below_drew1 | refine below_set ?_ (IsS102.ge HI487.out) | refine below_set ?_ GE483.out | refine below_set ?_ GE506.out) | exact HB.out))
 rintro e w18 ⟨rfl, hi, hb, hk⟩
 refine ⟨_, rfl, sh7_ (KeepBut.blk hk (g' := gb483) (o := .cells #[iv_ 0, .slice none 0 0, .slice none 0 0, iv_ 0, iv_ 0, iv_ 0, iv_ 0, iv_ 0, .slice none 0 0, iv_ 0] 28 (0, 0)) (bk_ BK483) NB483_487.out (by simp)) (Kd.R_mono (Kd.R_keep (IsS102.apart (show IsS102 w _ g487 t484 t508 t509 from by repeat (first | (with_reducible first | exact HI487.out | apply IsS102.alloc | apply IsS102.drewN | apply IsS102.drew | apply IsS102.set_1 | apply IsS102.set_2 | refine IsS102.far ?_ NB487_483.out _ | refine IsS102.far ?_ NB487_506.out _) | exact HI487.out)) (ra_ HO491) (by decide)) hk (fun _ h => h.2)) (fun _ h => h.1)) (Kd.R_mono (Kd.R_keep (IsS102.apart (show IsS102 w _ g487 t484 t508 t509 from by repeat (first | (with_reducible first | exact HI487.out | apply IsS102.alloc | apply IsS102.drewN | apply IsS102.drew | apply IsS102.set_1 | apply IsS102.set_2 | refine IsS102.far ?_ NB487_483.out _ | refine IsS102.far ?_ NB487_506.out _) | exact HI487.out)) (ra_ HO494) (by decide)) hk (fun _ h => h.2)) (fun _ h => h.1)) (Kd.R_mono (Kd.R_keep (IsS102.apart (show IsS102 w _ g487 t484 t508 t509 from by repeat (first | (with_reducible first | exact HI487.out | apply IsS102.alloc | apply IsS102.drewN | apply IsS102.drew | apply IsS102.set_1 | apply IsS102.set_2 | refine IsS102.far ?_ NB487_483.out _ | refine IsS102.far ?_ NB487_506.out _) | exact HI487.out)) (ra_ HO502) (by decide)) hk (fun _ h => h.2)) (fun _ h => h.1)) (KeepBut.blk hk (g' := gb506) (o := .cells #[iv_ t488, .slice Ao13 t489.length co13, .slice Ao14 t492.length co14, iv_ t495, iv_ t496, iv_ t497, iv_ t498, iv_ t499, .slice Ao15 t500.length co15, iv_ t503] 28 (0, 0)) (bk_ BK506) NB506_487.out (by simp)) hb hi ?_⟩
 clear BK483 HO491 HO494 HO502 BK506 HB HI487 hb hk hi
 intro BK483 HO491 HO494 HO502 BK506 HB HI487
 refine hK.out _ _ (cz10_ BK506) (fun hHeld => ?_)
 clear hK K
 refine norm_ (show Act.put _ (some 18) _ = _ from pt_) ?_
 refine one_ (i := 4) (N := none) (bo_ 7 31) rfl rfl (by kernel_rfl) (by decide) (fun K hK => ?_)
 have hs19 : w18.cell? ⟨gb483, 0, none⟩ = some (iv_ 0) := bc_ BK483 0 rfl
 have hfs19 := bf_ BK483 0
 have hns19_1 := NB506_483.out
 have hms19_1 := NB483_506.out
 have hs20 : w18.cell? ⟨gb483, 1, none⟩ = some (.slice none 0 0) := bc_ BK483 1 rfl
 have hfs20 := bf_ BK483 1
 have hns20_1 := NB506_483.out
 have hms20_1 := NB483_506.out
 have hs21 : w18.cell? ⟨gb483, 2, none⟩ = some (.slice none 0 0) := bc_ BK483 2 rfl
 have hfs21 := bf_ BK483 2
 have hns21_1 := NB506_483.out
 have hms21_1 := NB483_506.out
 have hs22 : w18.cell? ⟨gb483, 3, none⟩ = some (iv_ 0) := bc_ BK483 3 rfl
 have hfs22 := bf_ BK483 3
 have hns22_1 := NB506_483.out
 have hms22_1 := NB483_506.out
 have hs23 : w18.cell? ⟨gb483, 4, none⟩ = some (iv_ 0) := bc_ BK483 4 rfl
 have hfs23 := bf_ BK483 4
 have hns23_1 := NB506_483.out
 have hms23_1 := NB483_506.out
 have hs24 : w18.cell? ⟨gb483, 5, none⟩ = some (iv_ 0) := bc_ BK483 5 rfl
 have hfs24 := bf_ BK483 5
 have hns24_1 := NB506_483.out
 have hms24_1 := NB483_506.out
 have hs25 : w18.cell? ⟨gb483, 6, none⟩ = some (iv_ 0) := bc_ BK483 6 rfl
 have hfs25 := bf_ BK483 6
 have hns25_1 := NB506_483.out
 have hms25_1 := NB483_506.out
 have hs26 : w18.cell? ⟨gb483, 7, none⟩ = some (iv_ 0) := bc_ BK483 7 rfl
 have hfs26 := bf_ BK483 7
 have hns26_1 := NB506_483.out
 have hms26_1 := NB483_506.out
 have hs27 : w18.cell? ⟨gb483, 8, none⟩ = some (.slice none 0 0) := bc_ BK483 8 rfl
 have hfs27 := bf_ BK483 8
 have hns27_1 := NB506_483.out
 have hms27_1 := NB483_506.out
 have hs28 : w18.cell? ⟨gb483, 9, none⟩ = some (iv_ 0) := bc_ BK483 9 rfl
 have hfs28 := bf_ BK483 9
 have hns28_1 := NB506_483.out
 have hms28_1 := NB483_506.out
 refine skip_ (w1 := ?_) (by rfl) rfl ?_ ?_
 rotate_left
 ·go_simp
  rfl
 refine hK.out _ _ ⟨((cell_far (p := ⟨gb483, _, none⟩) NB506_483.out _).trans (((cell_far (p := ⟨gb483, _, none⟩) NB506_483.out _).trans (((cell_far (p := ⟨gb483, _, none⟩) NB506_483.out _).trans (((cell_far (p := ⟨gb483, _, none⟩) NB506_483.out _).trans (((cell_far (p := ⟨gb483, _, none⟩) NB506_483.out _).trans (((cell_far (p := ⟨gb483, _, none⟩) NB506_483.out _).trans (((cell_far (p := ⟨gb483, _, none⟩) NB506_483.out _).trans (((cell_far (p := ⟨gb483, _, none⟩) NB506_483.out _).trans (((cell_far (p := ⟨gb483, _, none⟩) NB506_483.out _).trans (((cell_far (p := ⟨gb483, _, none⟩) NB506_483.out _).trans (hHeld.1)))))))))))))))))))), ((cell_far (p := ⟨gb483, _, none⟩) NB506_483.out _).trans (((cell_far (p := ⟨gb483, _, none⟩) NB506_483.out _).trans (((cell_far (p := ⟨gb483, _, none⟩) NB506_483.out _).trans (((cell_far (p := ⟨gb483, _, none⟩) NB506_483.out _).trans (((cell_far (p := ⟨gb483, _, none⟩) NB506_483.out _).trans (((cell_far (p := ⟨gb483, _, none⟩) NB506_483.out _).trans (((cell_far (p := ⟨gb483, _, none⟩) NB506_483.out _).trans (((cell_far (p := ⟨gb483, _, none⟩) NB506_483.out _).trans (((cell_far (p := ⟨gb483, _, none⟩) NB506_483.out _).trans (((cell_far (p := ⟨gb483, _, none⟩) NB506_483.out _).trans (hHeld.2.1)))))))))))))))))))), ((cell_far (p := ⟨gb483, _, none⟩) NB506_483.out _).trans (((cell_far (p := ⟨gb483, _, none⟩) NB506_483.out _).trans (((cell_far (p := ⟨gb483, _, none⟩) NB506_483.out _).trans (((cell_far (p := ⟨gb483, _, none⟩) NB506_483.out _).trans (((cell_far (p := ⟨gb483, _, none⟩) NB506_483.out _).trans (((cell_far (p := ⟨gb483, _, none⟩) NB506_483.out _).trans (((cell_far (p := ⟨gb483, _, none⟩) NB506_483.out _).trans (((cell_far (p := ⟨gb483, _, none⟩) NB506_483.out _).trans (((cell_far (p := ⟨gb483, _, none⟩) NB506_483.out _).trans (((cell_far (p := ⟨gb483, _, none⟩) NB506_483.out _).trans (hHeld.2.2.1)))))))))))))))))))), ((cell_far (p := ⟨gb483, _, none⟩) NB506_483.out _).trans (((cell_far (p := ⟨gb483, _, none⟩) NB506_483.out _).trans (((cell_far (p := ⟨gb483, _, none⟩) NB506_483.out _).trans (((cell_far (p := ⟨gb483, _, none⟩) NB506_483.out _).trans (((cell_far (p := ⟨gb483, _, none⟩) NB506_483.out _).trans (((cell_far (p := ⟨gb483, _, none⟩) NB506_483.out _).trans (((cell_far (p := ⟨gb483, _, none⟩) NB506_483.out _).trans (((cell_far (p := ⟨gb483, _, none⟩) NB506_483.out _).trans (((cell_far (p := ⟨gb483, _, none⟩) NB506_483.out _).trans (((cell_far (p := ⟨gb483, _, none⟩) NB506_483.out _).trans (hHeld.2.2.2.1)))))))))))))))))))), ((cell_far (p := ⟨gb483, _, none⟩) NB506_483.out _).trans (((cell_far (p := ⟨gb483, _, none⟩) NB506_483.out _).trans (((cell_far (p := ⟨gb483, _, none⟩) NB506_483.out _).trans (((cell_far (p := ⟨gb483, _, none⟩) NB506_483.out _).trans (((cell_far (p := ⟨gb483, _, none⟩) NB506_483.out _).trans (((cell_far (p := ⟨gb483, _, none⟩) NB506_483.out _).trans (((cell_far (p := ⟨gb483, _, none⟩) NB506_483.out _).trans (((cell_far (p := ⟨gb483, _, none⟩) NB506_483.out _).trans (((cell_far (p := ⟨gb483, _, none⟩) NB506_483.out _).trans (((cell_far (p := ⟨gb483, _, none⟩) NB506_483.out _).trans (hHeld.2.2.2.2.1)))))))))))))))))))), ((cell_far (p := ⟨gb483, _, none⟩) NB506_483.out _).trans (((cell_far (p := ⟨gb483, _, none⟩) NB506_483.out _).trans (((cell_far (p := ⟨gb483, _, none⟩) NB506_483.out _).trans (((cell_far (p := ⟨gb483, _, none⟩) NB506_483.out _).trans (((cell_far (p := ⟨gb483, _, none⟩) NB506_483.out _).trans (((cell_far (p := ⟨gb483, _, none⟩) NB506_483.out _).trans (((cell_far (p := ⟨gb483, _, none⟩) NB506_483.out _).trans (((cell_far (p := ⟨gb483, _, none⟩) NB506_483.out _).trans (((cell_far (p := ⟨gb483, _, none⟩) NB506_483.out _).trans (((cell_far (p := ⟨gb483, _, none⟩) NB506_483.out _).trans (hHeld.2.2.2.2.2.1)))))))))))))))))))), ((cell_far (p := ⟨gb483, _, none⟩) NB506_483.out _).trans (((cell_far (p := ⟨gb483, _, none⟩) NB506_483.out _).trans (((cell_far (p := ⟨gb483, _, none⟩) NB506_483.out _).trans (((cell_far (p := ⟨gb483, _, none⟩) NB506_483.out _).trans (((cell_far (p := ⟨gb483, _, none⟩) NB506_483.out _).trans (((cell_far (p := ⟨gb483, _, none⟩) NB506_483.out _).trans (((cell_far (p := ⟨gb483, _, none⟩) NB506_483.out _).trans (((cell_far (p := ⟨gb483, _, none⟩) NB506_483.out _).trans (((cell_far (p := ⟨gb483, _, none⟩) NB506_483.out _).trans (((cell_far (p := ⟨gb483, _, none⟩) NB506_483.out _).trans (hHeld.2.2.2.2.2.2.1)))))))))))))))))))), ((cell_far (p := ⟨gb483, _, none⟩) NB506_483.out _).trans (((cell_far (p := ⟨gb483, _, none⟩) NB506_483.out _).trans (((cell_far (p := ⟨gb483, _, none⟩) NB506_483.out _).trans (((cell_far (p := ⟨gb483, _, none⟩) NB506_483.out _).trans (((cell_far (p := ⟨gb483, _, none⟩) NB506_483.out _).trans (((cell_far (p := ⟨gb483, _, none⟩) NB506_483.out _).trans (((cell_far (p := ⟨gb483, _, none⟩) NB506_483.out _).trans (((cell_far (p := ⟨gb483, _, none⟩) NB506_483.out _).trans (((cell_far (p := ⟨gb483, _, none⟩) NB506_483.out _).trans (((cell_far (p := ⟨gb483, _, none⟩) NB506_483.out _).trans (hHeld.2.2.2.2.2.2.2.1)))))))))))))))))))), ((cell_far (p := ⟨gb483, _, none⟩) NB506_483.out _).trans (((cell_far (p := ⟨gb483, _, none⟩) NB506_483.out _).trans (((cell_far (p := ⟨gb483, _, none⟩) NB506_483.out _).trans (((cell_far (p := ⟨gb483, _, none⟩) NB506_483.out _).trans (((cell_far (p := ⟨gb483, _, none⟩) NB506_483.out _).trans (((cell_far (p := ⟨gb483, _, none⟩) NB506_483.out _).trans (((cell_far (p := ⟨gb483, _, none⟩) NB506_483.out _).trans (((cell_far (p := ⟨gb483, _, none⟩) NB506_483.out _).trans (((cell_far (p := ⟨gb483, _, none⟩) NB506_483.out _).trans (((cell_far (p := ⟨gb483, _, none⟩) NB506_483.out _).trans (hHeld.2.2.2.2.2.2.2.2.1)))))))))))))))))))), ((cell_far (p := ⟨gb483, _, none⟩) NB506_483.out _).trans (((cell_far (p := ⟨gb483, _, none⟩) NB506_483.out _).trans (((cell_far (p := ⟨gb483, _, none⟩) NB506_483.out _).trans (((cell_far (p := ⟨gb483, _, none⟩) NB506_483.out _).trans (((cell_far (p := ⟨gb483, _, none⟩) NB506_483.out _).trans (((cell_far (p := ⟨gb483, _, none⟩) NB506_483.out _).trans (((cell_far (p := ⟨gb483, _, none⟩) NB506_483.out _).trans (((cell_far (p := ⟨gb483, _, none⟩) NB506_483.out _).trans (((cell_far (p := ⟨gb483, _, none⟩) NB506_483.out _).trans (((cell_far (p := ⟨gb483, _, none⟩) NB506_483.out _).trans (hHeld.2.2.2.2.2.2.2.2.2))))))))))))))))))))⟩ (fun hHeld => ?_)
 clear hK K
 refine pu0_ 5 (bo_ 7 63) (some 3) ?_
 refine pu0_ 6 (bo_ 7 127) (some 4) ?_
 refine done_ (by kernel_rfl) ?_
 try go_wp2
 refine bodyPost_ret (results_ctt rfl _ _ gb483 28 #[iv_ t488, .slice Ao13 t489.length co13, .slice Ao14 t492.length co14, iv_ t495, iv_ t496, iv_ t497, iv_ t498, iv_ t499, .slice Ao15 t500.length co15, iv_ t503] (0, 0) _ rfl (bp_ BK483) Try.underlying28 rfl (by kernel_rfl)) rfl ?_
 exact ⟨_, _, _, by first | (rw [hRT_.out]; rfl) | exact er_, by (with_reducible repeat (first | apply Kd.R_alloc | apply Kd.R_drewN | apply Kd.R_drew)); exact Kd.R_mono (Kd.R_far (p := ⟨gb483, 9, none⟩) (Kd.R_far (p := ⟨gb483, 8, none⟩) (Kd.R_far (p := ⟨gb483, 7, none⟩) (Kd.R_far (p := ⟨gb483, 6, none⟩) (Kd.R_far (p := ⟨gb483, 5, none⟩) (Kd.R_far (p := ⟨gb483, 4, none⟩) (Kd.R_far (p := ⟨gb483, 3, none⟩) (Kd.R_far (p := ⟨gb483, 2, none⟩) (Kd.R_far (p := ⟨gb483, 1, none⟩) (Kd.R_far (p := ⟨gb483, 0, none⟩) (Kd.R_types HO491.out BK483.out (by decide)) (fun _ hk => hk.2) (iv_ t488)) (fun _ hk => hk.2) (.slice Ao13 t489.length co13)) (fun _ hk => hk.2) (.slice Ao14 t492.length co14)) (fun _ hk => hk.2) (iv_ t495)) (fun _ hk => hk.2) (iv_ t496)) (fun _ hk => hk.2) (iv_ t497)) (fun _ hk => hk.2) (iv_ t498)) (fun _ hk => hk.2) (iv_ t499)) (fun _ hk => hk.2) (.slice Ao15 t500.length co15)) (fun _ hk => hk.2) (iv_ t503)) (fun _ hk => trivial), by (with_reducible repeat (first | apply Kd.R_alloc | apply Kd.R_drewN | apply Kd.R_drew)); exact Kd.R_mono (Kd.R_far (p := ⟨gb483, 9, none⟩) (Kd.R_far (p := ⟨gb483, 8, none⟩) (Kd.R_far (p := ⟨gb483, 7, none⟩) (Kd.R_far (p := ⟨gb483, 6, none⟩) (Kd.R_far (p := ⟨gb483, 5, none⟩) (Kd.R_far (p := ⟨gb483, 4, none⟩) (Kd.R_far (p := ⟨gb483, 3, none⟩) (Kd.R_far (p := ⟨gb483, 2, none⟩) (Kd.R_far (p := ⟨gb483, 1, none⟩) (Kd.R_far (p := ⟨gb483, 0, none⟩) (Kd.R_types HO494.out BK483.out (by decide)) (fun _ hk => hk.2) (iv_ t488)) (fun _ hk => hk.2) (.slice Ao13 t489.length co13)) (fun _ hk => hk.2) (.slice Ao14 t492.length co14)) (fun _ hk => hk.2) (iv_ t495)) (fun _ hk => hk.2) (iv_ t496)) (fun _ hk => hk.2) (iv_ t497)) (fun _ hk => hk.2) (iv_ t498)) (fun _ hk => hk.2) (iv_ t499)) (fun _ hk => hk.2) (.slice Ao15 t500.length co15)) (fun _ hk => hk.2) (iv_ t503)) (fun _ hk => trivial), by (with_reducible repeat (first | apply Kd.R_alloc | apply Kd.R_drewN | apply Kd.R_drew)); exact Kd.R_mono (Kd.R_far (p := ⟨gb483, 9, none⟩) (Kd.R_far (p := ⟨gb483, 8, none⟩) (Kd.R_far (p := ⟨gb483, 7, none⟩) (Kd.R_far (p := ⟨gb483, 6, none⟩) (Kd.R_far (p := ⟨gb483, 5, none⟩) (Kd.R_far (p := ⟨gb483, 4, none⟩) (Kd.R_far (p := ⟨gb483, 3, none⟩) (Kd.R_far (p := ⟨gb483, 2, none⟩) (Kd.R_far (p := ⟨gb483, 1, none⟩) (Kd.R_far (p := ⟨gb483, 0, none⟩) (Kd.R_types HO502.out BK483.out (by decide)) (fun _ hk => hk.2) (iv_ t488)) (fun _ hk => hk.2) (.slice Ao13 t489.length co13)) (fun _ hk => hk.2) (.slice Ao14 t492.length co14)) (fun _ hk => hk.2) (iv_ t495)) (fun _ hk => hk.2) (iv_ t496)) (fun _ hk => hk.2) (iv_ t497)) (fun _ hk => hk.2) (iv_ t498)) (fun _ hk => hk.2) (iv_ t499)) (fun _ hk => hk.2) (.slice Ao15 t500.length co15)) (fun _ hk => hk.2) (iv_ t503)) (fun _ hk => trivial), by repeat (first | (with_reducible first | exact HB.out | apply below_alloc | apply pw_below_drewN | apply below_drew1 | refine below_set ?_ (IsS102.ge HI487.out) | refine below_set ?_ GE483.out | refine below_set ?_ GE506.out) | exact HB.out)⟩

/-! ### spec_DrawShadowAt: function 22 -/
def spec_DrawShadowAt.f (k : Nat) (l0 : List Int) : Option (Int × (List (S72)) × (List (S74)) × Int × Int × Int × Int × Int × (List (S88)) × Int × Int × Int) := (spec_DrawNodeAt.f k l0).bind fun bt514 => (some (bt514.1, bt514.2.1, bt514.2.2.1, bt514.2.2.2.1, bt514.2.2.2.2.1, bt514.2.2.2.2.2.1, bt514.2.2.2.2.2.2.1, bt514.2.2.2.2.2.2.2.1, bt514.2.2.2.2.2.2.2.2.1, bt514.2.2.2.2.2.2.2.2.2.1, bt514.2.2.2.2.2.2.2.2.2.2.1, bt514.2.2.2.2.2.2.2.2.2.2.2))
theorem spec_DrawShadowAt.mono : ∀ a0 k, LeO (spec_DrawShadowAt.f k a0) (spec_DrawShadowAt.f (k + 1) a0) := by
 intro a0 k
 unfold spec_DrawShadowAt.f
 repeat' first | (with_reducible first | exact spec_DrawNodeAt.mono _ _ | exact LeO.refl _ | exact LeO.none _ | refine LeO.ite ?_ ?_ | refine LeO.bind ?_ (fun _ => ?_)) | exact LeO.none _ | refine LeO.ite ?_ ?_ | refine LeO.bind ?_ (fun _ => ?_)
set_option maxHeartbeats 8000000 in
set_option maxRecDepth 100000 in
theorem spec_DrawShadowAt.calls (k : Nat) (A0 : Option Addr) (c0 : Nat) (l0 : List Int) (r1 : Int) (r2 : List (S72)) (r3 : List (S74)) (r4 : Int) (r5 : Int) (r6 : Int) (r7 : Int) (r8 : Int) (r9 : List (S88)) (r10 : Int) (r11 : Int) (r12 : Int) (w : World) (hr0 : Kd.C (Kd.int .u8) w A0 l0.length l0) (hc0 : l0.length ≤ c0) (h : spec_DrawShadowAt.f k l0 = some (r1, r2, r3, r4, r5, r6, r7, r8, r9, r10, r11, r12)) :
  Calls Try.prog 22 #[.slice A0 l0.length c0] w fun e w' => ∃ v1_ v2_ v8_ : Value, e = .returned (.tuple #[.agg #[iv_ r1, v1_, v2_, iv_ r4, iv_ r5, iv_ r6, iv_ r7, iv_ r8, v8_, iv_ r10], iv_ r11, iv_ r12]) ∧ Kd.R k72 72 w' w.heap.size (fun _ => True) v1_ r2 ∧ Kd.R k74 74 w' w.heap.size (fun _ => True) v2_ r3 ∧ Kd.R k88 88 w' w.heap.size (fun _ => True) v8_ r9 ∧ Below w.heap.size w w' := by
 have hu28 := Try.underlying28
 have HR0 := Aside0.mk hr0
 have HC0 := Aside0.mk hc0
 clear hr0 hc0
 have HB := Aside0.mk (Below.refl w.heap.size w)
 have H := h
 clear h
 unfold spec_DrawShadowAt.f at H
 replace H := bs_ H
 obtain ⟨⟨t514, t515, t518, t521, t522, t523, t524, t525, t526, t529, t530, t531⟩, A2, H⟩ := H
 dsimp only at H
 simp only [Option.some.injEq, Prod.mk.injEq] at H
 obtain ⟨rfl, rfl, rfl, rfl, rfl, rfl, rfl, rfl, rfl, rfl, rfl, rfl⟩ := H
 go_enter Try.func22, Try.ntmps22
 go_wp2_with (first | ((with_reducible refine gd_ 2 ?_); refine bx_ 2 28 #[iv_ 0, .slice none 0 0, .slice none 0 0, iv_ 0, iv_ 0, iv_ 0, iv_ 0, iv_ 0, .slice none 0 0, iv_ 0] ?_; intro gb513 hg w3 hbox hb; refine sh3_ (below_step (bl_ HB) hb) hbox (ge_ hg (bl_ HB)) ?_; clear HB hb hbox hg; intro HB BK513 GE513) | ((with_reducible refine gate_callee (f := 66) rfl ?_); refine gl_ 6 Try.func66 (spec_DrawNodeAt.calls k _ _ l0 t514 t515 t518 t521 t522 t523 t524 t525 t526 t529 t530 t531 _ (ck_ HR0 HB) HC0.out A2.out) ?_; rintro e w4 ⟨v516, v519, v527, rfl, ho0, ho1, ho2, hb⟩; refine ⟨_, rfl, sh5_ (Kd.R_lower ho0 (below_size (bl1_ HB GE513))) (Kd.R_lower ho1 (below_size (bl1_ HB GE513))) (Kd.R_lower ho2 (below_size (bl1_ HB GE513))) (blk_below (bk_ BK513) hb) (below_step (bl1_ HB GE513) hb) ?_⟩; clear BK513 HB hb ho0 ho1 ho2; intro HO517 HO520 HO528 BK513 HB; have hcz5 := cf10_ BK513; obtain ⟨Ao6, co6, eo6⟩ := Kd.R_slice HO517.out; subst eo6; obtain ⟨Ao7, co7, eo7⟩ := Kd.R_slice HO520.out; subst eo7; obtain ⟨Ao8, co8, eo8⟩ := Kd.R_slice HO528.out; subst eo8))
 refine bodyPost_ret (results_ctt rfl _ _ gb513 28 #[iv_ t514, .slice Ao6 t515.length co6, .slice Ao7 t518.length co7, iv_ t521, iv_ t522, iv_ t523, iv_ t524, iv_ t525, .slice Ao8 t526.length co8, iv_ t529] (0, 0) _ rfl (bp_ BK513) Try.underlying28 rfl (by kernel_rfl)) rfl ?_
 exact ⟨_, _, _, by first | (rw [hRT_.out]; rfl) | exact er_, by (with_reducible repeat (first | apply Kd.R_alloc | apply Kd.R_drewN | apply Kd.R_drew)); exact Kd.R_mono (Kd.R_far (p := ⟨gb513, 9, none⟩) (Kd.R_far (p := ⟨gb513, 8, none⟩) (Kd.R_far (p := ⟨gb513, 7, none⟩) (Kd.R_far (p := ⟨gb513, 6, none⟩) (Kd.R_far (p := ⟨gb513, 5, none⟩) (Kd.R_far (p := ⟨gb513, 4, none⟩) (Kd.R_far (p := ⟨gb513, 3, none⟩) (Kd.R_far (p := ⟨gb513, 2, none⟩) (Kd.R_far (p := ⟨gb513, 1, none⟩) (Kd.R_far (p := ⟨gb513, 0, none⟩) (Kd.R_types HO517.out BK513.out (by decide)) (fun _ hk => hk.2) (iv_ t514)) (fun _ hk => hk.2) (.slice Ao6 t515.length co6)) (fun _ hk => hk.2) (.slice Ao7 t518.length co7)) (fun _ hk => hk.2) (iv_ t521)) (fun _ hk => hk.2) (iv_ t522)) (fun _ hk => hk.2) (iv_ t523)) (fun _ hk => hk.2) (iv_ t524)) (fun _ hk => hk.2) (iv_ t525)) (fun _ hk => hk.2) (.slice Ao8 t526.length co8)) (fun _ hk => hk.2) (iv_ t529)) (fun _ hk => trivial), by (with_reducible repeat (first | apply Kd.R_alloc | apply Kd.R_drewN | apply Kd.R_drew)); exact Kd.R_mono (Kd.R_far (p := ⟨gb513, 9, none⟩) (Kd.R_far (p := ⟨gb513, 8, none⟩) (Kd.R_far (p := ⟨gb513, 7, none⟩) (Kd.R_far (p := ⟨gb513, 6, none⟩) (Kd.R_far (p := ⟨gb513, 5, none⟩) (Kd.R_far (p := ⟨gb513, 4, none⟩) (Kd.R_far (p := ⟨gb513, 3, none⟩) (Kd.R_far (p := ⟨gb513, 2, none⟩) (Kd.R_far (p := ⟨gb513, 1, none⟩) (Kd.R_far (p := ⟨gb513, 0, none⟩) (Kd.R_types HO520.out BK513.out (by decide)) (fun _ hk => hk.2) (iv_ t514)) (fun _ hk => hk.2) (.slice Ao6 t515.length co6)) (fun _ hk => hk.2) (.slice Ao7 t518.length co7)) (fun _ hk => hk.2) (iv_ t521)) (fun _ hk => hk.2) (iv_ t522)) (fun _ hk => hk.2) (iv_ t523)) (fun _ hk => hk.2) (iv_ t524)) (fun _ hk => hk.2) (iv_ t525)) (fun _ hk => hk.2) (.slice Ao8 t526.length co8)) (fun _ hk => hk.2) (iv_ t529)) (fun _ hk => trivial), by (with_reducible repeat (first | apply Kd.R_alloc | apply Kd.R_drewN | apply Kd.R_drew)); exact Kd.R_mono (Kd.R_far (p := ⟨gb513, 9, none⟩) (Kd.R_far (p := ⟨gb513, 8, none⟩) (Kd.R_far (p := ⟨gb513, 7, none⟩) (Kd.R_far (p := ⟨gb513, 6, none⟩) (Kd.R_far (p := ⟨gb513, 5, none⟩) (Kd.R_far (p := ⟨gb513, 4, none⟩) (Kd.R_far (p := ⟨gb513, 3, none⟩) (Kd.R_far (p := ⟨gb513, 2, none⟩) (Kd.R_far (p := ⟨gb513, 1, none⟩) (Kd.R_far (p := ⟨gb513, 0, none⟩) (Kd.R_types HO528.out BK513.out (by decide)) (fun _ hk => hk.2) (iv_ t514)) (fun _ hk => hk.2) (.slice Ao6 t515.length co6)) (fun _ hk => hk.2) (.slice Ao7 t518.length co7)) (fun _ hk => hk.2) (iv_ t521)) (fun _ hk => hk.2) (iv_ t522)) (fun _ hk => hk.2) (iv_ t523)) (fun _ hk => hk.2) (iv_ t524)) (fun _ hk => hk.2) (iv_ t525)) (fun _ hk => hk.2) (.slice Ao8 t526.length co8)) (fun _ hk => hk.2) (iv_ t529)) (fun _ hk => trivial), bl1_ HB GE513⟩

/-! ### impl_LongestDark: function 24 -/
def impl_LongestDark.l0 : Nat → Int → List (S82) → Int → Int → Option (Int)
 | 0, _, _, _, _ => none
 | k + 1, x9, x16, x17, x18 => if x18 < x17 then (if 0 ≤ x18 then (if x18 < (x16.length : Int) then (impl_LongestDark.l0 k (mx x9 (wrap64 (((rd_T82 x16 x18).f1) - ((rd_T82 x16 x18).f0)))) x16 x17 (wrap64 (x18 + 1))) else (none)) else (none)) else (some x9)
def impl_LongestDark.f (k : Nat) (a0_0 : Int) (l0_1 : List (S72)) (l0_2 : List (S74)) (a0_3 : Int) (a0_4 : Int) (a0_5 : Int) (a0_6 : Int) (a0_7 : Int) (l0_8 : List (S88)) (a0_9 : Int) (a1 : Int) (a2 : Int) (a3 : Int) : Option (Int) := (impl_DarkSpans.f k a0_0 l0_1 l0_2 a0_3 a0_4 a0_5 a0_6 a0_7 l0_8 a0_9 a1 a2 a3).bind fun t533 => (impl_LongestDark.l0 k 0 t533 (t533.length : Int) 0)
theorem impl_LongestDark.mono_l : ∀ k, (∀ y0 y1 y2 y3, LeO (impl_LongestDark.l0 k y0 y1 y2 y3) (impl_LongestDark.l0 (k + 1) y0 y1 y2 y3))
 | 0 => fun _ _ _ _ r h => by simp [impl_LongestDark.l0] at h
 | k + 1 => by
  have ih0 := impl_LongestDark.mono_l k
  ·intro y0 y1 y2 y3
   unfold impl_LongestDark.l0
   repeat' first | (with_reducible first | exact ih0 _ _ _ _ | exact impl_DarkSpans.mono _ _ _ _ _ _ _ _ _ _ _ _ _ _ | exact LeO.refl _ | exact LeO.none _ | refine LeO.ite ?_ ?_ | refine LeO.bind ?_ (fun _ => ?_)) | exact LeO.none _ | refine LeO.ite ?_ ?_ | refine LeO.bind ?_ (fun _ => ?_)
theorem impl_LongestDark.mono : ∀ a0 a1 a2 a3 a4 a5 a6 a7 a8 a9 a10 a11 a12 k, LeO (impl_LongestDark.f k a0 a1 a2 a3 a4 a5 a6 a7 a8 a9 a10 a11 a12) (impl_LongestDark.f (k + 1) a0 a1 a2 a3 a4 a5 a6 a7 a8 a9 a10 a11 a12) := by
 intro a0 a1 a2 a3 a4 a5 a6 a7 a8 a9 a10 a11 a12 k
 have ih0 := impl_LongestDark.mono_l k
 unfold impl_LongestDark.f
 repeat' first | (with_reducible first | exact ih0 _ _ _ _ | exact impl_DarkSpans.mono _ _ _ _ _ _ _ _ _ _ _ _ _ _ | exact LeO.refl _ | exact LeO.none _ | refine LeO.ite ?_ ?_ | refine LeO.bind ?_ (fun _ => ?_)) | exact LeO.none _ | refine LeO.ite ?_ ?_ | refine LeO.bind ?_ (fun _ => ?_)
set_option maxHeartbeats 8000000 in
set_option maxRecDepth 100000 in
theorem impl_LongestDark.calls (k : Nat) (a0_0 : Int) (A0_1 : Option Addr) (c0_1 : Nat) (l0_1 : List (S72)) (A0_2 : Option Addr) (c0_2 : Nat) (l0_2 : List (S74)) (a0_3 : Int) (a0_4 : Int) (a0_5 : Int) (a0_6 : Int) (a0_7 : Int) (A0_8 : Option Addr) (c0_8 : Nat) (l0_8 : List (S88)) (a0_9 : Int) (a1 : Int) (a2 : Int) (a3 : Int) (r : Int) (w : World) (hr0_1 : Kd.C k72 w A0_1 l0_1.length l0_1) (hc0_1 : l0_1.length ≤ c0_1) (hr0_2 : Kd.C k74 w A0_2 l0_2.length l0_2) (hc0_2 : l0_2.length ≤ c0_2) (hr0_8 : Kd.C k88 w A0_8 l0_8.length l0_8) (hc0_8 : l0_8.length ≤ c0_8) (h : impl_LongestDark.f k a0_0 l0_1 l0_2 a0_3 a0_4 a0_5 a0_6 a0_7 l0_8 a0_9 a1 a2 a3 = some r) :
  Calls Try.prog 24 #[.agg #[iv_ a0_0, .slice A0_1 l0_1.length c0_1, .slice A0_2 l0_2.length c0_2, iv_ a0_3, iv_ a0_4, iv_ a0_5, iv_ a0_6, iv_ a0_7, .slice A0_8 l0_8.length c0_8, iv_ a0_9], iv_ a1, iv_ a2, iv_ a3] w fun e w' => e = .returned (iv_ r) ∧ Below w.heap.size w w' := by
 have hu28 := Try.underlying28
 have hu82 := Try.underlying82
 have HR0_1 := Aside0.mk hr0_1
 have HC0_1 := Aside0.mk hc0_1
 clear hr0_1 hc0_1
 have HR0_2 := Aside0.mk hr0_2
 have HC0_2 := Aside0.mk hc0_2
 clear hr0_2 hc0_2
 have HR0_8 := Aside0.mk hr0_8
 have HC0_8 := Aside0.mk hc0_8
 clear hr0_8 hc0_8
 have HB := Aside0.mk (Below.refl w.heap.size w)
 have H := h
 clear h
 unfold impl_LongestDark.f at H
 replace H := bs_ H
 obtain ⟨t533, A5, H⟩ := H
 have H' := Aside0.mk H
 clear H
 go_enter Try.func24, Try.ntmps24
 go_wp2_with (first | ((with_reducible refine gd_ 4 ?_); refine bx_ 4 28 #[iv_ a0_0, .slice A0_1 l0_1.length c0_1, .slice A0_2 l0_2.length c0_2, iv_ a0_3, iv_ a0_4, iv_ a0_5, iv_ a0_6, iv_ a0_7, .slice A0_8 l0_8.length c0_8, iv_ a0_9] ?_; intro gb532 hg w6 hbox hb; refine sh3_ (below_step (bl_ HB) hb) hbox (ge_ hg (bl_ HB)) ?_; clear HB hb hbox hg; intro HB BK532 GE532; have hcz7 := cf10_ BK532) | ((with_reducible refine gate_callee (f := 20) rfl ?_); refine gl_ 16 Try.func20 (impl_DarkSpans.calls k a0_0 _ _ l0_1 _ _ l0_2 a0_3 a0_4 a0_5 a0_6 a0_7 _ _ l0_8 a0_9 a1 a2 a3 t533 _ (ck_ HR0_1 HB) HC0_1.out (ck_ HR0_2 HB) HC0_2.out (ck_ HR0_8 HB) HC0_8.out A5.out) ?_; rintro e w8 ⟨v534, rfl, ho0, hb⟩; refine ⟨_, rfl, sh3_ (Kd.R_lower ho0 (below_size (bl1_ HB GE532))) (blk_below (bk_ BK532) hb) (below_step (bl1_ HB GE532) hb) ?_⟩; clear BK532 HB hb ho0; intro HO535 BK532 HB; obtain ⟨Ao9, co9, eo9⟩ := Kd.R_slice HO535.out; subst eo9))
 go_loopg [9, 18] k (fun kq v9 v18 w' => ∃ (x9_1 : Int) (x18_1 : Int), v9 = iv_ x9_1 ∧ v18 = iv_ x18_1 ∧ Aside0 (impl_LongestDark.l0 kq x9_1 t533 (t533.length : Int) x18_1 = some r) ∧ Aside0 (kq ≤ k) ∧ Aside0 (Kd.R k82 82 w' w.heap.size (fun _ => True) (.slice Ao9 t533.length co9) t533) ∧ Aside0 (w'.heap[gb532]? = some (.cells #[iv_ a0_0, (.slice A0_1 l0_1.length c0_1), (.slice A0_2 l0_2.length c0_2), iv_ a0_3, iv_ a0_4, iv_ a0_5, iv_ a0_6, iv_ a0_7, (.slice A0_8 l0_8.length c0_8), iv_ a0_9] 28 (0, 0))) ∧ Aside0 (Below w.heap.size w w'))
 case atStart => exact ⟨(0), (0), (by first | rfl | (simp; done) | (simp [*]; done)), (by first | rfl | (simp; done) | (simp [*]; done)), H', ⟨Nat.le_refl _⟩, ⟨ra_ HO535⟩, ⟨by (with_reducible repeat (first | refine blk_drewN ?_ _ | refine blk_drew ?_ | refine blk_alloc ?_ _)); exact BK532.out⟩, ⟨bl1_ HB GE532⟩⟩
 case round =>
  clear H'
  obtain ⟨x9_1, x18_1, rfl, rfl, HA, HK1, HO_16, BK532, HB⟩ := hrel
  cases gk with
  | zero => exact absurd HA.out (by simp [impl_LongestDark.l0])
  | succ k1 =>
   have H := HA.out
   clear HA
   simp only [impl_LongestDark.l0] at H
   by_cases c10 : x18_1 < (t533.length : Int)
   ·rw [if_pos c10] at H
    have c10b0 := decide_eq_true c10
    clear c10
    replace H := ifn_ H
    obtain ⟨c11, H⟩ := H
    have c11b0 := decide_eq_true c11
    clear c11
    replace H := ifn_ H
    obtain ⟨c12, H⟩ := H
    have c12b0 := decide_eq_true c12
    clear c12
    obtain ⟨ji13, hji13⟩ : ∃ j_ : Int, (mx x9_1 (wrap64 (((rd_T82 t533 x18_1).f1) - ((rd_T82 t533 x18_1).f0)))) = j_ := ⟨_, rfl⟩
    replace H : (impl_LongestDark.l0 k1 ji13 t533 (t533.length : Int) (wrap64 (x18_1 + 1))) = some r := by first | (rw [hji13] at H; exact H) | (simp only [hji13] at H ⊢; exact H)
    have hji13_ : (if x9_1 < (wrap64 (((rd_T82 t533 x18_1).f1) - ((rd_T82 t533 x18_1).f0))) then (wrap64 (((rd_T82 t533 x18_1).f1) - ((rd_T82 t533 x18_1).f0))) else x9_1) = ji13 := hji13
    have H' := Aside0.mk H
    clear H
    have p536 : 0 ≤ (x18_1 : Int) := od_
    have q536 : x18_1 < (t533.length : Int) := od_
    obtain ⟨ad536, e536, hx536_0, hx536_1⟩ := at_T82 (Kd.R_reads' HO_16.out).2.2 x18_1 p536 q536
    cases e536
    replace p536 := eq_true p536
    replace q536 := eq_true q536
    go_wp2_with (first | ((with_reducible refine gd_ 11 ?_); refine bx_ 11 82 #[iv_ 0, iv_ 0] ?_; intro gb537 hg w14 hbox hb; refine sh7_ (Kd.R_below (Kd.R_elderB (ra_ HO_16) gb537 (Nat.le_of_eq hg.symm)) hb) (blk_below (bk_ BK532) hb) (below_step (bl1_ HB GE532) hb) hbox (ge_ hg (bl1_ HB GE532)) (nl_ hg (bk_ BK532)) (ng_ hg (bk_ BK532)) ?_; clear HO_16 BK532 HB hb hbox hg; intro HO_16 BK532 HB BK537 GE537 NB532_537 NB537_532; have hnb15 := NB537_532.out; have hnc15 := NB532_537.out; have hcz16 := cf2_ BK537))
    go_roundg k1
    case measure => have := HK1.out; omega
    case rel => exact ⟨(ji13), (wrap64 (x18_1 + 1)), (by first | rfl | (simp; done) | (simp only [← hji13] <;> (first | rfl | simp)) | (simp [*]; done)), (by first | rfl | (simp; done) | (simp [*]; done)), H', ⟨by have := HK1.out; omega⟩, ⟨by (with_reducible repeat (first | apply Kd.R_alloc | apply Kd.R_drewN | apply Kd.R_drew)); exact Kd.R_mono (Kd.R_far (p := ⟨gb537, 1, none⟩) (Kd.R_far (p := ⟨gb537, 0, none⟩) (Kd.R_mono HO_16.out (fun k_ hk => (⟨hk, hk.2⟩ : _ ∧ k_ ≠ gb537))) (fun _ hk => hk.2) (iv_ ((rd_T82 t533 x18_1).f0))) (fun _ hk => hk.2) (iv_ ((rd_T82 t533 x18_1).f1))) (fun _ hk => trivial)⟩, ⟨by (with_reducible repeat (first | refine blk_drewN ?_ _ | refine blk_drew ?_ | refine blk_alloc ?_ _)); refine blk_far ?_ NB532_537.out _; (with_reducible repeat (first | refine blk_drewN ?_ _ | refine blk_drew ?_ | refine blk_alloc ?_ _)); refine blk_far ?_ NB532_537.out _; (with_reducible repeat (first | refine blk_drewN ?_ _ | refine blk_drew ?_ | refine blk_alloc ?_ _)); exact BK532.out⟩, ⟨bl2_ HB GE532 GE537⟩⟩
   ·rw [if_neg c10] at H
    have c10b0 := decide_eq_false c10
    clear c10
    obtain rfl := Option.some.inj H
    go_wp2
    go_ret
    exact ⟨by first | (rw [hRT_.out]; rfl) | exact er_, bl1_ HB GE532⟩

/-! ### impl_ticks: function 100 -/
mutual
def impl_ticks.l0 : Nat → List Bool → List (S82) → Int → Int → Option (List Bool)
 | 0, _, _, _, _ => none
 | k + 1, x3, x8, x9, x10 => if x10 < x9 then (if 0 ≤ x10 then (if x10 < (x8.length : Int) then ((impl_IsSpan.f ((rd_T82 x8 x10).f0) ((rd_T82 x8 x10).f1)).bind fun t543 => (if t543 = true then (impl_ticks.l1 k x3 ((rd_T82 x8 x10).f0) x8 x9 x10 ((rd_T82 x8 x10).f0) ((rd_T82 x8 x10).f1)) else (impl_ticks.l0 k x3 x8 x9 (wrap64 (x10 + 1))))) else (none)) else (none)) else (some x3)
def impl_ticks.l1 : Nat → List Bool → Int → List (S82) → Int → Int → Int → Int → Option (List Bool)
 | 0, _, _, _, _, _, _, _ => none
 | k + 1, x3, x6, x8, x9, x10, x543000, x543001 => if x6 < x543001 then (if 0 ≤ x6 then (if x6 < (x3.length : Int) then (impl_ticks.l1 k (x3.set (x6 : Int).toNat true) (wrap64 (x6 + 1)) x8 x9 x10 x543000 x543001) else (none)) else (none)) else (impl_ticks.l0 k x3 x8 x9 (wrap64 (x10 + 1)))
end
def impl_ticks.f (k : Nat) (l0 : List (S82)) : Option (List Bool) := if 1000 ≤ 281474976710656 then (impl_ticks.l0 k (List.replicate 1000 false) l0 (l0.length : Int) 0) else (none)
theorem impl_ticks.mono_l : ∀ k, (∀ y0 y1 y2 y3, LeO (impl_ticks.l0 k y0 y1 y2 y3) (impl_ticks.l0 (k + 1) y0 y1 y2 y3)) ∧ (∀ y0 y1 y2 y3 y4 y5 y6, LeO (impl_ticks.l1 k y0 y1 y2 y3 y4 y5 y6) (impl_ticks.l1 (k + 1) y0 y1 y2 y3 y4 y5 y6))
 | 0 => ⟨fun _ _ _ _ r h => by simp [impl_ticks.l0] at h, fun _ _ _ _ _ _ _ r h => by simp [impl_ticks.l1] at h⟩
 | k + 1 => by
  obtain ⟨ih0, ih1⟩ := impl_ticks.mono_l k
  refine ⟨?_, ?_⟩
  ·intro y0 y1 y2 y3
   unfold impl_ticks.l0
   repeat' first | (with_reducible first | exact ih0 _ _ _ _ | exact ih1 _ _ _ _ _ _ _ | exact LeO.refl _ | exact LeO.none _ | refine LeO.ite ?_ ?_ | refine LeO.bind ?_ (fun _ => ?_)) | exact LeO.none _ | refine LeO.ite ?_ ?_ | refine LeO.bind ?_ (fun _ => ?_)
  ·intro y0 y1 y2 y3 y4 y5 y6
   unfold impl_ticks.l1
   repeat' first | (with_reducible first | exact ih0 _ _ _ _ | exact ih1 _ _ _ _ _ _ _ | exact LeO.refl _ | exact LeO.none _ | refine LeO.ite ?_ ?_ | refine LeO.bind ?_ (fun _ => ?_)) | exact LeO.none _ | refine LeO.ite ?_ ?_ | refine LeO.bind ?_ (fun _ => ?_)
theorem impl_ticks.mono : ∀ a0 k, LeO (impl_ticks.f k a0) (impl_ticks.f (k + 1) a0) := by
 intro a0 k
 obtain ⟨ih0, ih1⟩ := impl_ticks.mono_l k
 unfold impl_ticks.f
 repeat' first | (with_reducible first | exact ih0 _ _ _ _ | exact ih1 _ _ _ _ _ _ _ | exact LeO.refl _ | exact LeO.none _ | refine LeO.ite ?_ ?_ | refine LeO.bind ?_ (fun _ => ?_)) | exact LeO.none _ | refine LeO.ite ?_ ?_ | refine LeO.bind ?_ (fun _ => ?_)
set_option maxHeartbeats 8000000 in
set_option maxRecDepth 100000 in
theorem impl_ticks.calls (k : Nat) (A0 : Option Addr) (c0 : Nat) (l0 : List (S82)) (r : List Bool) (w : World) (hr0 : Kd.C k82 w A0 l0.length l0) (hc0 : l0.length ≤ c0) (h : impl_ticks.f k l0 = some r) :
  Calls Try.prog 100 #[.slice A0 l0.length c0] w fun e w' => ∃ v0_ : Value, e = .returned (v0_) ∧ Kd.R Kd.bool 4 w' w.heap.size (fun _ => True) v0_ r ∧ Below w.heap.size w w' := by
 have hu82 := Try.underlying82
 have HR0 := Aside0.mk hr0
 have HC0 := Aside0.mk hc0
 clear hr0 hc0
 have HB := Aside0.mk (Below.refl w.heap.size w)
 have H := h
 clear h
 unfold impl_ticks.f at H
 replace H := ifn_ H
 obtain ⟨c2, H⟩ := H
 have c2b0 := eq_true c2
 have c2b1 := decide_eq_true c2
 clear c2
 replace H : ∃ y_ : List Bool, Aside0 (y_ = (List.replicate 1000 false)) ∧ (impl_ticks.l0 k y_ l0 (l0.length : Int) 0) = some r := ⟨_, ⟨rfl⟩, yh_ H⟩
 obtain ⟨y538, Ny538, H⟩ := H
 have H' := Aside0.mk H
 clear H
 go_enter Try.func100, Try.ntmps100
 go_wp2_with (first | ((with_reducible refine gate_dst (N := 7) rfl ?_); refine Kd.R_make Kd.bool _ 4 rfl (N := 7) rfl 109 _ _ rfl 1000 rfl rfl Try.underlying109 (.bool false) 1 info4 rfl (by decide) (by omega) false (ok := fun _ => True) (okp := fun _ => True) rfl (fun _ hk => hk) trivial (by omega) (by omega) (Below.refl _ _) (Nat.le_refl _) ?_; intro v539 w3 ho4 hb hg_ hnew_; clear hg_ hnew_; (first | rw [← Ny538.out] at ho4 | (simp only [Int.reduceToNat] at ho4; rw [← Ny538.out] at ho4)); refine sh2_ (Kd.R_lower ho4 (below_size (bl_ HB))) (below_step (bl_ HB) hb) ?_; clear HB hb ho4; intro HO540 HB))
 go_loopg [10] k (fun kq v10 w' => ∃ (x3_1 : List Bool) (x10_1 : Int), v10 = iv_ x10_1 ∧ Aside0 (impl_ticks.l0 kq x3_1 l0 (l0.length : Int) x10_1 = some r) ∧ Aside0 (kq ≤ k) ∧ Aside0 (Kd.R Kd.bool 4 w' w.heap.size (fun _ => True) v539 x3_1) ∧ Aside0 (Below w.heap.size w w'))
 case atStart => exact ⟨(y538), (0), (by first | rfl | (simp; done) | (simp [*]; done)), H', ⟨Nat.le_refl _⟩, ⟨ra_ HO540⟩, ⟨bl_ HB⟩⟩
 case round =>
  clear H'
  obtain ⟨x3_1, x10_1, rfl, HA, HK1, HO_3, HB⟩ := hrel
  cases gk with
  | zero => exact absurd HA.out (by simp [impl_ticks.l0])
  | succ k1 =>
   have H := HA.out
   clear HA
   simp only [impl_ticks.l0] at H
   by_cases c5 : x10_1 < (l0.length : Int)
   ·rw [if_pos c5] at H
    have c5b0 := decide_eq_true c5
    clear c5
    replace H := ifn_ H
    obtain ⟨c6, H⟩ := H
    have c6b0 := decide_eq_true c6
    clear c6
    replace H := ifn_ H
    obtain ⟨c7, H⟩ := H
    have c7b0 := decide_eq_true c7
    clear c7
    replace H := bs_ H
    obtain ⟨t543, A8, H⟩ := H
    by_cases c9 : t543 = true
    ·subst c9
     rw [if_pos rfl] at H
     have H' := Aside0.mk H
     clear H
     have p541 : 0 ≤ (x10_1 : Int) := od_
     have q541 : x10_1 < (l0.length : Int) := od_
     obtain ⟨ad541, e541, hx541_0, hx541_1⟩ := at_T82 HR0.out x10_1 p541 q541
     cases e541
     replace hx541_0 := hbc_ HB hx541_0
     replace hx541_1 := hbc_ HB hx541_1
     replace p541 := eq_true p541
     replace q541 := eq_true q541
     go_wp2_with (first | ((with_reducible refine gd_ 5 ?_); refine bx_ 5 82 #[iv_ 0, iv_ 0] ?_; intro gb542 hg w10 hbox hb; refine sh4_ (Kd.R_below (ra_ HO_3) hb) (below_step (bl_ HB) hb) hbox (ge_ hg (bl_ HB)) ?_; clear HO_3 HB hb hbox hg; intro HO_3 HB BK542 GE542; have hcz11 := cf2_ BK542) | ((with_reducible refine gate_callee (f := 99) rfl ?_); refine gl_ 15 Try.func99 (impl_IsSpan.calls ((rd_T82 l0 x10_1).f0) ((rd_T82 l0 x10_1).f1) true _ A8.out) ?_; rintro e w12 ⟨rfl, hb⟩; refine ⟨_, rfl, sh3_ (Kd.R_below (by (with_reducible repeat (first | apply Kd.R_alloc | apply Kd.R_drewN | apply Kd.R_drew)); exact (Kd.R_mono (Kd.R_far (p := ⟨gb542, 1, none⟩) (Kd.R_far (p := ⟨gb542, 0, none⟩) (Kd.R_types HO_3.out BK542.out (by decide)) (fun _ hk => hk.2) (iv_ ((rd_T82 l0 x10_1).f0))) (fun _ hk => hk.2) (iv_ ((rd_T82 l0 x10_1).f1))) (fun _ h_ => h_.1))) hb) (blk_below (g := gb542) (o := .cells #[iv_ ((rd_T82 l0 x10_1).f0), iv_ ((rd_T82 l0 x10_1).f1)] 82 (0, 0)) (bp_ BK542) hb) (below_step (bl1_ HB GE542) hb) ?_⟩; clear HO_3 BK542 HB hb; intro HO_3 BK542 HB; have hcz13 := cf2_ BK542))
     go_loopg [6] k1 (fun kq v6 w' => ∃ (x3_2 : List Bool) (x6_2 : Int), v6 = iv_ x6_2 ∧ Aside0 (impl_ticks.l1 kq x3_2 x6_2 l0 (l0.length : Int) x10_1 ((rd_T82 l0 x10_1).f0) ((rd_T82 l0 x10_1).f1) = some r) ∧ Aside0 (kq ≤ k1) ∧ Aside0 (Kd.R Kd.bool 4 w' w.heap.size (fun _ => True) v539 x3_2) ∧ Aside0 (w'.heap[gb542]? = some (.cells #[iv_ ((rd_T82 l0 x10_1).f0), iv_ ((rd_T82 l0 x10_1).f1)] 82 (0, 0))) ∧ Aside0 (Below w.heap.size w w'))
     case atStart => exact ⟨(x3_1), ((rd_T82 l0 x10_1).f0), (by first | rfl | (simp; done) | (simp [*]; done)), H', ⟨Nat.le_refl _⟩, ⟨ra_ HO_3⟩, ⟨by (with_reducible repeat (first | refine blk_drewN ?_ _ | refine blk_drew ?_ | refine blk_alloc ?_ _)); exact BK542.out⟩, ⟨bl1_ HB GE542⟩⟩
     case round =>
      clear H'
      obtain ⟨x3_2, x6_2, rfl, HA, HK2, HO_3, BK542, HB⟩ := hrel
      cases gk with
      | zero => exact absurd HA.out (by simp [impl_ticks.l1])
      | succ k2 =>
       have H := HA.out
       clear HA
       simp only [impl_ticks.l1] at H
       by_cases c14 : x6_2 < ((rd_T82 l0 x10_1).f1)
       ·rw [if_pos c14] at H
        have c14b0 := decide_eq_true c14
        clear c14
        replace H := ifn_ H
        obtain ⟨c15, H⟩ := H
        have c15b0 := decide_eq_true c15
        clear c15
        replace H := ifn_ H
        obtain ⟨c16, H⟩ := H
        have c16b0 := decide_eq_true c16
        clear c16
        replace H : ∃ y_ : List Bool, Aside0 (y_ = (x3_2.set (x6_2 : Int).toNat true)) ∧ (impl_ticks.l1 k2 y_ (wrap64 (x6_2 + 1)) l0 (l0.length : Int) x10_1 ((rd_T82 l0 x10_1).f0) ((rd_T82 l0 x10_1).f1)) = some r := ⟨_, ⟨rfl⟩, yh_ H⟩
        obtain ⟨y544, Ny544, H⟩ := H
        have H' := Aside0.mk H
        clear H
        have hcz18 := cf2_ BK542
        have p17 : 0 ≤ (x6_2 : Int) := od_
        have q17 : (x6_2 : Int) < ((x3_2.length : Int) : Int) := od_
        obtain ⟨go17, co17, eo17, gb17, gl17, cl17, HG17⟩ := Kd.R_form HO_3.out (by omega)
        (first | cases eo17 | (injection eo17 with ea_ en_ ec_; (first | subst ea_ | (injection ea_ with ea_; subst ea_)); subst ec_; clear en_))
        have GB17 := Aside0.mk gb17
        have GG17 := Aside0.mk HG17
        clear gb17 gl17 HG17
        obtain ⟨hx17_0, hf17_0⟩ := Kd.R_celln false HO_3.out (x6_2 : Int) p17 q17
        replace p17 := eq_true p17
        replace q17 := eq_true q17
        have HP19 := Kd.R_putg HO_3.out (x6_2 : Int) true
        go_wp2_with (first | ((with_reducible refine gate_store (t := 4) (p := 26) rfl ?_); refine store_event (t := 4) (p := 26) (v := ?vo_w20) (w1 := (wr.setCell ⟨go17, (x6_2 : Int).toNat, none⟩ (.bool true))) ?hg ?ho ?hn ?hr ?_; (case ho => rfl); (case hg => rfl); (case hn => rfl); (case hr => first | (go_simp; done) | (go_simp; rfl)); intro w20 hw; have hg : wr.grownBy w20 (some go17) := (by rw [hw]; exact HP19.2); have hp_ : Kd.R Kd.bool 4 w20 w.heap.size (fun _ => True) (.slice (some ⟨go17, 0, none⟩) x3_2.length co17) y544 := (by rw [hw, Ny544.out]; exact HP19.1); clear HP19; refine sh3_ hp_ (blk_grown (g := gb542) (o := .cells #[iv_ ((rd_T82 l0 x10_1).f0), iv_ ((rd_T82 l0 x10_1).f1)] 82 (0, 0)) (bk_ BK542) hg (Kd.R_ne HO_3.out BK542.out (by decide))) ((by rw [hw]; exact below_set (HB.out) GB17.out : Below w.heap.size w w20)) ?_; clear HO_3 BK542 HB; intro HO_3 BK542 HB; clear hg hw hp_))
        go_roundg k2
        case measure => have := HK1.out; have := HK2.out; omega
        case rel => exact ⟨(y544), (wrap64 (x6_2 + 1)), (by first | rfl | (simp; done) | (simp [*]; done)), H', ⟨by have := HK1.out; have := HK2.out; omega⟩, ⟨ra_ HO_3⟩, ⟨by (with_reducible repeat (first | refine blk_drewN ?_ _ | refine blk_drew ?_ | refine blk_alloc ?_ _)); exact BK542.out⟩, ⟨bl1_ HB GE542⟩⟩
       ·rw [if_neg c14] at H
        have c14b0 := decide_eq_false c14
        clear c14
        have H' := Aside0.mk H
        clear H
        have hcz21 := cf2_ BK542
        go_wp2
        go_roundg k2
        case measure => have := HK1.out; have := HK2.out; omega
        case rel => exact ⟨(x3_2), (wrap64 (x10_1 + 1)), (by first | rfl | (simp; done) | (simp [*]; done)), H', ⟨by have := HK1.out; have := HK2.out; omega⟩, ⟨ra_ HO_3⟩, ⟨bl1_ HB GE542⟩⟩
    ·replace c9 := Bool.eq_false_iff.mpr c9
     subst c9
     have H1 : (impl_ticks.l0 k1 x3_1 l0 (l0.length : Int) (wrap64 (x10_1 + 1))) = some r := by rw [if_neg (show ¬ (false = true) by decide)] at H; exact H
     clear H
     have H := H1
     clear H1
     have H' := Aside0.mk H
     clear H
     have p541 : 0 ≤ (x10_1 : Int) := od_
     have q541 : x10_1 < (l0.length : Int) := od_
     obtain ⟨ad541, e541, hx541_0, hx541_1⟩ := at_T82 HR0.out x10_1 p541 q541
     cases e541
     replace hx541_0 := hbc_ HB hx541_0
     replace hx541_1 := hbc_ HB hx541_1
     replace p541 := eq_true p541
     replace q541 := eq_true q541
     go_wp2_with (first | ((with_reducible refine gd_ 5 ?_); refine bx_ 5 82 #[iv_ 0, iv_ 0] ?_; intro gb542 hg w22 hbox hb; refine sh4_ (Kd.R_below (ra_ HO_3) hb) (below_step (bl_ HB) hb) hbox (ge_ hg (bl_ HB)) ?_; clear HO_3 HB hb hbox hg; intro HO_3 HB BK542 GE542; have hcz23 := cf2_ BK542) | ((with_reducible refine gate_callee (f := 99) rfl ?_); refine gl_ 15 Try.func99 (impl_IsSpan.calls ((rd_T82 l0 x10_1).f0) ((rd_T82 l0 x10_1).f1) false _ A8.out) ?_; rintro e w24 ⟨rfl, hb⟩; refine ⟨_, rfl, sh3_ (Kd.R_below (by (with_reducible repeat (first | apply Kd.R_alloc | apply Kd.R_drewN | apply Kd.R_drew)); exact (Kd.R_mono (Kd.R_far (p := ⟨gb542, 1, none⟩) (Kd.R_far (p := ⟨gb542, 0, none⟩) (Kd.R_types HO_3.out BK542.out (by decide)) (fun _ hk => hk.2) (iv_ ((rd_T82 l0 x10_1).f0))) (fun _ hk => hk.2) (iv_ ((rd_T82 l0 x10_1).f1))) (fun _ h_ => h_.1))) hb) (blk_below (g := gb542) (o := .cells #[iv_ ((rd_T82 l0 x10_1).f0), iv_ ((rd_T82 l0 x10_1).f1)] 82 (0, 0)) (bp_ BK542) hb) (below_step (bl1_ HB GE542) hb) ?_⟩; clear HO_3 BK542 HB hb; intro HO_3 BK542 HB))
     go_roundg k1
     case measure => have := HK1.out; omega
     case rel => exact ⟨(x3_1), (wrap64 (x10_1 + 1)), (by first | rfl | (simp; done) | (simp [*]; done)), H', ⟨by have := HK1.out; omega⟩, ⟨ra_ HO_3⟩, ⟨bl1_ HB GE542⟩⟩
   ·rw [if_neg c5] at H
    have c5b0 : decide (x10_1 < (l0.length : Int)) = false := decide_eq_false c5
    clear c5
    obtain rfl := Option.some.inj H
    go_wp2
    go_ret
    exact ⟨_, by first | (rw [hRT_.out]; rfl) | exact er_, ra_ HO_3, bl_ HB⟩

/-! ### impl_JoinSpans_1: function 101 -/
def impl_JoinSpans_1.f (a0 : Int) (l1 : List Bool) : Option (Bool) := if 0 ≤ a0 then (if a0 < (l1.length : Int) then (some (rdOf false l1 a0)) else (none)) else (none)
set_option maxHeartbeats 8000000 in
set_option maxRecDepth 100000 in
theorem impl_JoinSpans_1.calls (a0 : Int) (A1 : Option Addr) (c1 : Nat) (l1 : List Bool) (r : Bool) (w : World) (B0 : Nat) (hB0 : w.heap[B0]? = some (.cells #[.slice A1 l1.length c1] 109 (0, 0))) (hr1 : Kd.C Kd.bool w A1 l1.length l1) (hc1 : l1.length ≤ c1) (h : impl_JoinSpans_1.f a0 l1 = some r) :
  Calls Try.prog 101 #[iv_ a0, .pointer (some ⟨B0, 0, none⟩)] w fun e w' => e = .returned (.bool r) ∧ Drawn0 w w' := by
 have hcB0_0 : w.cell? ⟨B0, 0, none⟩ = some (.slice A1 l1.length c1) := (blk_cell hB0 0).trans rfl
 have HR1 := Aside0.mk hr1
 have HC1 := Aside0.mk hc1
 clear hr1 hc1
 have H := h
 clear h
 unfold impl_JoinSpans_1.f at H
 replace H := ifn_ H
 obtain ⟨c3, H⟩ := H
 have c3b0 := decide_eq_true c3
 clear c3
 replace H := ifn_ H
 obtain ⟨c4, H⟩ := H
 have c4b0 := decide_eq_true c4
 clear c4
 obtain rfl := Option.some.inj H
 have p545 : 0 ≤ (a0 : Int) := od_
 have q545 : a0 < (l1.length : Int) := od_
 obtain ⟨ad545, e545, hx545_0⟩ := Kd.at_bool HR1.out a0 p545 q545
 cases e545
 replace p545 := eq_true p545
 replace q545 := eq_true q545
 go_enter Try.func101, Try.ntmps101
 go_wp2
 go_ret
 exact ⟨by first | rfl | (simp; done) | (simp [*]; done), by repeat (first | exact Drawn0.refl _ | apply Drawn0.step)⟩


def where_impl_JoinSpans_1.f (k : Nat) (y0 y1 : Int) (l1 : List Bool) : Option (List (S82)) := sw.f (fun k' t' => impl_JoinSpans_1.f t' l1) k y0 y1
theorem where_impl_JoinSpans_1.mono : ∀ y0 y1 l1 k, LeO (where_impl_JoinSpans_1.f k y0 y1 l1) (where_impl_JoinSpans_1.f (k + 1) y0 y1 l1) := fun y0 y1 l1 k => sw.mono _ (fun _ _ => LeO.refl _) y0 y1 k
theorem where_impl_JoinSpans_1.calls (k : Nat) (y0 y1 : Int) (A1 : Option Addr) (c1 : Nat) (l1 : List Bool) (r : List (S82)) (w : World) (B0 : Nat) (hB0 : w.heap[B0]? = some (.cells #[.slice A1 l1.length c1] 109 (0, 0))) (hr1 : Kd.C Kd.bool w A1 l1.length l1) (hc1 : l1.length ≤ c1) (h : where_impl_JoinSpans_1.f k y0 y1 l1 = some r) :
  Calls Try.prog 61 #[iv_ y0, iv_ y1, .func (.func 101) #[] #[.pointer (some ⟨B0, 0, none⟩)]] w fun e w' => ∃ v0_ : Value, e = .returned (v0_) ∧ Kd.R k82 82 w' w.heap.size (fun _ => True) v0_ r ∧ Below w.heap.size w w' := by
 refine sw.calls (fun k' t' => impl_JoinSpans_1.f t' l1) k y0 y1 r w 101 _ (fun args w => enters_ Try.func101 (by kernel_rfl) rfl args w) (fun k' t b W hq hb => ?_) h
 have hB0' := blk_below hB0 hb
 have hh := impl_JoinSpans_1.calls t A1 c1 l1 b W B0 hB0' (Kd.C_below hr1 hb) hc1 hq
 exact hh.mono (fun e w' hx => ⟨hx.1, by obtain ⟨n, rfl⟩ := hx.2.out; exact pw_below_drewN (Below.refl _ _) n⟩)

/-! ### impl_JoinSpans: function 67 -/
def impl_JoinSpans.f (k : Nat) (l0 : List (S82)) : Option ((List (S82))) := (impl_ticks.f k l0).bind fun t546 => ((where_impl_JoinSpans_1.f k 0 1000 t546).bind fun t549 => (some t549))
theorem impl_JoinSpans.mono : ∀ a0 k, LeO (impl_JoinSpans.f k a0) (impl_JoinSpans.f (k + 1) a0) := by
 intro a0 k
 unfold impl_JoinSpans.f
 repeat' first | (with_reducible first | exact impl_ticks.mono _ _ | exact where_impl_JoinSpans_1.mono _ _ _ _ | exact LeO.refl _ | exact LeO.none _ | refine LeO.ite ?_ ?_ | refine LeO.bind ?_ (fun _ => ?_)) | exact LeO.none _ | refine LeO.ite ?_ ?_ | refine LeO.bind ?_ (fun _ => ?_)
set_option maxHeartbeats 8000000 in
set_option maxRecDepth 100000 in
theorem impl_JoinSpans.calls (k : Nat) (A0 : Option Addr) (c0 : Nat) (l0 : List (S82)) (r : List (S82)) (w : World) (hr0 : Kd.C k82 w A0 l0.length l0) (hc0 : l0.length ≤ c0) (h : impl_JoinSpans.f k l0 = some r) :
  Calls Try.prog 67 #[.slice A0 l0.length c0] w fun e w' => ∃ v0_ : Value, e = .returned (v0_) ∧ Kd.R k82 82 w' w.heap.size (fun _ => True) v0_ r ∧ Below w.heap.size w w' := by
 have HR0 := Aside0.mk hr0
 have HC0 := Aside0.mk hc0
 clear hr0 hc0
 have HB := Aside0.mk (Below.refl w.heap.size w)
 have H := h
 clear h
 unfold impl_JoinSpans.f at H
 replace H := bs_ H
 obtain ⟨t546, A2, H⟩ := H
 replace H := bs_ H
 obtain ⟨t549, A3, H⟩ := H
 obtain rfl := Option.some.inj H
 go_enter Try.func67, Try.ntmps67
 go_wp2_with (first | ((with_reducible refine gate_callee (f := 100) rfl ?_); refine gl_ 5 Try.func100 (impl_ticks.calls k _ _ l0 t546 _ (cq_ HR0) HC0.out A2.out) ?_; rintro e w4 ⟨v547, rfl, ho0, hb⟩; refine ⟨_, rfl, sh2_ (Kd.R_lower ho0 (below_size (bl_ HB))) (below_step (bl_ HB) hb) ?_⟩; clear HB hb ho0; intro HO548 HB; obtain ⟨Ao5, co5, eo5⟩ := Kd.R_slice HO548.out; subst eo5) | ((with_reducible refine gd_ 3 ?_); refine bx_ 3 109 #[.slice none 0 0] ?_; intro gx3 hg wx3 hbox hb; have hHBy_ := Aside0.mk hb; have GE3_ := Aside0.mk ((by rw [hg]; exact Nat.le_refl _ : w4.heap.size ≤ gx3)); have HBx_ := hHBy_; clear hHBy_; have BK3_ := Aside0.mk hbox; clear hb hg hbox; have hcz3_ := bc_ BK3_ 0 rfl; have hfz3_ := bf_ BK3_ 0) | ((with_reducible refine gate_callee (f := 61) rfl ?_); refine goesL_ (some 7) rfl rfl Try.func61 (by kernel_rfl) rfl #[iv_ 0, iv_ 1000, .func (.func 101) #[] #[.pointer (some ⟨gx3, 0, none⟩)]] rfl (by (try simp only [List.map_toArray, List.map_cons, List.map_nil]); first | done | rfl) ?_; have HBz_ := below_set (j := 0) (v := .slice Ao5 t546.length co5) (HBx_.out) GE3_.out; (refine (where_impl_JoinSpans_1.calls k 0 1000 Ao5 co5 t546 t549 _ gx3 (blk_put (cs := #[.slice none 0 0]) (BK3_.out) 0 (.slice Ao5 t546.length co5) rfl) (Kd.C_below (Kd.R_reads' HO548.out).2.2 HBz_) (Kd.R_reads' HO548.out).2.1 A3.out).mono ?_); rintro e wz ⟨vz, rfl, ho0, hb⟩; refine ⟨_, rfl, ?_⟩; have n0_ := Aside0.mk (below_then HB.out (below_size HB.out) HBz_); have HO551 := Aside0.mk (Kd.R_lower ho0 (below_size n0_.out)); have n2_ := Aside0.mk (below_step n0_.out hb); clear HB; have HB := n2_; clear n0_ n2_ hb ho0))
 go_ret
 exact ⟨_, by first | (rw [hRT_.out]; rfl) | exact er_, ra_ HO551, bl_ HB⟩

/-! ### impl_TicksOf: function 25 -/
def impl_TicksOf.l0 : Nat → Int → List (S82) → Int → Int → Option (Int)
 | 0, _, _, _, _ => none
 | k + 1, x3, x7, x8, x9 => if x9 < x8 then (if 0 ≤ x9 then (if x9 < (x7.length : Int) then (impl_TicksOf.l0 k (wrap64 (x3 + (wrap64 (((rd_T82 x7 x9).f1) - ((rd_T82 x7 x9).f0))))) x7 x8 (wrap64 (x9 + 1))) else (none)) else (none)) else (some x3)
def impl_TicksOf.f (k : Nat) (l0 : List (S82)) : Option (Int) := (impl_JoinSpans.f k l0).bind fun t552 => (impl_TicksOf.l0 k 0 t552 (t552.length : Int) 0)
theorem impl_TicksOf.mono_l : ∀ k, (∀ y0 y1 y2 y3, LeO (impl_TicksOf.l0 k y0 y1 y2 y3) (impl_TicksOf.l0 (k + 1) y0 y1 y2 y3))
 | 0 => fun _ _ _ _ r h => by simp [impl_TicksOf.l0] at h
 | k + 1 => by
  have ih0 := impl_TicksOf.mono_l k
  ·intro y0 y1 y2 y3
   unfold impl_TicksOf.l0
   repeat' first | (with_reducible first | exact ih0 _ _ _ _ | exact impl_JoinSpans.mono _ _ | exact LeO.refl _ | exact LeO.none _ | refine LeO.ite ?_ ?_ | refine LeO.bind ?_ (fun _ => ?_)) | exact LeO.none _ | refine LeO.ite ?_ ?_ | refine LeO.bind ?_ (fun _ => ?_)
theorem impl_TicksOf.mono : ∀ a0 k, LeO (impl_TicksOf.f k a0) (impl_TicksOf.f (k + 1) a0) := by
 intro a0 k
 have ih0 := impl_TicksOf.mono_l k
 unfold impl_TicksOf.f
 repeat' first | (with_reducible first | exact ih0 _ _ _ _ | exact impl_JoinSpans.mono _ _ | exact LeO.refl _ | exact LeO.none _ | refine LeO.ite ?_ ?_ | refine LeO.bind ?_ (fun _ => ?_)) | exact LeO.none _ | refine LeO.ite ?_ ?_ | refine LeO.bind ?_ (fun _ => ?_)
set_option maxHeartbeats 8000000 in
set_option maxRecDepth 100000 in
theorem impl_TicksOf.calls (k : Nat) (A0 : Option Addr) (c0 : Nat) (l0 : List (S82)) (r : Int) (w : World) (hr0 : Kd.C k82 w A0 l0.length l0) (hc0 : l0.length ≤ c0) (h : impl_TicksOf.f k l0 = some r) :
  Calls Try.prog 25 #[.slice A0 l0.length c0] w fun e w' => e = .returned (iv_ r) ∧ Below w.heap.size w w' := by
 have hu82 := Try.underlying82
 have HR0 := Aside0.mk hr0
 have HC0 := Aside0.mk hc0
 clear hr0 hc0
 have HB := Aside0.mk (Below.refl w.heap.size w)
 have H := h
 clear h
 unfold impl_TicksOf.f at H
 replace H := bs_ H
 obtain ⟨t552, A2, H⟩ := H
 have H' := Aside0.mk H
 clear H
 go_enter Try.func25, Try.ntmps25
 go_wp2_with (first | ((with_reducible refine gate_callee (f := 67) rfl ?_); refine gl_ 7 Try.func67 (impl_JoinSpans.calls k _ _ l0 t552 _ (cq_ HR0) HC0.out A2.out) ?_; rintro e w3 ⟨v553, rfl, ho0, hb⟩; refine ⟨_, rfl, sh2_ (Kd.R_lower ho0 (below_size (bl_ HB))) (below_step (bl_ HB) hb) ?_⟩; clear HB hb ho0; intro HO554 HB; obtain ⟨Ao4, co4, eo4⟩ := Kd.R_slice HO554.out; subst eo4))
 go_loopg [3, 9] k (fun kq v3 v9 w' => ∃ (x3_1 : Int) (x9_1 : Int), v3 = iv_ x3_1 ∧ v9 = iv_ x9_1 ∧ Aside0 (impl_TicksOf.l0 kq x3_1 t552 (t552.length : Int) x9_1 = some r) ∧ Aside0 (kq ≤ k) ∧ Aside0 (Kd.R k82 82 w' w.heap.size (fun _ => True) (.slice Ao4 t552.length co4) t552) ∧ Aside0 (Below w.heap.size w w'))
 case atStart => exact ⟨(0), (0), (by first | rfl | (simp; done) | (simp [*]; done)), (by first | rfl | (simp; done) | (simp [*]; done)), H', ⟨Nat.le_refl _⟩, ⟨ra_ HO554⟩, ⟨bl_ HB⟩⟩
 case round =>
  clear H'
  obtain ⟨x3_1, x9_1, rfl, rfl, HA, HK1, HO_7, HB⟩ := hrel
  cases gk with
  | zero => exact absurd HA.out (by simp [impl_TicksOf.l0])
  | succ k1 =>
   have H := HA.out
   clear HA
   simp only [impl_TicksOf.l0] at H
   by_cases c5 : x9_1 < (t552.length : Int)
   ·rw [if_pos c5] at H
    have c5b0 := decide_eq_true c5
    clear c5
    replace H := ifn_ H
    obtain ⟨c6, H⟩ := H
    have c6b0 := decide_eq_true c6
    clear c6
    replace H := ifn_ H
    obtain ⟨c7, H⟩ := H
    have c7b0 := decide_eq_true c7
    clear c7
    have H' := Aside0.mk H
    clear H
    have p555 : 0 ≤ (x9_1 : Int) := od_
    have q555 : x9_1 < (t552.length : Int) := od_
    obtain ⟨ad555, e555, hx555_0, hx555_1⟩ := at_T82 (Kd.R_reads' HO_7.out).2.2 x9_1 p555 q555
    cases e555
    replace p555 := eq_true p555
    replace q555 := eq_true q555
    go_wp2_with (first | ((with_reducible refine gd_ 5 ?_); refine bx_ 5 82 #[iv_ 0, iv_ 0] ?_; intro gb556 hg w8 hbox hb; refine sh4_ (Kd.R_below (Kd.R_elderB (ra_ HO_7) gb556 (Nat.le_of_eq hg.symm)) hb) (below_step (bl_ HB) hb) hbox (ge_ hg (bl_ HB)) ?_; clear HO_7 HB hb hbox hg; intro HO_7 HB BK556 GE556; have hcz9 := cf2_ BK556))
    go_roundg k1
    case measure => have := HK1.out; omega
    case rel => exact ⟨(wrap64 (x3_1 + (wrap64 (((rd_T82 t552 x9_1).f1) - ((rd_T82 t552 x9_1).f0))))), (wrap64 (x9_1 + 1)), (by first | rfl | (simp; done) | (simp [*]; done)), (by first | rfl | (simp; done) | (simp [*]; done)), H', ⟨by have := HK1.out; omega⟩, ⟨by (with_reducible repeat (first | apply Kd.R_alloc | apply Kd.R_drewN | apply Kd.R_drew)); exact Kd.R_mono (Kd.R_far (p := ⟨gb556, 1, none⟩) (Kd.R_far (p := ⟨gb556, 0, none⟩) (Kd.R_mono HO_7.out (fun k_ hk => (⟨hk, hk.2⟩ : _ ∧ k_ ≠ gb556))) (fun _ hk => hk.2) (iv_ ((rd_T82 t552 x9_1).f0))) (fun _ hk => hk.2) (iv_ ((rd_T82 t552 x9_1).f1))) (fun _ hk => trivial)⟩, ⟨bl1_ HB GE556⟩⟩
   ·rw [if_neg c5] at H
    have c5b0 := decide_eq_false c5
    clear c5
    obtain rfl := Option.some.inj H
    go_wp2
    go_ret
    exact ⟨by first | (rw [hRT_.out]; rfl) | exact er_, bl_ HB⟩

end Go.Proofs.Ytopbkdcicidajaa.PFnShadows
