-- Written by a program of this session for this claim (the kit's printer with changes).
import Derived.Test.YtopbkdcicidajaaQFnSightx0
import Derived.Test.YtopbkdcicidajaaQFnSightx1
import Derived.Test.YtopbkdcicidajaaQFnSightx6
namespace Go.Proofs.Ytopbkdcicidajaa.PFnSight
open Go.RowKit Go.Proofs.YtopbkdcicidajaaW.PrintWords Go.Proofs.YtopbkdcicidajaaW.PrintLast Go.Proofs.YtopbkdcicidajaaW.PrintMore
attribute [local go_sem] max2_int min2_int max_two min_two max_three min_three max_four min_four   -- for this text's walks alone
set_option linter.unusedVariables false
set_option linter.unusedSimpArgs false

/-! ### impl_IsSure: function 12 -/
def impl_IsSure.f (k : Nat) (a0_0 : Int) (l0_1 : List (S72)) (l0_2 : List (S74)) (a0_3 : Int) (a0_4 : Int) (a0_5 : Int) (a0_6 : Int) (a0_7 : Int) (l0_8 : List (S88)) (a0_9 : Int) (a1 : Int) (a2 : Int) (a3 : Int) : Option (Bool) := (impl_SightAt.f k a0_0 l0_1 l0_2 a0_3 a0_4 a0_5 a0_6 a0_7 l0_8 a0_9 a1 a2 a3).bind fun t477 => (some (t477 == 2))
theorem impl_IsSure.mono : ∀ a0 a1 a2 a3 a4 a5 a6 a7 a8 a9 a10 a11 a12 k, LeO (impl_IsSure.f k a0 a1 a2 a3 a4 a5 a6 a7 a8 a9 a10 a11 a12) (impl_IsSure.f (k + 1) a0 a1 a2 a3 a4 a5 a6 a7 a8 a9 a10 a11 a12) := by
 intro a0 a1 a2 a3 a4 a5 a6 a7 a8 a9 a10 a11 a12 k
 unfold impl_IsSure.f
 repeat' first | (with_reducible first | exact impl_SightAt.mono _ _ _ _ _ _ _ _ _ _ _ _ _ _ | exact LeO.refl _ | exact LeO.none _ | refine LeO.ite ?_ ?_ | refine LeO.bind ?_ (fun _ => ?_)) | exact LeO.none _ | refine LeO.ite ?_ ?_ | refine LeO.bind ?_ (fun _ => ?_)
set_option maxHeartbeats 8000000 in
set_option maxRecDepth 100000 in
theorem impl_IsSure.calls (k : Nat) (a0_0 : Int) (A0_1 : Option Addr) (c0_1 : Nat) (l0_1 : List (S72)) (A0_2 : Option Addr) (c0_2 : Nat) (l0_2 : List (S74)) (a0_3 : Int) (a0_4 : Int) (a0_5 : Int) (a0_6 : Int) (a0_7 : Int) (A0_8 : Option Addr) (c0_8 : Nat) (l0_8 : List (S88)) (a0_9 : Int) (a1 : Int) (a2 : Int) (a3 : Int) (r : Bool) (w : World) (hr0_1 : Kd.C k72 w A0_1 l0_1.length l0_1) (hc0_1 : l0_1.length ≤ c0_1) (hr0_2 : Kd.C k74 w A0_2 l0_2.length l0_2) (hc0_2 : l0_2.length ≤ c0_2) (hr0_8 : Kd.C k88 w A0_8 l0_8.length l0_8) (hc0_8 : l0_8.length ≤ c0_8) (h : impl_IsSure.f k a0_0 l0_1 l0_2 a0_3 a0_4 a0_5 a0_6 a0_7 l0_8 a0_9 a1 a2 a3 = some r) :
  Calls Try.prog 12 #[.agg #[iv_ a0_0, .slice A0_1 l0_1.length c0_1, .slice A0_2 l0_2.length c0_2, iv_ a0_3, iv_ a0_4, iv_ a0_5, iv_ a0_6, iv_ a0_7, .slice A0_8 l0_8.length c0_8, iv_ a0_9], iv_ a1, iv_ a2, iv_ a3] w fun e w' => e = .returned (.bool r) ∧ Below w.heap.size w w' := by
 have hu28 := Try.underlying28
 have HR0_1 := Aside0.mk hr0_1
 have HC0_1 := Aside0.mk hc0_1
 clear hr0_1 hc0_1
 have HR0_2 := Aside0.mk hr0_2
 have HC0_2 := Aside0.mk hc0_2
 clear hr0_2 hc0_2
 have HR0_8 := Aside0.mk hr0_8
 have HC0_8 := Aside0.mk hc0_8
 clear hr0_8 hc0_8
 have HB := Aside0.mk (Below.refl w.heap.size w)
 have H := h
 clear h
 unfold impl_IsSure.f at H
 replace H := bs_ H
 obtain ⟨t477, A5, H⟩ := H
 obtain rfl := Option.some.inj H
 go_enter Try.func12, Try.ntmps12
 go_wp2_with (first | ((with_reducible refine gd_ 4 ?_); refine bx_ 4 28 #[iv_ a0_0, .slice A0_1 l0_1.length c0_1, .slice A0_2 l0_2.length c0_2, iv_ a0_3, iv_ a0_4, iv_ a0_5, iv_ a0_6, iv_ a0_7, .slice A0_8 l0_8.length c0_8, iv_ a0_9] ?_; intro gb476 hg w6 hbox hb; refine sh3_ (below_step (bl_ HB) hb) hbox (ge_ hg (bl_ HB)) ?_; clear HB hb hbox hg; intro HB BK476 GE476; have hcz7 := cf10_ BK476) | ((with_reducible refine gate_callee (f := 10) rfl ?_); refine gl_ 13 Try.func10 (impl_SightAt.calls k a0_0 _ _ l0_1 _ _ l0_2 a0_3 a0_4 a0_5 a0_6 a0_7 _ _ l0_8 a0_9 a1 a2 a3 t477 _ (ck_ HR0_1 HB) HC0_1.out (ck_ HR0_2 HB) HC0_2.out (ck_ HR0_8 HB) HC0_8.out A5.out) ?_; rintro e w8 ⟨rfl, hb⟩; refine ⟨_, rfl, sh2_ (blk_below (bk_ BK476) hb) (below_step (bl1_ HB GE476) hb) ?_⟩; clear BK476 HB hb; intro BK476 HB))
 go_ret
 exact ⟨by first | (rw [hRT_.out]; rfl) | exact er_, bl1_ HB GE476⟩

/-! ### spec_DrawSureWindows: function 15 -/
def spec_DrawSureWindows.f (k : Nat) (l0 : List Int) : Option (Int × (List (S72)) × (List (S74)) × Int × Int × Int × Int × Int × (List (S88)) × Int × Int × Int × Int × Int) := (spec_l1New.f k l0).bind fun bt479 => ((spec_l7Sky.f k bt479.1 bt479.2.1 bt479.2.2).bind fun bt483 => ((spec_l1Below.f bt479.1 bt483.2.2.2.2.2.2.2.2.2.2.1 bt483.2.2.2.2.2.2.2.2.2.2.2 8).bind fun bt502 => ((spec_l1Below.f bt479.1 bt502.2.1 bt502.2.2 8).bind fun bt505 => ((spec_l1Below.f bt479.1 bt505.2.1 bt505.2.2 20).bind fun bt508 => ((spec_l1Below.f bt479.1 bt508.2.1 bt508.2.2 40).bind fun bt511 => (some (bt483.1, bt483.2.1, bt483.2.2.1, bt483.2.2.2.1, bt483.2.2.2.2.1, bt483.2.2.2.2.2.1, bt483.2.2.2.2.2.2.1, bt483.2.2.2.2.2.2.2.1, bt483.2.2.2.2.2.2.2.2.1, bt483.2.2.2.2.2.2.2.2.2.1, bt502.1, bt505.1, wrap64 (bt508.1 - 2), wrap64 ((wrap64 (bt508.1 - 2)) + bt511.1))))))))
theorem spec_DrawSureWindows.mono : ∀ a0 k, LeO (spec_DrawSureWindows.f k a0) (spec_DrawSureWindows.f (k + 1) a0) := by
 intro a0 k
 unfold spec_DrawSureWindows.f
 repeat' first | (with_reducible first | exact spec_l1New.mono _ _ | exact spec_l7Sky.mono _ _ _ _ | exact LeO.refl _ | exact LeO.none _ | refine LeO.ite ?_ ?_ | refine LeO.bind ?_ (fun _ => ?_)) | exact LeO.none _ | refine LeO.ite ?_ ?_ | refine LeO.bind ?_ (fun _ => ?_)
def spec_DrawSureWindows.T6 : Bool × List (List Nat × List Nat) := (true, [([], []), ([], []), ([], []), ([], []), ([], []), ([], []), ([5], [5]), ([4, 6], [4, 6]), ([0, 6, 0], [0]), ([1, 8, 0, 1, 8], [1]), ([2, 9, 0, 1, 2, 8, 9], [2]), ([3, 10, 0, 1, 2, 3, 8, 9, 10], [3]), ([7, 11, 0, 1, 2, 3, 4, 5, 6, 7, 8, 9, 10, 11], [7])])
def spec_DrawSureWindows.B6 : List Nat := [0, 0, 0, 0, 0, 0, 32, 112, 97, 355, 871, 1903, 4095]
theorem spec_DrawSureWindows.tab6 : rtab .any (opsOf Try.f15 6) = spec_DrawSureWindows.T6 := by kernel_rfl
theorem spec_DrawSureWindows.bits6 : waitsOk spec_DrawSureWindows.T6.2 spec_DrawSureWindows.B6 = true := by kernel_rfl
set_option maxHeartbeats 8000000 in
set_option maxRecDepth 100000 in
theorem spec_DrawSureWindows.calls (k : Nat) (A0 : Option Addr) (c0 : Nat) (l0 : List Int) (r1 : Int) (r2 : List (S72)) (r3 : List (S74)) (r4 : Int) (r5 : Int) (r6 : Int) (r7 : Int) (r8 : Int) (r9 : List (S88)) (r10 : Int) (r11 : Int) (r12 : Int) (r13 : Int) (r14 : Int) (w : World) (hr0 : Kd.C (Kd.int .u8) w A0 l0.length l0) (hc0 : l0.length ≤ c0) (h : spec_DrawSureWindows.f k l0 = some (r1, r2, r3, r4, r5, r6, r7, r8, r9, r10, r11, r12, r13, r14)) :
  Calls Try.prog 15 #[.slice A0 l0.length c0] w fun e w' => ∃ v1_ v2_ v8_ : Value, e = .returned (.tuple #[.agg #[iv_ r1, v1_, v2_, iv_ r4, iv_ r5, iv_ r6, iv_ r7, iv_ r8, v8_, iv_ r10], iv_ r11, iv_ r12, iv_ r13, iv_ r14]) ∧ Kd.R k72 72 w' w.heap.size (fun _ => True) v1_ r2 ∧ Kd.R k74 74 w' w.heap.size (fun _ => True) v2_ r3 ∧ Kd.R k88 88 w' w.heap.size (fun _ => True) v8_ r9 ∧ Below w.heap.size w w' := by
 have hu28 := Try.underlying28
 have HR0 := Aside0.mk hr0
 have HC0 := Aside0.mk hc0
 clear hr0 hc0
 have HB := Aside0.mk (Below.refl w.heap.size w)
 have H := h
 clear h
 unfold spec_DrawSureWindows.f at H
 replace H := bs_ H
 obtain ⟨⟨t479, t480, t481⟩, A2, H⟩ := H
 dsimp only at H
 replace H := bs_ H
 obtain ⟨⟨t483, t484, t487, t490, t491, t492, t493, t494, t495, t498, t499, t500⟩, A3, H⟩ := H
 dsimp only at H
 replace H := bs_ H
 obtain ⟨⟨t502, t503, t504⟩, A4, H⟩ := H
 dsimp only at H
 replace H := bs_ H
 obtain ⟨⟨t505, t506, t507⟩, A5, H⟩ := H
 dsimp only at H
 replace H := bs_ H
 obtain ⟨⟨t508, t509, t510⟩, A6, H⟩ := H
 dsimp only at H
 replace H := bs_ H
 obtain ⟨⟨t511, t512, t513⟩, A7, H⟩ := H
 dsimp only at H
 simp only [Option.some.injEq, Prod.mk.injEq] at H
 obtain ⟨rfl, rfl, rfl, rfl, rfl, rfl, rfl, rfl, rfl, rfl, rfl, rfl, rfl, rfl⟩ := H
 go_enter Try.func15, Try.ntmps15
 try go_wp2_with (first | ((with_reducible refine gd_ 2 ?_); refine bx_ 2 28 #[iv_ 0, .slice none 0 0, .slice none 0 0, iv_ 0, iv_ 0, iv_ 0, iv_ 0, iv_ 0, .slice none 0 0, iv_ 0] ?_; intro gb478 hg w8 hbox hb; refine sh3_ (below_step (bl_ HB) hb) hbox (ge_ hg (bl_ HB)) ?_; clear HB hb hbox hg; intro HB BK478 GE478) | ((with_reducible refine gate_callee (f := 49) rfl ?_); refine goesL_ (some 13) rfl rfl Try.func49 (by kernel_rfl) rfl #[.slice A0 l0.length c0] rfl mp_ ?_; (with_reducible refine (spec_l1New.calls k _ _ l0 t479 t480 t481 w _ ?side1 ?side2 ?side3 A2.out).mono ?_); (case side1 => repeat (first | (with_reducible first | exact HB.out | apply below_alloc | apply pw_below_drewN | apply below_drew1 | refine below_set ?_ GE478.out) | exact HB.out)); (case side2 => exact HR0.out); (case side3 => exact HC0.out); rintro e w9 ⟨g482, rfl, hi, hb, hb2⟩; refine ⟨_, rfl, sh5_ (blk_below (bk_ BK478) hb2) hb hi (IsS102.ne_blk hi (blk_below (bk_ BK478) hb2) (by decide)) (Ne.symm (IsS102.ne_blk hi (blk_below (bk_ BK478) hb2) (by decide))) ?_⟩; clear BK478 HB hb hb2 hi; intro BK478 HB HI482 NB482_478 NB478_482) | ((with_reducible refine gate_callee (f := 59) rfl ?_); refine goesL_ (some 15) rfl rfl Try.func59 (by kernel_rfl) rfl #[.pointer (some ⟨g482, 0, none⟩)] rfl mp_ ?_; (with_reducible refine (spec_l7Sky.calls k g482 t479 t480 t481 t483 t484 t487 t490 t491 t492 t493 t494 t495 t498 t499 t500 w _ ?side1 ?side2 A3.out).mono ?_); (case side1 => repeat (first | (with_reducible first | exact HI482.out | apply IsS102.alloc | apply IsS102.drewN | apply IsS102.drew | apply IsS102.set_1 | apply IsS102.set_2 | refine IsS102.far ?_ NB482_478.out _) | exact HI482.out)); (case side2 => repeat (first | (with_reducible first | exact HB.out | apply below_alloc | apply pw_below_drewN | apply below_drew1 | refine below_set ?_ (IsS102.ge HI482.out) | refine below_set ?_ GE478.out) | exact HB.out)); rintro e w10 ⟨v485, v488, v496, rfl, ho0, ho1, ho2, hi, hb, hk⟩; refine ⟨_, rfl, sh6_ (KeepBut.blk hk (g' := gb478) (o := .cells #[iv_ 0, .slice none 0 0, .slice none 0 0, iv_ 0, iv_ 0, iv_ 0, iv_ 0, iv_ 0, .slice none 0 0, iv_ 0] 28 (0, 0)) (bk_ BK478) NB478_482.out (by simp)) (Kd.R_lower ho0 (below_size (by repeat (first | (with_reducible first | exact HB.out | apply below_alloc | apply pw_below_drewN | apply below_drew1 | refine below_set ?_ (IsS102.ge HI482.out) | refine below_set ?_ GE478.out) | exact HB.out)))) (Kd.R_lower ho1 (below_size (by repeat (first | (with_reducible first | exact HB.out | apply below_alloc | apply pw_below_drewN | apply below_drew1 | refine below_set ?_ (IsS102.ge HI482.out) | refine below_set ?_ GE478.out) | exact HB.out)))) (Kd.R_lower ho2 (below_size (by repeat (first | (with_reducible first | exact HB.out | apply below_alloc | apply pw_below_drewN | apply below_drew1 | refine below_set ?_ (IsS102.ge HI482.out) | refine below_set ?_ GE478.out) | exact HB.out)))) hb hi ?_⟩; clear BK478 HB HI482 hb hk hi ho0 ho1 ho2; intro BK478 HO486 HO489 HO497 HB HI482) | ((with_reducible refine gd_ 8 ?_); refine bx_ 8 28 #[iv_ 0, .slice none 0 0, .slice none 0 0, iv_ 0, iv_ 0, iv_ 0, iv_ 0, iv_ 0, .slice none 0 0, iv_ 0] ?_; intro gb501 hg w11 hbox hb; refine sh13_ (Kd.R_below (ra_ HO486) hb) (Kd.R_below (ra_ HO489) hb) (Kd.R_below (ra_ HO497) hb) (blk_below (bk_ BK478) hb) (IsS102.below (by repeat (first | (with_reducible first | exact HI482.out | apply IsS102.alloc | apply IsS102.drewN | apply IsS102.drew | apply IsS102.set_1 | apply IsS102.set_2 | refine IsS102.far ?_ NB482_478.out _) | exact HI482.out)) hb) (below_step (by repeat (first | (with_reducible first | exact HB.out | apply below_alloc | apply pw_below_drewN | apply below_drew1 | refine below_set ?_ (IsS102.ge HI482.out) | refine below_set ?_ GE478.out) | exact HB.out)) hb) hbox (ge_ hg (by repeat (first | (with_reducible first | exact HB.out | apply below_alloc | apply pw_below_drewN | apply below_drew1 | refine below_set ?_ (IsS102.ge HI482.out) | refine below_set ?_ GE478.out) | exact HB.out))) (ge_ hg (by repeat (first | (with_reducible first | exact HB.out | apply below_alloc | apply pw_below_drewN | apply below_drew1 | refine below_set ?_ (IsS102.ge HI482.out) | refine below_set ?_ GE478.out) | exact HB.out))) (nl_ hg (bk_ BK478)) (ng_ hg (bk_ BK478)) ((by rw [hg]; exact Nat.ne_of_lt (IsS102.lt (show IsS102 w _ g482 t479 t499 t500 from by repeat (first | (with_reducible first | exact HI482.out | apply IsS102.alloc | apply IsS102.drewN | apply IsS102.drew | apply IsS102.set_1 | apply IsS102.set_2 | refine IsS102.far ?_ NB482_478.out _) | exact HI482.out))) : g482 ≠ gb501)) ((by rw [hg]; exact Nat.ne_of_gt (IsS102.lt (show IsS102 w _ g482 t479 t499 t500 from by repeat (first | (with_reducible first | exact HI482.out | apply IsS102.alloc | apply IsS102.drewN | apply IsS102.drew | apply IsS102.set_1 | apply IsS102.set_2 | refine IsS102.far ?_ NB482_478.out _) | exact HI482.out))) : gb501 ≠ g482)) ?_; clear HO486 HO489 HO497 BK478 HI482 HB hb hbox hg; intro HO486 HO489 HO497 BK478 HI482 HB BK501 GW501 GE501 NB478_501 NB501_478 NB482_501 NB501_482; have hnb12 := NB501_478.out; have hnc12 := NB478_501.out; have hnb13 := NB501_482.out; have hnc13 := NB482_501.out; have hcz14 := cf10_ BK501; obtain ⟨Ao15, co15, eo15⟩ := Kd.R_slice HO486.out; subst eo15; obtain ⟨Ao16, co16, eo16⟩ := Kd.R_slice HO489.out; subst eo16; obtain ⟨Ao17, co17, eo17⟩ := Kd.R_slice HO497.out; subst eo17) | ((with_reducible refine gate_callee (f := 60) rfl ?_); refine goesL_ (some 17) rfl rfl Try.func60 (by kernel_rfl) rfl #[.pointer (some ⟨g482, 0, none⟩), iv_ 8] rfl mp_ ?_; (with_reducible refine (spec_l1Below.calls g482 t479 t499 t500 8 t502 t503 t504 w _ ?side1 ?side2 A4.out).mono ?_); (case side1 => repeat (first | (with_reducible first | exact HI482.out | apply IsS102.alloc | apply IsS102.drewN | apply IsS102.drew | apply IsS102.set_1 | apply IsS102.set_2 | refine IsS102.far ?_ NB482_478.out _ | refine IsS102.far ?_ NB482_501.out _) | exact HI482.out)); (case side2 => repeat (first | (with_reducible first | exact HB.out | apply below_alloc | apply pw_below_drewN | apply below_drew1 | refine below_set ?_ (IsS102.ge HI482.out) | refine below_set ?_ GE478.out | refine below_set ?_ GE501.out) | exact HB.out)); rintro e w18 ⟨rfl, hi, hb, hk⟩; refine ⟨_, rfl, sh7_ (KeepBut.blk hk (g' := gb478) (o := .cells #[iv_ 0, .slice none 0 0, .slice none 0 0, iv_ 0, iv_ 0, iv_ 0, iv_ 0, iv_ 0, .slice none 0 0, iv_ 0] 28 (0, 0)) (bp_ BK478) NB478_482.out (by simp)) (Kd.R_mono (Kd.R_keep (IsS102.apart (show IsS102 w _ g482 t479 t499 t500 from by repeat (first | (with_reducible first | exact HI482.out | apply IsS102.alloc | apply IsS102.drewN | apply IsS102.drew | apply IsS102.set_1 | apply IsS102.set_2 | refine IsS102.far ?_ NB482_478.out _ | refine IsS102.far ?_ NB482_501.out _) | exact HI482.out)) (by (with_reducible repeat (first | apply Kd.R_alloc | apply Kd.R_drewN | apply Kd.R_drew)); exact (Kd.R_mono (Kd.R_far (p := ⟨gb501, 9, none⟩) (Kd.R_far (p := ⟨gb501, 8, none⟩) (Kd.R_far (p := ⟨gb501, 7, none⟩) (Kd.R_far (p := ⟨gb501, 6, none⟩) (Kd.R_far (p := ⟨gb501, 5, none⟩) (Kd.R_far (p := ⟨gb501, 4, none⟩) (Kd.R_far (p := ⟨gb501, 3, none⟩) (Kd.R_far (p := ⟨gb501, 2, none⟩) (Kd.R_far (p := ⟨gb501, 1, none⟩) (Kd.R_far (p := ⟨gb501, 0, none⟩) (Kd.R_types HO486.out BK501.out (by decide)) (fun _ hk => hk.2) (iv_ t483)) (fun _ hk => hk.2) (.slice Ao15 t484.length co15)) (fun _ hk => hk.2) (.slice Ao16 t487.length co16)) (fun _ hk => hk.2) (iv_ t490)) (fun _ hk => hk.2) (iv_ t491)) (fun _ hk => hk.2) (iv_ t492)) (fun _ hk => hk.2) (iv_ t493)) (fun _ hk => hk.2) (iv_ t494)) (fun _ hk => hk.2) (.slice Ao17 t495.length co17)) (fun _ hk => hk.2) (iv_ t498)) (fun _ h_ => h_.1))) (by decide)) hk (fun _ h => h.2)) (fun _ h => h.1)) (Kd.R_mono (Kd.R_keep (IsS102.apart (show IsS102 w _ g482 t479 t499 t500 from by repeat (first | (with_reducible first | exact HI482.out | apply IsS102.alloc | apply IsS102.drewN | apply IsS102.drew | apply IsS102.set_1 | apply IsS102.set_2 | refine IsS102.far ?_ NB482_478.out _ | refine IsS102.far ?_ NB482_501.out _) | exact HI482.out)) (by (with_reducible repeat (first | apply Kd.R_alloc | apply Kd.R_drewN | apply Kd.R_drew)); exact (Kd.R_mono (Kd.R_far (p := ⟨gb501, 9, none⟩) (Kd.R_far (p := ⟨gb501, 8, none⟩) (Kd.R_far (p := ⟨gb501, 7, none⟩) (Kd.R_far (p := ⟨gb501, 6, none⟩) (Kd.R_far (p := ⟨gb501, 5, none⟩) (Kd.R_far (p := ⟨gb501, 4, none⟩) (Kd.R_far (p := ⟨gb501, 3, none⟩) (Kd.R_far (p := ⟨gb501, 2, none⟩) (Kd.R_far (p := ⟨gb501, 1, none⟩) (Kd.R_far (p := ⟨gb501, 0, none⟩) (Kd.R_types HO489.out BK501.out (by decide)) (fun _ hk => hk.2) (iv_ t483)) (fun _ hk => hk.2) (.slice Ao15 t484.length co15)) (fun _ hk => hk.2) (.slice Ao16 t487.length co16)) (fun _ hk => hk.2) (iv_ t490)) (fun _ hk => hk.2) (iv_ t491)) (fun _ hk => hk.2) (iv_ t492)) (fun _ hk => hk.2) (iv_ t493)) (fun _ hk => hk.2) (iv_ t494)) (fun _ hk => hk.2) (.slice Ao17 t495.length co17)) (fun _ hk => hk.2) (iv_ t498)) (fun _ h_ => h_.1))) (by decide)) hk (fun _ h => h.2)) (fun _ h => h.1)) (Kd.R_mono (Kd.R_keep (IsS102.apart (show IsS102 w _ g482 t479 t499 t500 from by repeat (first | (with_reducible first | exact HI482.out | apply IsS102.alloc | apply IsS102.drewN | apply IsS102.drew | apply IsS102.set_1 | apply IsS102.set_2 | refine IsS102.far ?_ NB482_478.out _ | refine IsS102.far ?_ NB482_501.out _) | exact HI482.out)) (by (with_reducible repeat (first | apply Kd.R_alloc | apply Kd.R_drewN | apply Kd.R_drew)); exact (Kd.R_mono (Kd.R_far (p := ⟨gb501, 9, none⟩) (Kd.R_far (p := ⟨gb501, 8, none⟩) (Kd.R_far (p := ⟨gb501, 7, none⟩) (Kd.R_far (p := ⟨gb501, 6, none⟩) (Kd.R_far (p := ⟨gb501, 5, none⟩) (Kd.R_far (p := ⟨gb501, 4, none⟩) (Kd.R_far (p := ⟨gb501, 3, none⟩) (Kd.R_far (p := ⟨gb501, 2, none⟩) (Kd.R_far (p := ⟨gb501, 1, none⟩) (Kd.R_far (p := ⟨gb501, 0, none⟩) (Kd.R_types HO497.out BK501.out (by decide)) (fun _ hk => hk.2) (iv_ t483)) (fun _ hk => hk.2) (.slice Ao15 t484.length co15)) (fun _ hk => hk.2) (.slice Ao16 t487.length co16)) (fun _ hk => hk.2) (iv_ t490)) (fun _ hk => hk.2) (iv_ t491)) (fun _ hk => hk.2) (iv_ t492)) (fun _ hk => hk.2) (iv_ t493)) (fun _ hk => hk.2) (iv_ t494)) (fun _ hk => hk.2) (.slice Ao17 t495.length co17)) (fun _ hk => hk.2) (iv_ t498)) (fun _ h_ => h_.1))) (by decide)) hk (fun _ h => h.2)) (fun _ h => h.1)) (KeepBut.blk hk (g' := gb501) (o := .cells #[iv_ t483, .slice Ao15 t484.length co15, .slice Ao16 t487.length co16, iv_ t490, iv_ t491, iv_ t492, iv_ t493, iv_ t494, .slice Ao17 t495.length co17, iv_ t498] 28 (0, 0)) (bp_ BK501) NB501_482.out (by simp)) hb hi ?_⟩; clear BK478 HO486 HO489 HO497 BK501 HB HI482 hb hk hi; intro BK478 HO486 HO489 HO497 BK501 HB HI482) | ((with_reducible refine gate_callee (f := 60) rfl ?_); refine goesL_ (some 19) rfl rfl Try.func60 (by kernel_rfl) rfl #[.pointer (some ⟨g482, 0, none⟩), iv_ 8] rfl mp_ ?_; (with_reducible refine (spec_l1Below.calls g482 t479 t503 t504 8 t505 t506 t507 w _ ?side1 ?side2 A5.out).mono ?_); (case side1 => repeat (first | (with_reducible first | exact HI482.out | apply IsS102.alloc | apply IsS102.drewN | apply IsS102.drew | apply IsS102.set_1 | apply IsS102.set_2 | refine IsS102.far ?_ NB482_478.out _ | refine IsS102.far ?_ NB482_501.out _) | exact HI482.out)); (case side2 => repeat (first | (with_reducible first | exact HB.out | apply below_alloc | apply pw_below_drewN | apply below_drew1 | refine below_set ?_ (IsS102.ge HI482.out) | refine below_set ?_ GE478.out | refine below_set ?_ GE501.out) | exact HB.out)); rintro e w19 ⟨rfl, hi, hb, hk⟩; refine ⟨_, rfl, sh7_ (KeepBut.blk hk (g' := gb478) (o := .cells #[iv_ 0, .slice none 0 0, .slice none 0 0, iv_ 0, iv_ 0, iv_ 0, iv_ 0, iv_ 0, .slice none 0 0, iv_ 0] 28 (0, 0)) (bk_ BK478) NB478_482.out (by simp)) (Kd.R_mono (Kd.R_keep (IsS102.apart (show IsS102 w _ g482 t479 t503 t504 from by repeat (first | (with_reducible first | exact HI482.out | apply IsS102.alloc | apply IsS102.drewN | apply IsS102.drew | apply IsS102.set_1 | apply IsS102.set_2 | refine IsS102.far ?_ NB482_478.out _ | refine IsS102.far ?_ NB482_501.out _) | exact HI482.out)) (ra_ HO486) (by decide)) hk (fun _ h => h.2)) (fun _ h => h.1)) (Kd.R_mono (Kd.R_keep (IsS102.apart (show IsS102 w _ g482 t479 t503 t504 from by repeat (first | (with_reducible first | exact HI482.out | apply IsS102.alloc | apply IsS102.drewN | apply IsS102.drew | apply IsS102.set_1 | apply IsS102.set_2 | refine IsS102.far ?_ NB482_478.out _ | refine IsS102.far ?_ NB482_501.out _) | exact HI482.out)) (ra_ HO489) (by decide)) hk (fun _ h => h.2)) (fun _ h => h.1)) (Kd.R_mono (Kd.R_keep (IsS102.apart (show IsS102 w _ g482 t479 t503 t504 from by repeat (first | (with_reducible first | exact HI482.out | apply IsS102.alloc | apply IsS102.drewN | apply IsS102.drew | apply IsS102.set_1 | apply IsS102.set_2 | refine IsS102.far ?_ NB482_478.out _ | refine IsS102.far ?_ NB482_501.out _) | exact HI482.out)) (ra_ HO497) (by decide)) hk (fun _ h => h.2)) (fun _ h => h.1)) (KeepBut.blk hk (g' := gb501) (o := .cells #[iv_ t483, .slice Ao15 t484.length co15, .slice Ao16 t487.length co16, iv_ t490, iv_ t491, iv_ t492, iv_ t493, iv_ t494, .slice Ao17 t495.length co17, iv_ t498] 28 (0, 0)) (bk_ BK501) NB501_482.out (by simp)) hb hi ?_⟩; clear BK478 HO486 HO489 HO497 BK501 HB HI482 hb hk hi; intro BK478 HO486 HO489 HO497 BK501 HB HI482) | ((with_reducible refine gate_callee (f := 60) rfl ?_); refine goesL_ (some 21) rfl rfl Try.func60 (by kernel_rfl) rfl #[.pointer (some ⟨g482, 0, none⟩), iv_ 20] rfl mp_ ?_; (with_reducible refine (spec_l1Below.calls g482 t479 t506 t507 20 t508 t509 t510 w _ ?side1 ?side2 A6.out).mono ?_); (case side1 => repeat (first | (with_reducible first | exact HI482.out | apply IsS102.alloc | apply IsS102.drewN | apply IsS102.drew | apply IsS102.set_1 | apply IsS102.set_2 | refine IsS102.far ?_ NB482_478.out _ | refine IsS102.far ?_ NB482_501.out _) | exact HI482.out)); (case side2 => repeat (first | (with_reducible first | exact HB.out | apply below_alloc | apply pw_below_drewN | apply below_drew1 | refine below_set ?_ (IsS102.ge HI482.out) | refine below_set ?_ GE478.out | refine below_set ?_ GE501.out) | exact HB.out)); rintro e w20 ⟨rfl, hi, hb, hk⟩; refine ⟨_, rfl, sh7_ (KeepBut.blk hk (g' := gb478) (o := .cells #[iv_ 0, .slice none 0 0, .slice none 0 0, iv_ 0, iv_ 0, iv_ 0, iv_ 0, iv_ 0, .slice none 0 0, iv_ 0] 28 (0, 0)) (bk_ BK478) NB478_482.out (by simp)) (Kd.R_mono (Kd.R_keep (IsS102.apart (show IsS102 w _ g482 t479 t506 t507 from by repeat (first | (with_reducible first | exact HI482.out | apply IsS102.alloc | apply IsS102.drewN | apply IsS102.drew | apply IsS102.set_1 | apply IsS102.set_2 | refine IsS102.far ?_ NB482_478.out _ | refine IsS102.far ?_ NB482_501.out _) | exact HI482.out)) (ra_ HO486) (by decide)) hk (fun _ h => h.2)) (fun _ h => h.1)) (Kd.R_mono (Kd.R_keep (IsS102.apart (show IsS102 w _ g482 t479 t506 t507 from by repeat (first | (with_reducible first | exact HI482.out | apply IsS102.alloc | apply IsS102.drewN | apply IsS102.drew | apply IsS102.set_1 | apply IsS102.set_2 | refine IsS102.far ?_ NB482_478.out _ | refine IsS102.far ?_ NB482_501.out _) | exact HI482.out)) (ra_ HO489) (by decide)) hk (fun _ h => h.2)) (fun _ h => h.1)) (Kd.R_mono (Kd.R_keep (IsS102.apart (show IsS102 w _ g482 t479 t506 t507 from by repeat (first | (with_reducible first | exact HI482.out | apply IsS102.alloc | apply IsS102.drewN | apply IsS102.drew | apply IsS102.set_1 | apply IsS102.set_2 | refine IsS102.far ?_ NB482_478.out _ | refine IsS102.far ?_ NB482_501.out _) | exact HI482.out)) (ra_ HO497) (by decide)) hk (fun _ h => h.2)) (fun _ h => h.1)) (KeepBut.blk hk (g' := gb501) (o := .cells #[iv_ t483, .slice Ao15 t484.length co15, .slice Ao16 t487.length co16, iv_ t490, iv_ t491, iv_ t492, iv_ t493, iv_ t494, .slice Ao17 t495.length co17, iv_ t498] 28 (0, 0)) (bk_ BK501) NB501_482.out (by simp)) hb hi ?_⟩; clear BK478 HO486 HO489 HO497 BK501 HB HI482 hb hk hi; intro BK478 HO486 HO489 HO497 BK501 HB HI482))
 refine sh7_ (Kd.R_drew HO486.out) (Kd.R_drew HO489.out) (Kd.R_drew HO497.out) (blk_drew BK478.out) (blk_drew BK501.out) (IsS102.drew HI482.out) (below_drew1 HB.out) ?_
 clear HO486 HO489 HO497 BK478 BK501 HI482 HB
 intro HO486 HO489 HO497 BK478 BK501 HI482 HB
 refine start_ (n := 13) (S := fun w' => Cz10 w' gb501 (iv_ t483) (.slice Ao15 t484.length co15) (.slice Ao16 t487.length co16) (iv_ t490) (iv_ t491) (iv_ t492) (iv_ t493) (iv_ t494) (.slice Ao17 t495.length co17) (iv_ t498)) (ds := []) (bo_ 13 0) (by kernel_rfl) rfl rfl (cz10_ BK501) (fun hHeld => ?_); refine with_tabW spec_DrawSureWindows.tab6 spec_DrawSureWindows.bits6 (fun HT_ HW_ => ?_)
 generalize w20.drew = w21 at HO486 HO489 HO497 BK478 BK501 HI482 HB hHeld ⊢
 refine pur_ 1 (bo_ 13 2) (some 24) HT_ ?_
 refine pur_ 2 (bo_ 13 6) (some 25) HT_ ?_
 refine pur_ 3 (bo_ 13 14) (some 26) HT_ ?_
 refine pur_ 4 (bo_ 13 30) (some 27) HT_ ?_
 refine pur_ 5 (bo_ 13 62) (some 28) HT_ ?_
 refine tak_ 0 (bo_ 13 63) (some 23) HT_ HW_ hHeld ?_
 refine one_ (i := 6) (N := some 29) (bo_ 13 127) rfl rfl (one_of HT_.out (by kernel_rfl)) (by decide) (fun K hK => ?_)
 refine goes_ Try.func60 (by kernel_rfl) rfl #[.pointer (some ⟨g482, 0, none⟩), iv_ 40] (by rfl) rfl rfl mp_ ?_
 with_reducible refine (spec_l1Below.calls g482 t479 t509 t510 40 t511 t512 t513 w _ ?side1 ?side2 A7.out).mono ?_
 (case side1 => repeat (first | (with_reducible first | exact HI482.out | apply IsS102.alloc | apply IsS102.drewN | apply IsS102.drew | apply IsS102.set_1 | apply IsS102.set_2 | refine IsS102.far ?_ NB482_478.out _ | refine IsS102.far ?_ NB482_501.out _) | exact HI482.out))
 (case side2 => repeat (first | (with_reducible first | exact HB.out | apply below_alloc | apply pw_below_drewN | apply below_drew1 | refine below_set ?_ (IsS102.ge HI482.out) | refine below_set ?_ GE478.out | refine below_set ?_ GE501.out) | exact HB.out))
 rintro e w22 ⟨rfl, hi, hb, hk⟩
 refine ⟨_, rfl, sh7_ (KeepBut.blk hk (g' := gb478) (o := .cells #[iv_ 0, .slice none 0 0, .slice none 0 0, iv_ 0, iv_ 0, iv_ 0, iv_ 0, iv_ 0, .slice none 0 0, iv_ 0] 28 (0, 0)) (bk_ BK478) NB478_482.out (by simp)) (Kd.R_mono (Kd.R_keep (IsS102.apart (show IsS102 w _ g482 t479 t509 t510 from by repeat (first | (with_reducible first | exact HI482.out | apply IsS102.alloc | apply IsS102.drewN | apply IsS102.drew | apply IsS102.set_1 | apply IsS102.set_2 | refine IsS102.far ?_ NB482_478.out _ | refine IsS102.far ?_ NB482_501.out _) | exact HI482.out)) (ra_ HO486) (by decide)) hk (fun _ h => h.2)) (fun _ h => h.1)) (Kd.R_mono (Kd.R_keep (IsS102.apart (show IsS102 w _ g482 t479 t509 t510 from by repeat (first | (with_reducible first | exact HI482.out | apply IsS102.alloc | apply IsS102.drewN | apply IsS102.drew | apply IsS102.set_1 | apply IsS102.set_2 | refine IsS102.far ?_ NB482_478.out _ | refine IsS102.far ?_ NB482_501.out _) | exact HI482.out)) (ra_ HO489) (by decide)) hk (fun _ h => h.2)) (fun _ h => h.1)) (Kd.R_mono (Kd.R_keep (IsS102.apart (show IsS102 w _ g482 t479 t509 t510 from by repeat (first | (with_reducible first | exact HI482.out | apply IsS102.alloc | apply IsS102.drewN | apply IsS102.drew | apply IsS102.set_1 | apply IsS102.set_2 | refine IsS102.far ?_ NB482_478.out _ | refine IsS102.far ?_ NB482_501.out _) | exact HI482.out)) (ra_ HO497) (by decide)) hk (fun _ h => h.2)) (fun _ h => h.1)) (KeepBut.blk hk (g' := gb501) (o := .cells #[iv_ t483, .slice Ao15 t484.length co15, .slice Ao16 t487.length co16, iv_ t490, iv_ t491, iv_ t492, iv_ t493, iv_ t494, .slice Ao17 t495.length co17, iv_ t498] 28 (0, 0)) (bk_ BK501) NB501_482.out (by simp)) hb hi ?_⟩
 clear BK478 HO486 HO489 HO497 BK501 HB HI482 hb hk hi
 intro BK478 HO486 HO489 HO497 BK501 HB HI482
 refine hK.out _ _ (cz10_ BK501) (fun hHeld => ?_)
 clear hK K
 refine norm_ (show Act.put _ (some 29) _ = _ from pt_) ?_
 refine pur_ 7 (bo_ 13 255) (some 30) HT_ ?_
 refine one_ (i := 8) (N := none) (bo_ 13 511) rfl rfl (one_of HT_.out (by kernel_rfl)) (by decide) (fun K hK => ?_)
 have hs23 : w22.cell? ⟨gb478, 0, none⟩ = some (iv_ 0) := bc_ BK478 0 rfl
 have hfs23 := bf_ BK478 0
 have hns23_1 := NB501_478.out
 have hms23_1 := NB478_501.out
 have hs24 : w22.cell? ⟨gb478, 1, none⟩ = some (.slice none 0 0) := bc_ BK478 1 rfl
 have hfs24 := bf_ BK478 1
 have hns24_1 := NB501_478.out
 have hms24_1 := NB478_501.out
 have hs25 : w22.cell? ⟨gb478, 2, none⟩ = some (.slice none 0 0) := bc_ BK478 2 rfl
 have hfs25 := bf_ BK478 2
 have hns25_1 := NB501_478.out
 have hms25_1 := NB478_501.out
 have hs26 : w22.cell? ⟨gb478, 3, none⟩ = some (iv_ 0) := bc_ BK478 3 rfl
 have hfs26 := bf_ BK478 3
 have hns26_1 := NB501_478.out
 have hms26_1 := NB478_501.out
 have hs27 : w22.cell? ⟨gb478, 4, none⟩ = some (iv_ 0) := bc_ BK478 4 rfl
 have hfs27 := bf_ BK478 4
 have hns27_1 := NB501_478.out
 have hms27_1 := NB478_501.out
 have hs28 : w22.cell? ⟨gb478, 5, none⟩ = some (iv_ 0) := bc_ BK478 5 rfl
 have hfs28 := bf_ BK478 5
 have hns28_1 := NB501_478.out
 have hms28_1 := NB478_501.out
 have hs29 : w22.cell? ⟨gb478, 6, none⟩ = some (iv_ 0) := bc_ BK478 6 rfl
 have hfs29 := bf_ BK478 6
 have hns29_1 := NB501_478.out
 have hms29_1 := NB478_501.out
 have hs30 : w22.cell? ⟨gb478, 7, none⟩ = some (iv_ 0) := bc_ BK478 7 rfl
 have hfs30 := bf_ BK478 7
 have hns30_1 := NB501_478.out
 have hms30_1 := NB478_501.out
 have hs31 : w22.cell? ⟨gb478, 8, none⟩ = some (.slice none 0 0) := bc_ BK478 8 rfl
 have hfs31 := bf_ BK478 8
 have hns31_1 := NB501_478.out
 have hms31_1 := NB478_501.out
 have hs32 : w22.cell? ⟨gb478, 9, none⟩ = some (iv_ 0) := bc_ BK478 9 rfl
 have hfs32 := bf_ BK478 9
 have hns32_1 := NB501_478.out
 have hms32_1 := NB478_501.out
 refine skip_ (w1 := ?_) (by rfl) rfl ?_ ?_
 rotate_left
 ·go_simp
  rfl
 refine hK.out _ _ ⟨((cell_far (p := ⟨gb478, _, none⟩) NB501_478.out _).trans (((cell_far (p := ⟨gb478, _, none⟩) NB501_478.out _).trans (((cell_far (p := ⟨gb478, _, none⟩) NB501_478.out _).trans (((cell_far (p := ⟨gb478, _, none⟩) NB501_478.out _).trans (((cell_far (p := ⟨gb478, _, none⟩) NB501_478.out _).trans (((cell_far (p := ⟨gb478, _, none⟩) NB501_478.out _).trans (((cell_far (p := ⟨gb478, _, none⟩) NB501_478.out _).trans (((cell_far (p := ⟨gb478, _, none⟩) NB501_478.out _).trans (((cell_far (p := ⟨gb478, _, none⟩) NB501_478.out _).trans (((cell_far (p := ⟨gb478, _, none⟩) NB501_478.out _).trans (hHeld.1)))))))))))))))))))), ((cell_far (p := ⟨gb478, _, none⟩) NB501_478.out _).trans (((cell_far (p := ⟨gb478, _, none⟩) NB501_478.out _).trans (((cell_far (p := ⟨gb478, _, none⟩) NB501_478.out _).trans (((cell_far (p := ⟨gb478, _, none⟩) NB501_478.out _).trans (((cell_far (p := ⟨gb478, _, none⟩) NB501_478.out _).trans (((cell_far (p := ⟨gb478, _, none⟩) NB501_478.out _).trans (((cell_far (p := ⟨gb478, _, none⟩) NB501_478.out _).trans (((cell_far (p := ⟨gb478, _, none⟩) NB501_478.out _).trans (((cell_far (p := ⟨gb478, _, none⟩) NB501_478.out _).trans (((cell_far (p := ⟨gb478, _, none⟩) NB501_478.out _).trans (hHeld.2.1)))))))))))))))))))), ((cell_far (p := ⟨gb478, _, none⟩) NB501_478.out _).trans (((cell_far (p := ⟨gb478, _, none⟩) NB501_478.out _).trans (((cell_far (p := ⟨gb478, _, none⟩) NB501_478.out _).trans (((cell_far (p := ⟨gb478, _, none⟩) NB501_478.out _).trans (((cell_far (p := ⟨gb478, _, none⟩) NB501_478.out _).trans (((cell_far (p := ⟨gb478, _, none⟩) NB501_478.out _).trans (((cell_far (p := ⟨gb478, _, none⟩) NB501_478.out _).trans (((cell_far (p := ⟨gb478, _, none⟩) NB501_478.out _).trans (((cell_far (p := ⟨gb478, _, none⟩) NB501_478.out _).trans (((cell_far (p := ⟨gb478, _, none⟩) NB501_478.out _).trans (hHeld.2.2.1)))))))))))))))))))), ((cell_far (p := ⟨gb478, _, none⟩) NB501_478.out _).trans (((cell_far (p := ⟨gb478, _, none⟩) NB501_478.out _).trans (((cell_far (p := ⟨gb478, _, none⟩) NB501_478.out _).trans (((cell_far (p := ⟨gb478, _, none⟩) NB501_478.out _).trans (((cell_far (p := ⟨gb478, _, none⟩) NB501_478.out _).trans (((cell_far (p := ⟨gb478, _, none⟩) NB501_478.out _).trans (((cell_far (p := ⟨gb478, _, none⟩) NB501_478.out _).trans (((cell_far (p := ⟨gb478, _, none⟩) NB501_478.out _).trans (((cell_far (p := ⟨gb478, _, none⟩) NB501_478.out _).trans (((cell_far (p := ⟨gb478, _, none⟩) NB501_478.out _).trans (hHeld.2.2.2.1)))))))))))))))))))), ((cell_far (p := ⟨gb478, _, none⟩) NB501_478.out _).trans (((cell_far (p := ⟨gb478, _, none⟩) NB501_478.out _).trans (((cell_far (p := ⟨gb478, _, none⟩) NB501_478.out _).trans (((cell_far (p := ⟨gb478, _, none⟩) NB501_478.out _).trans (((cell_far (p := ⟨gb478, _, none⟩) NB501_478.out _).trans (((cell_far (p := ⟨gb478, _, none⟩) NB501_478.out _).trans (((cell_far (p := ⟨gb478, _, none⟩) NB501_478.out _).trans (((cell_far (p := ⟨gb478, _, none⟩) NB501_478.out _).trans (((cell_far (p := ⟨gb478, _, none⟩) NB501_478.out _).trans (((cell_far (p := ⟨gb478, _, none⟩) NB501_478.out _).trans (hHeld.2.2.2.2.1)))))))))))))))))))), ((cell_far (p := ⟨gb478, _, none⟩) NB501_478.out _).trans (((cell_far (p := ⟨gb478, _, none⟩) NB501_478.out _).trans (((cell_far (p := ⟨gb478, _, none⟩) NB501_478.out _).trans (((cell_far (p := ⟨gb478, _, none⟩) NB501_478.out _).trans (((cell_far (p := ⟨gb478, _, none⟩) NB501_478.out _).trans (((cell_far (p := ⟨gb478, _, none⟩) NB501_478.out _).trans (((cell_far (p := ⟨gb478, _, none⟩) NB501_478.out _).trans (((cell_far (p := ⟨gb478, _, none⟩) NB501_478.out _).trans (((cell_far (p := ⟨gb478, _, none⟩) NB501_478.out _).trans (((cell_far (p := ⟨gb478, _, none⟩) NB501_478.out _).trans (hHeld.2.2.2.2.2.1)))))))))))))))))))), ((cell_far (p := ⟨gb478, _, none⟩) NB501_478.out _).trans (((cell_far (p := ⟨gb478, _, none⟩) NB501_478.out _).trans (((cell_far (p := ⟨gb478, _, none⟩) NB501_478.out _).trans (((cell_far (p := ⟨gb478, _, none⟩) NB501_478.out _).trans (((cell_far (p := ⟨gb478, _, none⟩) NB501_478.out _).trans (((cell_far (p := ⟨gb478, _, none⟩) NB501_478.out _).trans (((cell_far (p := ⟨gb478, _, none⟩) NB501_478.out _).trans (((cell_far (p := ⟨gb478, _, none⟩) NB501_478.out _).trans (((cell_far (p := ⟨gb478, _, none⟩) NB501_478.out _).trans (((cell_far (p := ⟨gb478, _, none⟩) NB501_478.out _).trans (hHeld.2.2.2.2.2.2.1)))))))))))))))))))), ((cell_far (p := ⟨gb478, _, none⟩) NB501_478.out _).trans (((cell_far (p := ⟨gb478, _, none⟩) NB501_478.out _).trans (((cell_far (p := ⟨gb478, _, none⟩) NB501_478.out _).trans (((cell_far (p := ⟨gb478, _, none⟩) NB501_478.out _).trans (((cell_far (p := ⟨gb478, _, none⟩) NB501_478.out _).trans (((cell_far (p := ⟨gb478, _, none⟩) NB501_478.out _).trans (((cell_far (p := ⟨gb478, _, none⟩) NB501_478.out _).trans (((cell_far (p := ⟨gb478, _, none⟩) NB501_478.out _).trans (((cell_far (p := ⟨gb478, _, none⟩) NB501_478.out _).trans (((cell_far (p := ⟨gb478, _, none⟩) NB501_478.out _).trans (hHeld.2.2.2.2.2.2.2.1)))))))))))))))))))), ((cell_far (p := ⟨gb478, _, none⟩) NB501_478.out _).trans (((cell_far (p := ⟨gb478, _, none⟩) NB501_478.out _).trans (((cell_far (p := ⟨gb478, _, none⟩) NB501_478.out _).trans (((cell_far (p := ⟨gb478, _, none⟩) NB501_478.out _).trans (((cell_far (p := ⟨gb478, _, none⟩) NB501_478.out _).trans (((cell_far (p := ⟨gb478, _, none⟩) NB501_478.out _).trans (((cell_far (p := ⟨gb478, _, none⟩) NB501_478.out _).trans (((cell_far (p := ⟨gb478, _, none⟩) NB501_478.out _).trans (((cell_far (p := ⟨gb478, _, none⟩) NB501_478.out _).trans (((cell_far (p := ⟨gb478, _, none⟩) NB501_478.out _).trans (hHeld.2.2.2.2.2.2.2.2.1)))))))))))))))))))), ((cell_far (p := ⟨gb478, _, none⟩) NB501_478.out _).trans (((cell_far (p := ⟨gb478, _, none⟩) NB501_478.out _).trans (((cell_far (p := ⟨gb478, _, none⟩) NB501_478.out _).trans (((cell_far (p := ⟨gb478, _, none⟩) NB501_478.out _).trans (((cell_far (p := ⟨gb478, _, none⟩) NB501_478.out _).trans (((cell_far (p := ⟨gb478, _, none⟩) NB501_478.out _).trans (((cell_far (p := ⟨gb478, _, none⟩) NB501_478.out _).trans (((cell_far (p := ⟨gb478, _, none⟩) NB501_478.out _).trans (((cell_far (p := ⟨gb478, _, none⟩) NB501_478.out _).trans (((cell_far (p := ⟨gb478, _, none⟩) NB501_478.out _).trans (hHeld.2.2.2.2.2.2.2.2.2))))))))))))))))))))⟩ (fun hHeld => ?_)
 clear hK K
 refine pur_ 9 (bo_ 13 1023) (some 3) HT_ ?_
 refine pur_ 10 (bo_ 13 2047) (some 4) HT_ ?_
 refine pur_ 11 (bo_ 13 4095) (some 5) HT_ ?_
 refine pur_ 12 (bo_ 13 8191) (some 6) HT_ ?_
 refine done_ (done_of HT_.out (by kernel_rfl)) ?_
 try go_wp2
 refine bodyPost_ret (results_list (rs := [.cell 2 28, .tmp 3, .tmp 4, .tmp 5, .tmp 6]) rfl (by simp) (.cell gb478 28 #[iv_ t483, .slice Ao15 t484.length co15, .slice Ao16 t487.length co16, iv_ t490, iv_ t491, iv_ t492, iv_ t493, iv_ t494, .slice Ao17 t495.length co17, iv_ t498] (0, 0) _ rfl (bp_ BK478) Try.underlying28 rfl (by kernel_rfl) (.tmp (.tmp (.tmp (.tmp .nil)))))) rfl ?_
 exact ⟨_, _, _, by first | (rw [hRT_.out]; rfl) | exact er_, by (with_reducible repeat (first | apply Kd.R_alloc | apply Kd.R_drewN | apply Kd.R_drew)); exact Kd.R_mono (Kd.R_far (p := ⟨gb478, 9, none⟩) (Kd.R_far (p := ⟨gb478, 8, none⟩) (Kd.R_far (p := ⟨gb478, 7, none⟩) (Kd.R_far (p := ⟨gb478, 6, none⟩) (Kd.R_far (p := ⟨gb478, 5, none⟩) (Kd.R_far (p := ⟨gb478, 4, none⟩) (Kd.R_far (p := ⟨gb478, 3, none⟩) (Kd.R_far (p := ⟨gb478, 2, none⟩) (Kd.R_far (p := ⟨gb478, 1, none⟩) (Kd.R_far (p := ⟨gb478, 0, none⟩) (Kd.R_types HO486.out BK478.out (by decide)) (fun _ hk => hk.2) (iv_ t483)) (fun _ hk => hk.2) (.slice Ao15 t484.length co15)) (fun _ hk => hk.2) (.slice Ao16 t487.length co16)) (fun _ hk => hk.2) (iv_ t490)) (fun _ hk => hk.2) (iv_ t491)) (fun _ hk => hk.2) (iv_ t492)) (fun _ hk => hk.2) (iv_ t493)) (fun _ hk => hk.2) (iv_ t494)) (fun _ hk => hk.2) (.slice Ao17 t495.length co17)) (fun _ hk => hk.2) (iv_ t498)) (fun _ hk => trivial), by (with_reducible repeat (first | apply Kd.R_alloc | apply Kd.R_drewN | apply Kd.R_drew)); exact Kd.R_mono (Kd.R_far (p := ⟨gb478, 9, none⟩) (Kd.R_far (p := ⟨gb478, 8, none⟩) (Kd.R_far (p := ⟨gb478, 7, none⟩) (Kd.R_far (p := ⟨gb478, 6, none⟩) (Kd.R_far (p := ⟨gb478, 5, none⟩) (Kd.R_far (p := ⟨gb478, 4, none⟩) (Kd.R_far (p := ⟨gb478, 3, none⟩) (Kd.R_far (p := ⟨gb478, 2, none⟩) (Kd.R_far (p := ⟨gb478, 1, none⟩) (Kd.R_far (p := ⟨gb478, 0, none⟩) (Kd.R_types HO489.out BK478.out (by decide)) (fun _ hk => hk.2) (iv_ t483)) (fun _ hk => hk.2) (.slice Ao15 t484.length co15)) (fun _ hk => hk.2) (.slice Ao16 t487.length co16)) (fun _ hk => hk.2) (iv_ t490)) (fun _ hk => hk.2) (iv_ t491)) (fun _ hk => hk.2) (iv_ t492)) (fun _ hk => hk.2) (iv_ t493)) (fun _ hk => hk.2) (iv_ t494)) (fun _ hk => hk.2) (.slice Ao17 t495.length co17)) (fun _ hk => hk.2) (iv_ t498)) (fun _ hk => trivial), by (with_reducible repeat (first | apply Kd.R_alloc | apply Kd.R_drewN | apply Kd.R_drew)); exact Kd.R_mono (Kd.R_far (p := ⟨gb478, 9, none⟩) (Kd.R_far (p := ⟨gb478, 8, none⟩) (Kd.R_far (p := ⟨gb478, 7, none⟩) (Kd.R_far (p := ⟨gb478, 6, none⟩) (Kd.R_far (p := ⟨gb478, 5, none⟩) (Kd.R_far (p := ⟨gb478, 4, none⟩) (Kd.R_far (p := ⟨gb478, 3, none⟩) (Kd.R_far (p := ⟨gb478, 2, none⟩) (Kd.R_far (p := ⟨gb478, 1, none⟩) (Kd.R_far (p := ⟨gb478, 0, none⟩) (Kd.R_types HO497.out BK478.out (by decide)) (fun _ hk => hk.2) (iv_ t483)) (fun _ hk => hk.2) (.slice Ao15 t484.length co15)) (fun _ hk => hk.2) (.slice Ao16 t487.length co16)) (fun _ hk => hk.2) (iv_ t490)) (fun _ hk => hk.2) (iv_ t491)) (fun _ hk => hk.2) (iv_ t492)) (fun _ hk => hk.2) (iv_ t493)) (fun _ hk => hk.2) (iv_ t494)) (fun _ hk => hk.2) (.slice Ao17 t495.length co17)) (fun _ hk => hk.2) (iv_ t498)) (fun _ hk => trivial), by repeat (first | (with_reducible first | exact HB.out | apply below_alloc | apply pw_below_drewN | apply below_drew1 | refine below_set ?_ (IsS102.ge HI482.out) | refine below_set ?_ GE478.out | refine below_set ?_ GE501.out) | exact HB.out)⟩

section
variable {P : Program} {ops : Array Oper} {Q : Exit → Act → World → Prop}
theorem gate_fnval {rest : List Oper} {o : Oper} {a : Act} {W : World} {s : Tmp} {az : Array Operand} {ts : Array TypeId} (_ho : o.op = .call { callee := .value (.tmp s), args := az, argTypes := ts }) (h : wpList P ops Q (o :: rest) a W) : wpList P ops Q (o :: rest) a W := h
theorem goesF_ {rest : List Oper} {oi : Oper} {a : Act} {w : World} (N : Option Tmp) (hd : oi.dst = N) (hg : oi.guard = none) {f : FuncId} {lb : Array Value} {s : Tmp} {az : Array Operand} {ts : Array TypeId} (eg : ∀ args w, (callFunc f args).run P w = .ok (.enter f args) w) (args : Array Value)
  (hop : oi.op = .call { callee := .value (.tmp s), args := az, argTypes := ts }) (hs : a.eval (.tmp s) = .func (.func f) #[] lb) (hargs : az.map a.eval = args)
  (h : Calls P f (args ++ lb) w fun e w' => ∃ v, e = .returned v ∧ wpList P ops Q rest (a.put N v) w') : wpList P ops Q (oi :: rest) a w := by
 refine wpList_plain hg fun K hK => ?_
 have he := eg (args ++ lb) w
 have hrun : (execOp a.eval oi).run P w = .ok (.enter f (args ++ lb)) w := by
  unfold execOp
  simp [hop, resolve, Deferred.ofValue, invoke, hs, hargs, he]
 unfold Oper.wp
 rw [hrun, Oper.upon_enter]
 refine h.mono fun e w'' hh => ?_
 obtain ⟨v, rfl, hk⟩ := hh
 subst hd
 exact hK _ _ hk
end
/-! ### spansWhere, at any function value: function 61 -/
def sw.l0 (q : Nat → Int → Option Bool) : Nat → Int → List (S82) → Int → Option ((List (S82)))
 | 0, _, _, _ => none
 | k + 1, x1, x7, x8 => if x8 < (mn x1 1000) then ((q k x8).bind fun t517 => (if t517 = true then (if (wrap64 ((x7.length : Int) - 1)) ≥ 0 then (if 0 ≤ (wrap64 ((x7.length : Int) - 1)) then (if (wrap64 ((x7.length : Int) - 1)) < (x7.length : Int) then (if ((rd_T82 x7 (wrap64 ((x7.length : Int) - 1))).f1) = x8 then (sw.l0 q k x1 (x7.set ((wrap64 ((x7.length : Int) - 1)) : Int).toNat (⟨(rd_T82 x7 (wrap64 ((x7.length : Int) - 1))).f0, wrap64 (((rd_T82 x7 (wrap64 ((x7.length : Int) - 1))).f1) + 1)⟩ : S82)) (wrap64 (x8 + 1))) else (if x7.length < 8796093022208 then (sw.l0 q k x1 (x7 ++ [(⟨x8, wrap64 (x8 + 1)⟩ : S82)]) (wrap64 (x8 + 1))) else (none))) else (none)) else (none)) else (if x7.length < 8796093022208 then (sw.l0 q k x1 (x7 ++ [(⟨x8, wrap64 (x8 + 1)⟩ : S82)]) (wrap64 (x8 + 1))) else (none))) else (sw.l0 q k x1 x7 (wrap64 (x8 + 1))))) else (some x7)
def sw.f (q : Nat → Int → Option Bool) (k : Nat) (a0 : Int) (a1 : Int) : Option ((List (S82))) := sw.l0 q k a1 (([] : List (S82))) (mx a0 0)
theorem sw.mono_l (q : Nat → Int → Option Bool) (hm : ∀ t k, LeO (q k t) (q (k + 1) t)) : ∀ k, (∀ y0 y1 y2, LeO (sw.l0 q k y0 y1 y2) (sw.l0 q (k + 1) y0 y1 y2))
 | 0 => fun _ _ _ r h => by simp [sw.l0] at h
 | k + 1 => by
  have ih0 := sw.mono_l q hm k
  ·intro y0 y1 y2
   unfold sw.l0
   repeat' first | (with_reducible first | exact ih0 _ _ _ | exact hm _ _ | exact LeO.refl _ | exact LeO.none _ | refine LeO.ite ?_ ?_ | refine LeO.bind ?_ (fun _ => ?_)) | exact LeO.none _ | refine LeO.ite ?_ ?_ | refine LeO.bind ?_ (fun _ => ?_)
theorem sw.mono (q : Nat → Int → Option Bool) (hm : ∀ t k, LeO (q k t) (q (k + 1) t)) : ∀ a0 a1 k, LeO (sw.f q k a0 a1) (sw.f q (k + 1) a0 a1) := by
 intro a0 a1 k
 have ih0 := sw.mono_l q hm k
 unfold sw.f
 repeat' first | (with_reducible first | exact ih0 _ _ _ | exact hm _ _ | exact LeO.refl _ | exact LeO.none _ | refine LeO.ite ?_ ?_ | refine LeO.bind ?_ (fun _ => ?_)) | exact LeO.none _ | refine LeO.ite ?_ ?_ | refine LeO.bind ?_ (fun _ => ?_)
set_option maxHeartbeats 8000000 in
set_option maxRecDepth 100000 in
theorem sw.calls (q : Nat → Int → Option Bool) (k : Nat) (a0 : Int) (a1 : Int) (r : List (S82)) (w : World) (gF : FuncId) (lb : Array Value) (eg : ∀ args w, (callFunc gF args).run Try.prog w = .ok (.enter gF args) w) (hq : ∀ (k' : Nat) (t : Int) (b : Bool) (W : World), q k' t = some b → Below w.heap.size w W → Calls Try.prog gF (#[iv_ t] ++ lb) W fun e w' => e = .returned (.bool b) ∧ Below W.heap.size W w') (h : sw.f q k a0 a1 = some r) :
  Calls Try.prog 61 #[iv_ a0, iv_ a1, .func (.func gF) #[] lb] w fun e w' => ∃ v0_ : Value, e = .returned (v0_) ∧ Kd.R k82 82 w' w.heap.size (fun _ => True) v0_ r ∧ Below w.heap.size w w' := by
 have hu82 := Try.underlying82
 have HB := Aside0.mk (Below.refl w.heap.size w)
 have H := h
 clear h
 unfold sw.f at H
 replace H : ∃ y_ : List (S82), Aside0 (y_ = (([] : List (S82)))) ∧ (sw.l0 q k a1 y_ (mx a0 0)) = some r := ⟨_, ⟨rfl⟩, yh_ H⟩
 obtain ⟨y514, Ny514, H⟩ := H
 obtain ⟨ji4, hji4⟩ : ∃ j_ : Int, (mx a0 0) = j_ := ⟨_, rfl⟩
 replace H : (sw.l0 q k a1 y514 ji4) = some r := by first | (rw [hji4] at H; exact H) | (simp only [hji4] at H ⊢; exact H)
 (try (have hji4l : 0 ≤ ji4 := by (rw [← hji4]; unfold mx; (repeat' split) <;> omega)))
 (try (have hji4m : 0 ≤ ji4 := by omega))
 have hji4_ : (if a0 < 0 then 0 else a0) = ji4 := hji4
 have H' := Aside0.mk H
 clear H
 go_enter Try.func61, Try.ntmps61
 go_wp2_with (first | ((with_reducible refine gate_dst (N := 10) rfl ?_); refine Kd.R_lit k82 _ 82 ?hg (N := 10) ?hd (xs := ([] : List (S82))) (inner := []) (ok := fun _ => True) (okp := fun _ => True) ?hr ?hp (fun _ hk => hk) trivial (Below.refl _ _) (Nat.le_refl _) (by simp) ?_; (case hd => rfl); (case hg => rfl); (case hr => first | (go_simp; done) | (go_simp; rfl)); (case hp => exact (Reps.none _ _)); intro v515 w5 ho6 hb hg_ hnew_; clear hg_ hnew_; (first | rw [← Ny514.out] at ho6 | (simp only [Int.reduceToNat] at ho6; rw [← Ny514.out] at ho6)); refine sh2_ (Kd.R_lower ho6 (below_size (bl_ HB))) (below_step (bl_ HB) hb) ?_; clear HB hb ho6; intro HO516 HB))
 go_loopg [7, 8] k (fun kq v7 v8 w' => ∃ (x7_1 : List (S82)) (x8_1 : Int), v8 = iv_ x8_1 ∧ Aside0 (sw.l0 q kq a1 x7_1 x8_1 = some r) ∧ Aside0 (kq ≤ k) ∧ Aside0 (Kd.R k82 82 w' w.heap.size (fun _ => True) v7 x7_1) ∧ Aside0 (Below w.heap.size w w'))
 case atStart => exact ⟨(y514), (ji4), (by first | rfl | (simp; done) | (simp only [← hji4] <;> (first | rfl | simp)) | (simp [*]; done)), H', ⟨Nat.le_refl _⟩, ⟨ra_ HO516⟩, ⟨bl_ HB⟩⟩
 case round =>
  clear H'
  obtain ⟨x7_1, x8_1, rfl, HA, HK1, HO_7, HB⟩ := hrel
  cases gk with
  | zero => exact absurd HA.out (by simp [sw.l0])
  | succ k1 =>
   have H := HA.out
   clear HA
   simp only [sw.l0] at H
   obtain ⟨ji7, hji7⟩ : ∃ j_ : Int, (mn a1 1000) = j_ := ⟨_, rfl⟩
   replace H : (if x8_1 < (ji7) then ((q k1 x8_1).bind fun t517 => (if t517 = true then (if (wrap64 ((x7_1.length : Int) - 1)) ≥ 0 then (if 0 ≤ (wrap64 ((x7_1.length : Int) - 1)) then (if (wrap64 ((x7_1.length : Int) - 1)) < (x7_1.length : Int) then (if ((rd_T82 x7_1 (wrap64 ((x7_1.length : Int) - 1))).f1) = x8_1 then (sw.l0 q k1 a1 (x7_1.set ((wrap64 ((x7_1.length : Int) - 1)) : Int).toNat (⟨(rd_T82 x7_1 (wrap64 ((x7_1.length : Int) - 1))).f0, wrap64 (((rd_T82 x7_1 (wrap64 ((x7_1.length : Int) - 1))).f1) + 1)⟩ : S82)) (wrap64 (x8_1 + 1))) else (if x7_1.length < 8796093022208 then (sw.l0 q k1 a1 (x7_1 ++ [(⟨x8_1, wrap64 (x8_1 + 1)⟩ : S82)]) (wrap64 (x8_1 + 1))) else (none))) else (none)) else (none)) else (if x7_1.length < 8796093022208 then (sw.l0 q k1 a1 (x7_1 ++ [(⟨x8_1, wrap64 (x8_1 + 1)⟩ : S82)]) (wrap64 (x8_1 + 1))) else (none))) else (sw.l0 q k1 a1 x7_1 (wrap64 (x8_1 + 1))))) else (some x7_1)) = some r := by first | (rw [hji7] at H; exact H) | (simp only [hji7] at H ⊢; exact H)
   have hji7_ : (if 1000 < a1 then 1000 else a1) = ji7 := hji7
   by_cases c8 : x8_1 < (ji7)
   ·rw [if_pos c8] at H
    have c8b0 := decide_eq_true c8
    clear c8
    replace H := bs_ H
    obtain ⟨t517, A9, H⟩ := H
    by_cases c10 : t517 = true
    ·subst c10
     rw [if_pos rfl] at H
     by_cases c11 : (wrap64 ((x7_1.length : Int) - 1)) ≥ 0
     ·rw [if_pos c11] at H
      have c11b0 : decide (0 ≤ (wrap64 ((x7_1.length : Int) - 1))) = true := decide_eq_true c11
      clear c11
      obtain ⟨ji12, hji12⟩ : ∃ j_ : Int, (wrap64 ((x7_1.length : Int) - 1)) = j_ := ⟨_, rfl⟩
      replace H : (if 0 ≤ (ji12) then (if (ji12) < (x7_1.length : Int) then (if ((rd_T82 x7_1 (ji12)).f1) = x8_1 then (sw.l0 q k1 a1 (x7_1.set ((ji12) : Int).toNat (⟨(rd_T82 x7_1 (ji12)).f0, wrap64 (((rd_T82 x7_1 (ji12)).f1) + 1)⟩ : S82)) (wrap64 (x8_1 + 1))) else (if x7_1.length < 8796093022208 then (sw.l0 q k1 a1 (x7_1 ++ [(⟨x8_1, wrap64 (x8_1 + 1)⟩ : S82)]) (wrap64 (x8_1 + 1))) else (none))) else (none)) else (none)) = some r := by first | (rw [hji12] at H; exact H) | (simp only [hji12] at H ⊢; exact H)
      (try rw [hji12] at c11b0)
      (try rw [hji12] at A9)
      have hji12w : (IntKind.i64.wrap ((x7_1.length : Int) - 1)) = ji12 := (i64_w _).trans hji12
      replace H := ifn_ H
      obtain ⟨c13, H⟩ := H
      have c13b0 := decide_eq_true c13
      clear c13
      replace H := ifn_ H
      obtain ⟨c14, H⟩ := H
      have c14b0 := decide_eq_true c14
      clear c14
      by_cases c15 : ((rd_T82 x7_1 (ji12)).f1) = x8_1
      ·rw [if_pos c15] at H
       obtain ⟨c15b0, c15b1⟩ := bt_ c15
       clear c15
       replace H : ∃ y_ : List (S82), Aside0 (y_ = (x7_1.set ((ji12) : Int).toNat (⟨(rd_T82 x7_1 (ji12)).f0, wrap64 (((rd_T82 x7_1 (ji12)).f1) + 1)⟩ : S82))) ∧ (sw.l0 q k1 a1 y_ (wrap64 (x8_1 + 1))) = some r := ⟨_, ⟨rfl⟩, yh_ H⟩
       obtain ⟨y520, Ny520, H⟩ := H
       have H' := Aside0.mk H
       clear H
       go_wp2_with (first | ((with_reducible refine gate_fnval (s := 19) rfl ?_); refine goesF_ (some 21) rfl rfl eg #[iv_ x8_1] rfl rfl mp_ ?_; (refine (hq k1 x8_1 true _ A9.out (bl_ HB)).mono ?_); rintro e w17 ⟨rfl, hb⟩; refine ⟨_, rfl, sh2_ (Kd.R_below (ra_ HO_7) hb) (below_step (bl_ HB) hb) ?_⟩; clear HO_7 HB hb; intro HO_7 HB; obtain ⟨Ao18, co18, eo18⟩ := Kd.R_slice HO_7.out; subst eo18; have p518 : 0 ≤ ((ji12) : Int) := od_; have q518 : (ji12) < (x7_1.length : Int) := od_; obtain ⟨ad518, e518, hx518_0, hx518_1⟩ := at_T82 (Kd.R_reads' HO_7.out).2.2 (ji12) p518 q518; cases e518; replace p518 := eq_true p518; replace q518 := eq_true q518; have p519 : 0 ≤ ((ji12) : Int) := od_; have q519 : (ji12) < (x7_1.length : Int) := od_; obtain ⟨ad519, e519, hx519_0, hx519_1⟩ := at_T82 (Kd.R_reads' HO_7.out).2.2 (ji12) p519 q519; obtain rfl : ad518 = ad519 := (by injection e519); replace p519 := eq_true p519; replace q519 := eq_true q519; have p16 : 0 ≤ ((ji12) : Int) := od_; have q16 : ((ji12) : Int) < ((x7_1.length : Int) : Int) := od_; obtain ⟨go16, co16, eo16, gb16, gl16, cl16, HG16⟩ := Kd.R_form HO_7.out (by omega); (first | cases eo16 | (injection eo16 with ea_ en_ ec_; (first | subst ea_ | (injection ea_ with ea_; subst ea_)); subst ec_; clear en_)); have GB16 := Aside0.mk gb16; have GG16 := Aside0.mk HG16; clear gb16 gl16 HG16; (first | simp only [add_plain] at hx518_0 | skip); (first | simp only [add_plain] at hx518_1 | skip); (first | simp only [add_plain] at hx519_0 | skip); (first | simp only [add_plain] at hx519_1 | skip); obtain ⟨ce16, hcl16, hM16, hcc16, hfr16⟩ := Kd.R_elem HO_7.out z82 ((ji12) : Int) p16 q16; obtain rfl := k82_openM hM16; have hx16_0 : w17.cell? ⟨go16, ((ji12) : Int).toNat * 2, none⟩ = some (iv_ ((rd_T82 x7_1 (ji12)).f0)) := hcc16 0 _ rfl; have hx16_1 : w17.cell? ⟨go16, ((ji12) : Int).toNat * 2 + 1, none⟩ = some (iv_ ((rd_T82 x7_1 (ji12)).f1)) := hcc16 1 _ rfl; have hf16_0 : w17.frozen? ⟨go16, ((ji12) : Int).toNat * 2, none⟩ = false := hfr16 0; have hf16_1 : w17.frozen? ⟨go16, ((ji12) : Int).toNat * 2 + 1, none⟩ = false := hfr16 1; clear hcl16 hcc16 hfr16 hM16; replace p16 := eq_true p16; replace q16 := eq_true q16; have HX19 := Aside0.mk (show Kd.R k82 82 w17 w.heap.size (fun _ => True) (.slice (some ⟨go16, 0, none⟩) x7_1.length co18) x7_1 from (ra_ HO_7)); obtain ⟨ce19, hcl19, hM19, hcc19, hfr19⟩ := Kd.R_elem HX19.out z82 ((ji12) : Int) od_ (by have h_ : ((ji12) : Int) < ((x7_1.length : Int) : Int) := od_; first | exact h_ | (have e_ := (Kd.R_reads' HO_7.out).1; omega) | simpa using h_); obtain rfl := k82_openM hM19; have HP19 := Kd.R_seg HX19.out ((ji12) : Int) od_ (by have h_ : ((ji12) : Int) < ((x7_1.length : Int) : Int) := od_; first | exact h_ | (have e_ := (Kd.R_reads' HO_7.out).1; omega) | simpa using h_) (seg := [iv_ (wrap64 (((rd_T82 x7_1 (ji12)).f1) + 1))]) (j := 1) hcl19 hcc19 (show 2 ≤ 2 from by decide) (x' := (⟨(rd_T82 x7_1 (ji12)).f0, wrap64 (((rd_T82 x7_1 (ji12)).f1) + 1)⟩ : S82)) (k82_mkM _ _ _ (⟨(rd_T82 x7_1 (ji12)).f0, wrap64 (((rd_T82 x7_1 (ji12)).f1) + 1)⟩ : S82) ) (fun _ hk => hk); have hx19_1 := hcc19 1 _ rfl; (try simp only [show (k82).sz = 2 from rfl, Nat.mul_one, Nat.add_zero] at hx19_1); have hf19_1 := hfr19 1; (try simp only [show (k82).sz = 2 from rfl, Nat.mul_one, Nat.add_zero] at hf19_1); clear hcl19 hcc19 hfr19 hM19) | ((with_reducible refine gate_store (t := 3) (p := 44) rfl ?_); refine store_event (t := 3) (p := 44) (v := ?vo_w20) (w1 := (w17.setCell ⟨go16, ((ji12) : Int).toNat * 2 + 1, none⟩ (iv_ (wrap64 (((rd_T82 x7_1 (ji12)).f1) + 1))))) ?hg ?ho ?hn ?hr ?_; (case ho => rfl); (case hg => rfl); (case hn => rfl); (case hr => first | (go_simp; done) | (go_simp; rfl)); intro w20 hw; have hg : w17.grownBy w20 (some go16) := (by rw [hw]; exact HP19.2); have hp_ : Kd.R k82 82 w20 w.heap.size (fun _ => True) (.slice (some ⟨go16, 0, none⟩) x7_1.length co18) y520 := (by rw [hw, Ny520.out]; exact HP19.1); clear HP19; refine sh2_ hp_ ((by rw [hw]; exact below_set (HB.out) GB16.out : Below w.heap.size w w20)) ?_; clear HO_7 HB; intro HO_7 HB; clear hg hw hp_))
       go_roundg k1
       case measure => have := HK1.out; omega
       case rel => exact ⟨(y520), (wrap64 (x8_1 + 1)), (by first | rfl | (simp; done) | (simp [*]; done)), H', ⟨by have := HK1.out; omega⟩, ⟨ra_ HO_7⟩, ⟨bl_ HB⟩⟩
      ·rw [if_neg c15] at H
       obtain ⟨c15b0, c15b1⟩ := bn_ c15
       replace H := ifn_ H
       obtain ⟨c21, H⟩ := H
       have LMc21 := Aside0.mk c21
       clear c21
       replace H : ∃ y_ : List (S82), Aside0 (y_ = (x7_1 ++ [(⟨x8_1, wrap64 (x8_1 + 1)⟩ : S82)])) ∧ (sw.l0 q k1 a1 y_ (wrap64 (x8_1 + 1))) = some r := ⟨_, ⟨rfl⟩, yh_ H⟩
       obtain ⟨y521, Ny521, H⟩ := H
       have H' := Aside0.mk H
       clear H
       go_wp2_with (first | ((with_reducible refine gate_fnval (s := 19) rfl ?_); refine goesF_ (some 21) rfl rfl eg #[iv_ x8_1] rfl rfl mp_ ?_; (refine (hq k1 x8_1 true _ A9.out (bl_ HB)).mono ?_); rintro e w22 ⟨rfl, hb⟩; refine ⟨_, rfl, sh2_ (Kd.R_below (ra_ HO_7) hb) (below_step (bl_ HB) hb) ?_⟩; clear HO_7 HB hb; intro HO_7 HB; obtain ⟨Ao23, co23, eo23⟩ := Kd.R_slice HO_7.out; subst eo23; have p518 : 0 ≤ ((ji12) : Int) := od_; have q518 : (ji12) < (x7_1.length : Int) := od_; obtain ⟨ad518, e518, hx518_0, hx518_1⟩ := at_T82 (Kd.R_reads' HO_7.out).2.2 (ji12) p518 q518; cases e518; replace p518 := eq_true p518; replace q518 := eq_true q518) | ((with_reducible refine gate_builtin (b := .append) (xs := #[.tmp 45, .tmp 50]) rfl ?_); at_builtin; refine Kd.R_append k82 (w0 := w) w.heap.size rfl (.tmp 45) (.tmp 50) 40 82 (.agg #[(iv_ 0), (iv_ 0)]) 16 rfl Try.underlying40 info82 rfl (by decide) (by omega) (.slice (some ad518) x7_1.length co23) x7_1 (⟨x8_1, wrap64 (x8_1 + 1)⟩ : S82) [iv_ x8_1, iv_ (wrap64 (x8_1 + 1))] (fun _ => True) (fun _ => False) rfl rfl ?aP (fun _ hk => hk.elim) ?aF ?aO ?aB ?aS ?aL ?_; (case aP => exact k82_mkM _ _ _ (⟨x8_1, wrap64 (x8_1 + 1)⟩ : S82)); (case aB => exact (bl_ HB)); (case aF => exact (fun _ _ => trivial)); (case aO => exact (ra_ HO_7)); (case aS => exact (below_size (bl_ HB))); (case aL => have := LMc21.out; omega); intro v522 w24 ho hb hg hat; rw [← Ny521.out] at ho; refine sh2_ hb ho ?_; clear HB HO_7 ho hb hg hat; intro HB HO523))
       go_roundg k1
       case measure => have := HK1.out; omega
       case rel => exact ⟨(y521), (wrap64 (x8_1 + 1)), (by first | rfl | (simp; done) | (simp [*]; done)), H', ⟨by have := HK1.out; omega⟩, ⟨ra_ HO523⟩, ⟨bl_ HB⟩⟩
     ·rw [if_neg c11] at H
      have c11b0 : decide (0 ≤ (wrap64 ((x7_1.length : Int) - 1))) = false := decide_eq_false c11
      clear c11
      replace H := ifn_ H
      obtain ⟨c25, H⟩ := H
      have LMc25 := Aside0.mk c25
      clear c25
      replace H : ∃ y_ : List (S82), Aside0 (y_ = (x7_1 ++ [(⟨x8_1, wrap64 (x8_1 + 1)⟩ : S82)])) ∧ (sw.l0 q k1 a1 y_ (wrap64 (x8_1 + 1))) = some r := ⟨_, ⟨rfl⟩, yh_ H⟩
      obtain ⟨y524, Ny524, H⟩ := H
      have H' := Aside0.mk H
      clear H
      go_wp2_with (first | ((with_reducible refine gate_fnval (s := 19) rfl ?_); refine goesF_ (some 21) rfl rfl eg #[iv_ x8_1] rfl rfl mp_ ?_; (refine (hq k1 x8_1 true _ A9.out (bl_ HB)).mono ?_); rintro e w26 ⟨rfl, hb⟩; refine ⟨_, rfl, sh2_ (Kd.R_below (ra_ HO_7) hb) (below_step (bl_ HB) hb) ?_⟩; clear HO_7 HB hb; intro HO_7 HB; obtain ⟨Ao27, co27, eo27⟩ := Kd.R_slice HO_7.out; subst eo27) | ((with_reducible refine gate_builtin (b := .append) (xs := #[.tmp 45, .tmp 50]) rfl ?_); at_builtin; refine Kd.R_append k82 (w0 := w) w.heap.size rfl (.tmp 45) (.tmp 50) 40 82 (.agg #[(iv_ 0), (iv_ 0)]) 16 rfl Try.underlying40 info82 rfl (by decide) (by omega) (.slice Ao27 x7_1.length co27) x7_1 (⟨x8_1, wrap64 (x8_1 + 1)⟩ : S82) [iv_ x8_1, iv_ (wrap64 (x8_1 + 1))] (fun _ => True) (fun _ => False) rfl rfl ?aP (fun _ hk => hk.elim) ?aF ?aO ?aB ?aS ?aL ?_; (case aP => exact k82_mkM _ _ _ (⟨x8_1, wrap64 (x8_1 + 1)⟩ : S82)); (case aB => exact (bl_ HB)); (case aF => exact (fun _ _ => trivial)); (case aO => exact (ra_ HO_7)); (case aS => exact (below_size (bl_ HB))); (case aL => have := LMc25.out; omega); intro v525 w28 ho hb hg hat; rw [← Ny524.out] at ho; refine sh2_ hb ho ?_; clear HB HO_7 ho hb hg hat; intro HB HO526))
      go_roundg k1
      case measure => have := HK1.out; omega
      case rel => exact ⟨(y524), (wrap64 (x8_1 + 1)), (by first | rfl | (simp; done) | (simp [*]; done)), H', ⟨by have := HK1.out; omega⟩, ⟨ra_ HO526⟩, ⟨bl_ HB⟩⟩
    ·replace c10 := Bool.eq_false_iff.mpr c10
     subst c10
     have H1 : (sw.l0 q k1 a1 x7_1 (wrap64 (x8_1 + 1))) = some r := by rw [if_neg (show ¬ (false = true) by decide)] at H; exact H
     clear H
     have H := H1
     clear H1
     have H' := Aside0.mk H
     clear H
     go_wp2_with (first | ((with_reducible refine gate_fnval (s := 19) rfl ?_); refine goesF_ (some 21) rfl rfl eg #[iv_ x8_1] rfl rfl mp_ ?_; (refine (hq k1 x8_1 false _ A9.out (bl_ HB)).mono ?_); rintro e w29 ⟨rfl, hb⟩; refine ⟨_, rfl, sh2_ (Kd.R_below (ra_ HO_7) hb) (below_step (bl_ HB) hb) ?_⟩; clear HO_7 HB hb; intro HO_7 HB))
     go_roundg k1
     case measure => have := HK1.out; omega
     case rel => exact ⟨(x7_1), (wrap64 (x8_1 + 1)), (by first | rfl | (simp; done) | (simp [*]; done)), H', ⟨by have := HK1.out; omega⟩, ⟨ra_ HO_7⟩, ⟨bl_ HB⟩⟩
   ·rw [if_neg c8] at H
    have c8b0 : decide (x8_1 < (ji7)) = false := decide_eq_false c8
    clear c8
    obtain rfl := Option.some.inj H
    go_wp2
    go_ret
    exact ⟨_, by first | rfl | (rw [hRT_.out]; rfl) | (simp [errW_none, errW_some] <;> rfl) | (simp only [← hji4, ← hji7]; first | rfl | (simp [errW_none, errW_some] <;> rfl)) | (simp [*, errW_none, errW_some] <;> rfl), ra_ HO_7, bl_ HB⟩

/-! ### impl_SureWindows_1: function 62 -/
def impl_SureWindows_1.f (k : Nat) (a0 : Int) (a1_0 : Int) (l1_1 : List (S72)) (l1_2 : List (S74)) (a1_3 : Int) (a1_4 : Int) (a1_5 : Int) (a1_6 : Int) (a1_7 : Int) (l1_8 : List (S88)) (a1_9 : Int) (a2 : Int) (a3 : Int) : Option (Bool) := (impl_IsSure.f k a1_0 l1_1 l1_2 a1_3 a1_4 a1_5 a1_6 a1_7 l1_8 a1_9 a2 a3 a0).bind fun t527 => (some t527)
theorem impl_SureWindows_1.mono : ∀ a0 a1 a2 a3 a4 a5 a6 a7 a8 a9 a10 a11 a12 k, LeO (impl_SureWindows_1.f k a0 a1 a2 a3 a4 a5 a6 a7 a8 a9 a10 a11 a12) (impl_SureWindows_1.f (k + 1) a0 a1 a2 a3 a4 a5 a6 a7 a8 a9 a10 a11 a12) := by
 intro a0 a1 a2 a3 a4 a5 a6 a7 a8 a9 a10 a11 a12 k
 unfold impl_SureWindows_1.f
 repeat' first | (with_reducible first | exact impl_IsSure.mono _ _ _ _ _ _ _ _ _ _ _ _ _ _ | exact LeO.refl _ | exact LeO.none _ | refine LeO.ite ?_ ?_ | refine LeO.bind ?_ (fun _ => ?_)) | exact LeO.none _ | refine LeO.ite ?_ ?_ | refine LeO.bind ?_ (fun _ => ?_)
set_option maxHeartbeats 8000000 in
set_option maxRecDepth 100000 in
theorem impl_SureWindows_1.calls (k : Nat) (a0 : Int) (a1_0 : Int) (A1_1 : Option Addr) (c1_1 : Nat) (l1_1 : List (S72)) (A1_2 : Option Addr) (c1_2 : Nat) (l1_2 : List (S74)) (a1_3 : Int) (a1_4 : Int) (a1_5 : Int) (a1_6 : Int) (a1_7 : Int) (A1_8 : Option Addr) (c1_8 : Nat) (l1_8 : List (S88)) (a1_9 : Int) (a2 : Int) (a3 : Int) (r : Bool) (w : World) (B0 : Nat) (hB0 : w.heap[B0]? = some (.cells #[iv_ a1_0, .slice A1_1 l1_1.length c1_1, .slice A1_2 l1_2.length c1_2, iv_ a1_3, iv_ a1_4, iv_ a1_5, iv_ a1_6, iv_ a1_7, .slice A1_8 l1_8.length c1_8, iv_ a1_9] 28 (0, 0))) (B1 : Nat) (hB1 : w.heap[B1]? = some (.cells #[iv_ a2] 3 (0, 0))) (B2 : Nat) (hB2 : w.heap[B2]? = some (.cells #[iv_ a3] 3 (0, 0))) (hr1_1 : Kd.C k72 w A1_1 l1_1.length l1_1) (hc1_1 : l1_1.length ≤ c1_1) (hr1_2 : Kd.C k74 w A1_2 l1_2.length l1_2) (hc1_2 : l1_2.length ≤ c1_2) (hr1_8 : Kd.C k88 w A1_8 l1_8.length l1_8) (hc1_8 : l1_8.length ≤ c1_8) (h : impl_SureWindows_1.f k a0 a1_0 l1_1 l1_2 a1_3 a1_4 a1_5 a1_6 a1_7 l1_8 a1_9 a2 a3 = some r) :
  Calls Try.prog 62 #[iv_ a0, .pointer (some ⟨B0, 0, none⟩), .pointer (some ⟨B1, 0, none⟩), .pointer (some ⟨B2, 0, none⟩)] w fun e w' => e = .returned (.bool r) ∧ Below w.heap.size w w' := by
 have hcB0_0 : w.cell? ⟨B0, 0, none⟩ = some (iv_ a1_0) := (blk_cell hB0 0).trans rfl
 have hcB0_1 : w.cell? ⟨B0, 1, none⟩ = some (.slice A1_1 l1_1.length c1_1) := (blk_cell hB0 1).trans rfl
 have hcB0_2 : w.cell? ⟨B0, 2, none⟩ = some (.slice A1_2 l1_2.length c1_2) := (blk_cell hB0 2).trans rfl
 have hcB0_3 : w.cell? ⟨B0, 3, none⟩ = some (iv_ a1_3) := (blk_cell hB0 3).trans rfl
 have hcB0_4 : w.cell? ⟨B0, 4, none⟩ = some (iv_ a1_4) := (blk_cell hB0 4).trans rfl
 have hcB0_5 : w.cell? ⟨B0, 5, none⟩ = some (iv_ a1_5) := (blk_cell hB0 5).trans rfl
 have hcB0_6 : w.cell? ⟨B0, 6, none⟩ = some (iv_ a1_6) := (blk_cell hB0 6).trans rfl
 have hcB0_7 : w.cell? ⟨B0, 7, none⟩ = some (iv_ a1_7) := (blk_cell hB0 7).trans rfl
 have hcB0_8 : w.cell? ⟨B0, 8, none⟩ = some (.slice A1_8 l1_8.length c1_8) := (blk_cell hB0 8).trans rfl
 have hcB0_9 : w.cell? ⟨B0, 9, none⟩ = some (iv_ a1_9) := (blk_cell hB0 9).trans rfl
 have hcB1_0 : w.cell? ⟨B1, 0, none⟩ = some (iv_ a2) := (blk_cell hB1 0).trans rfl
 have hcB2_0 : w.cell? ⟨B2, 0, none⟩ = some (iv_ a3) := (blk_cell hB2 0).trans rfl
 have HR1_1 := Aside0.mk hr1_1
 have HC1_1 := Aside0.mk hc1_1
 clear hr1_1 hc1_1
 have HR1_2 := Aside0.mk hr1_2
 have HC1_2 := Aside0.mk hc1_2
 clear hr1_2 hc1_2
 have HR1_8 := Aside0.mk hr1_8
 have HC1_8 := Aside0.mk hc1_8
 clear hr1_8 hc1_8
 have HB := Aside0.mk (Below.refl w.heap.size w)
 have H := h
 clear h
 unfold impl_SureWindows_1.f at H
 replace H := bs_ H
 obtain ⟨t527, A5, H⟩ := H
 obtain rfl := Option.some.inj H
 go_enter Try.func62, Try.ntmps62
 go_wp2_with (first | ((with_reducible refine gate_callee (f := 12) rfl ?_); refine gl_ 10 Try.func12 (impl_IsSure.calls k a1_0 _ _ l1_1 _ _ l1_2 a1_3 a1_4 a1_5 a1_6 a1_7 _ _ l1_8 a1_9 a2 a3 a0 t527 _ (cq_ HR1_1) HC1_1.out (cq_ HR1_2) HC1_2.out (cq_ HR1_8) HC1_8.out A5.out) ?_; rintro e w6 ⟨rfl, hb⟩; refine ⟨_, rfl, sh1_ (below_step (bl_ HB) hb) ?_⟩; clear HB hb; intro HB))
 go_ret
 exact ⟨by first | (rw [hRT_.out]; rfl) | exact er_, bl_ HB⟩


def where_impl_SureWindows_1.f (k : Nat) (y0 y1 : Int) (a1_0 : Int) (l1_1 : List (S72)) (l1_2 : List (S74)) (a1_3 : Int) (a1_4 : Int) (a1_5 : Int) (a1_6 : Int) (a1_7 : Int) (l1_8 : List (S88)) (a1_9 : Int) (a2 : Int) (a3 : Int) : Option (List (S82)) := sw.f (fun k' t' => impl_SureWindows_1.f k' t' a1_0 l1_1 l1_2 a1_3 a1_4 a1_5 a1_6 a1_7 l1_8 a1_9 a2 a3) k y0 y1
theorem where_impl_SureWindows_1.mono : ∀ y0 y1 a1_0 l1_1 l1_2 a1_3 a1_4 a1_5 a1_6 a1_7 l1_8 a1_9 a2 a3 k, LeO (where_impl_SureWindows_1.f k y0 y1 a1_0 l1_1 l1_2 a1_3 a1_4 a1_5 a1_6 a1_7 l1_8 a1_9 a2 a3) (where_impl_SureWindows_1.f (k + 1) y0 y1 a1_0 l1_1 l1_2 a1_3 a1_4 a1_5 a1_6 a1_7 l1_8 a1_9 a2 a3) := fun y0 y1 a1_0 l1_1 l1_2 a1_3 a1_4 a1_5 a1_6 a1_7 l1_8 a1_9 a2 a3 k => sw.mono _ (fun t' k' => by exact impl_SureWindows_1.mono _ _ _ _ _ _ _ _ _ _ _ _ _ _) y0 y1 k
theorem where_impl_SureWindows_1.calls (k : Nat) (y0 y1 : Int) (a1_0 : Int) (A1_1 : Option Addr) (c1_1 : Nat) (l1_1 : List (S72)) (A1_2 : Option Addr) (c1_2 : Nat) (l1_2 : List (S74)) (a1_3 : Int) (a1_4 : Int) (a1_5 : Int) (a1_6 : Int) (a1_7 : Int) (A1_8 : Option Addr) (c1_8 : Nat) (l1_8 : List (S88)) (a1_9 : Int) (a2 : Int) (a3 : Int) (r : List (S82)) (w : World) (B0 : Nat) (hB0 : w.heap[B0]? = some (.cells #[iv_ a1_0, .slice A1_1 l1_1.length c1_1, .slice A1_2 l1_2.length c1_2, iv_ a1_3, iv_ a1_4, iv_ a1_5, iv_ a1_6, iv_ a1_7, .slice A1_8 l1_8.length c1_8, iv_ a1_9] 28 (0, 0))) (B1 : Nat) (hB1 : w.heap[B1]? = some (.cells #[iv_ a2] 3 (0, 0))) (B2 : Nat) (hB2 : w.heap[B2]? = some (.cells #[iv_ a3] 3 (0, 0))) (hr1_1 : Kd.C k72 w A1_1 l1_1.length l1_1) (hc1_1 : l1_1.length ≤ c1_1) (hr1_2 : Kd.C k74 w A1_2 l1_2.length l1_2) (hc1_2 : l1_2.length ≤ c1_2) (hr1_8 : Kd.C k88 w A1_8 l1_8.length l1_8) (hc1_8 : l1_8.length ≤ c1_8) (h : where_impl_SureWindows_1.f k y0 y1 a1_0 l1_1 l1_2 a1_3 a1_4 a1_5 a1_6 a1_7 l1_8 a1_9 a2 a3 = some r) :
  Calls Try.prog 61 #[iv_ y0, iv_ y1, .func (.func 62) #[] #[.pointer (some ⟨B0, 0, none⟩), .pointer (some ⟨B1, 0, none⟩), .pointer (some ⟨B2, 0, none⟩)]] w fun e w' => ∃ v0_ : Value, e = .returned (v0_) ∧ Kd.R k82 82 w' w.heap.size (fun _ => True) v0_ r ∧ Below w.heap.size w w' := by
 refine sw.calls (fun k' t' => impl_SureWindows_1.f k' t' a1_0 l1_1 l1_2 a1_3 a1_4 a1_5 a1_6 a1_7 l1_8 a1_9 a2 a3) k y0 y1 r w 62 _ (fun args w => enters_ Try.func62 (by kernel_rfl) rfl args w) (fun k' t b W hq hb => ?_) h
 have hB0' := blk_below hB0 hb
 have hB1' := blk_below hB1 hb
 have hB2' := blk_below hB2 hb
 have hh := impl_SureWindows_1.calls k' t a1_0 A1_1 c1_1 l1_1 A1_2 c1_2 l1_2 a1_3 a1_4 a1_5 a1_6 a1_7 A1_8 c1_8 l1_8 a1_9 a2 a3 b W B0 hB0' B1 hB1' B2 hB2' (Kd.C_below hr1_1 hb) hc1_1 (Kd.C_below hr1_2 hb) hc1_2 (Kd.C_below hr1_8 hb) hc1_8 hq
 exact hh.mono (fun e w' hx => ⟨hx.1, hx.2⟩)

/-! ### impl_SureWindows: function 16 -/
def impl_SureWindows.f (k : Nat) (a0_0 : Int) (l0_1 : List (S72)) (l0_2 : List (S74)) (a0_3 : Int) (a0_4 : Int) (a0_5 : Int) (a0_6 : Int) (a0_7 : Int) (l0_8 : List (S88)) (a0_9 : Int) (a1 : Int) (a2 : Int) (a3 : Int) (a4 : Int) : Option ((List (S82))) := (where_impl_SureWindows_1.f k a3 a4 a0_0 l0_1 l0_2 a0_3 a0_4 a0_5 a0_6 a0_7 l0_8 a0_9 a1 a2).bind fun t528 => (some t528)
theorem impl_SureWindows.mono : ∀ a0 a1 a2 a3 a4 a5 a6 a7 a8 a9 a10 a11 a12 a13 k, LeO (impl_SureWindows.f k a0 a1 a2 a3 a4 a5 a6 a7 a8 a9 a10 a11 a12 a13) (impl_SureWindows.f (k + 1) a0 a1 a2 a3 a4 a5 a6 a7 a8 a9 a10 a11 a12 a13) := by
 intro a0 a1 a2 a3 a4 a5 a6 a7 a8 a9 a10 a11 a12 a13 k
 unfold impl_SureWindows.f
 repeat' first | (with_reducible first | exact where_impl_SureWindows_1.mono _ _ _ _ _ _ _ _ _ _ _ _ _ _ _ | exact LeO.refl _ | exact LeO.none _ | refine LeO.ite ?_ ?_ | refine LeO.bind ?_ (fun _ => ?_)) | exact LeO.none _ | refine LeO.ite ?_ ?_ | refine LeO.bind ?_ (fun _ => ?_)
set_option maxHeartbeats 8000000 in
set_option maxRecDepth 100000 in
theorem impl_SureWindows.calls (k : Nat) (a0_0 : Int) (A0_1 : Option Addr) (c0_1 : Nat) (l0_1 : List (S72)) (A0_2 : Option Addr) (c0_2 : Nat) (l0_2 : List (S74)) (a0_3 : Int) (a0_4 : Int) (a0_5 : Int) (a0_6 : Int) (a0_7 : Int) (A0_8 : Option Addr) (c0_8 : Nat) (l0_8 : List (S88)) (a0_9 : Int) (a1 : Int) (a2 : Int) (a3 : Int) (a4 : Int) (r : List (S82)) (w : World) (hr0_1 : Kd.C k72 w A0_1 l0_1.length l0_1) (hc0_1 : l0_1.length ≤ c0_1) (hr0_2 : Kd.C k74 w A0_2 l0_2.length l0_2) (hc0_2 : l0_2.length ≤ c0_2) (hr0_8 : Kd.C k88 w A0_8 l0_8.length l0_8) (hc0_8 : l0_8.length ≤ c0_8) (h : impl_SureWindows.f k a0_0 l0_1 l0_2 a0_3 a0_4 a0_5 a0_6 a0_7 l0_8 a0_9 a1 a2 a3 a4 = some r) :
  Calls Try.prog 16 #[.agg #[iv_ a0_0, .slice A0_1 l0_1.length c0_1, .slice A0_2 l0_2.length c0_2, iv_ a0_3, iv_ a0_4, iv_ a0_5, iv_ a0_6, iv_ a0_7, .slice A0_8 l0_8.length c0_8, iv_ a0_9], iv_ a1, iv_ a2, iv_ a3, iv_ a4] w fun e w' => ∃ v0_ : Value, e = .returned (v0_) ∧ Kd.R k82 82 w' w.heap.size (fun _ => True) v0_ r ∧ Below w.heap.size w w' := by
 have HR0_1 := Aside0.mk hr0_1
 have HC0_1 := Aside0.mk hc0_1
 clear hr0_1 hc0_1
 have HR0_2 := Aside0.mk hr0_2
 have HC0_2 := Aside0.mk hc0_2
 clear hr0_2 hc0_2
 have HR0_8 := Aside0.mk hr0_8
 have HC0_8 := Aside0.mk hc0_8
 clear hr0_8 hc0_8
 have HB := Aside0.mk (Below.refl w.heap.size w)
 have H := h
 clear h
 unfold impl_SureWindows.f at H
 replace H := bs_ H
 obtain ⟨t528, A6, H⟩ := H
 obtain rfl := Option.some.inj H
 go_enter Try.func16, Try.ntmps16
 go_wp2_with (first | ((with_reducible refine gd_ 5 ?_); refine bx_ 5 28 #[iv_ a0_0, .slice A0_1 l0_1.length c0_1, .slice A0_2 l0_2.length c0_2, iv_ a0_3, iv_ a0_4, iv_ a0_5, iv_ a0_6, iv_ a0_7, .slice A0_8 l0_8.length c0_8, iv_ a0_9] ?_; intro gx5 hg wx5 hbox hb; refine sh1_ (below_step HB.out hb) ?_; clear HB; intro HB; have BK5_ := Aside0.mk hbox; clear hb hg hbox) | ((with_reducible refine gd_ 6 ?_); refine bx_ 6 3 #[iv_ a1] ?_; intro gx6 hg wx6 hbox hb; have n0_ := Aside0.mk (below_step HB.out hb); have BKn5_ := Aside0.mk (blk_below BK5_.out hb); clear BK5_; have BK5_ := BKn5_; clear BKn5_; clear HB; have HB := n0_; clear n0_; have BK6_ := Aside0.mk hbox; clear hb hg hbox) | ((with_reducible refine gd_ 7 ?_); refine bx_ 7 3 #[iv_ a2] ?_; intro gx7 hg wx7 hbox hb; have n0_ := Aside0.mk (below_step HB.out hb); have BKn5_ := Aside0.mk (blk_below BK5_.out hb); clear BK5_; have BK5_ := BKn5_; clear BKn5_; have BKn6_ := Aside0.mk (blk_below BK6_.out hb); clear BK6_; have BK6_ := BKn6_; clear BKn6_; clear HB; have HB := n0_; clear n0_; have BK7_ := Aside0.mk hbox; clear hb hg hbox) | ((with_reducible refine gate_callee (f := 61) rfl ?_); refine gl_ 14 Try.func61 (where_impl_SureWindows_1.calls k a3 a4 a0_0 _ _ l0_1 _ _ l0_2 a0_3 a0_4 a0_5 a0_6 a0_7 _ _ l0_8 a0_9 a1 a2 t528 _ gx5 BK5_.out gx6 BK6_.out gx7 BK7_.out (ck_ HR0_1 HB) HC0_1.out (ck_ HR0_2 HB) HC0_2.out (ck_ HR0_8 HB) HC0_8.out A6.out) ?_; rintro e w7 ⟨v529, rfl, ho0, hb⟩; refine ⟨_, rfl, sh2_ (Kd.R_lower ho0 (below_size (bl_ HB))) (below_step (bl_ HB) hb) ?_⟩; clear HB hb ho0; intro HO530 HB))
 go_ret
 exact ⟨_, by first | (rw [hRT_.out]; rfl) | exact er_, ra_ HO530, bl_ HB⟩

/-! ### impl_IsSpan: function 99 -/
def impl_IsSpan.f (a0_0 : Int) (a0_1 : Int) : Option (Bool) := if a0_0 ≥ 0 then (if a0_1 ≤ 1000 then (some (decide (a0_0 < a0_1))) else (some false)) else (some false)
set_option maxHeartbeats 8000000 in
set_option maxRecDepth 100000 in
theorem impl_IsSpan.calls (a0_0 : Int) (a0_1 : Int) (r : Bool) (w : World) (h : impl_IsSpan.f a0_0 a0_1 = some r) :
  Calls Try.prog 99 #[.agg #[iv_ a0_0, iv_ a0_1]] w fun e w' => e = .returned (.bool r) ∧ Below w.heap.size w w' := by
 have hu82 := Try.underlying82
 have HB := Aside0.mk (Below.refl w.heap.size w)
 have H := h
 clear h
 unfold impl_IsSpan.f at H
 by_cases c2 : a0_0 ≥ 0
 ·rw [if_pos c2] at H
  have c2b0 : decide (0 ≤ a0_0) = true := decide_eq_true c2
  clear c2
  by_cases c3 : a0_1 ≤ 1000
  ·rw [if_pos c3] at H
   have c3b0 := decide_eq_true c3
   clear c3
   obtain rfl := Option.some.inj H
   go_enter Try.func99, Try.ntmps99
   go_wp2_with (first | ((with_reducible refine gd_ 1 ?_); refine bx_ 1 82 #[iv_ a0_0, iv_ a0_1] ?_; intro gb531 hg w4 hbox hb; refine sh3_ (below_step (bl_ HB) hb) hbox (ge_ hg (bl_ HB)) ?_; clear HB hb hbox hg; intro HB BK531 GE531; have hcz5 := cf2_ BK531))
   go_ret
   exact ⟨by first | (rw [hRT_.out]; rfl) | exact er_, bl1_ HB GE531⟩
  ·rw [if_neg c3] at H
   have c3b0 := decide_eq_false c3
   clear c3
   obtain rfl := Option.some.inj H
   go_enter Try.func99, Try.ntmps99
   go_wp2_with (first | ((with_reducible refine gd_ 1 ?_); refine bx_ 1 82 #[iv_ a0_0, iv_ a0_1] ?_; intro gb531 hg w6 hbox hb; refine sh3_ (below_step (bl_ HB) hb) hbox (ge_ hg (bl_ HB)) ?_; clear HB hb hbox hg; intro HB BK531 GE531; have hcz7 := cf2_ BK531))
   go_ret
   exact ⟨by first | (rw [hRT_.out]; rfl) | exact er_, bl1_ HB GE531⟩
 ·rw [if_neg c2] at H
  have c2b0 : decide (0 ≤ a0_0) = false := decide_eq_false c2
  clear c2
  obtain rfl := Option.some.inj H
  go_enter Try.func99, Try.ntmps99
  go_wp2_with (first | ((with_reducible refine gd_ 1 ?_); refine bx_ 1 82 #[iv_ a0_0, iv_ a0_1] ?_; intro gb531 hg w8 hbox hb; refine sh3_ (below_step (bl_ HB) hb) hbox (ge_ hg (bl_ HB)) ?_; clear HB hb hbox hg; intro HB BK531 GE531; have hcz9 := cf2_ BK531))
  go_ret
  exact ⟨by first | (rw [hRT_.out]; rfl) | exact er_, bl1_ HB GE531⟩

/-! ### impl_InSpan: function 63 -/
def impl_InSpan.f (a0_0 : Int) (a0_1 : Int) (a1 : Int) : Option (Bool) := (impl_IsSpan.f a0_0 a0_1).bind fun t533 => (if t533 = true then (if a0_0 ≤ a1 then (some (decide (a1 < a0_1))) else (some false)) else (some false))
set_option maxHeartbeats 8000000 in
set_option maxRecDepth 100000 in
theorem impl_InSpan.calls (a0_0 : Int) (a0_1 : Int) (a1 : Int) (r : Bool) (w : World) (h : impl_InSpan.f a0_0 a0_1 a1 = some r) :
  Calls Try.prog 63 #[.agg #[iv_ a0_0, iv_ a0_1], iv_ a1] w fun e w' => e = .returned (.bool r) ∧ Below w.heap.size w w' := by
 have hu82 := Try.underlying82
 have HB := Aside0.mk (Below.refl w.heap.size w)
 have H := h
 clear h
 unfold impl_InSpan.f at H
 replace H := bs_ H
 obtain ⟨t533, A3, H⟩ := H
 by_cases c4 : t533 = true
 ·subst c4
  rw [if_pos rfl] at H
  by_cases c5 : a0_0 ≤ a1
  ·rw [if_pos c5] at H
   have c5b0 := decide_eq_true c5
   clear c5
   obtain rfl := Option.some.inj H
   go_enter Try.func63, Try.ntmps63
   go_wp2_with (first | ((with_reducible refine gd_ 2 ?_); refine bx_ 2 82 #[iv_ a0_0, iv_ a0_1] ?_; intro gb532 hg w6 hbox hb; refine sh3_ (below_step (bl_ HB) hb) hbox (ge_ hg (bl_ HB)) ?_; clear HB hb hbox hg; intro HB BK532 GE532; have hcz7 := cf2_ BK532) | ((with_reducible refine gate_callee (f := 99) rfl ?_); refine gl_ 6 Try.func99 (impl_IsSpan.calls a0_0 a0_1 true _ A3.out) ?_; rintro e w8 ⟨rfl, hb⟩; refine ⟨_, rfl, sh2_ (blk_below (bk_ BK532) hb) (below_step (bl1_ HB GE532) hb) ?_⟩; clear BK532 HB hb; intro BK532 HB; have hcz9 := cf2_ BK532))
   go_ret
   exact ⟨by first | (rw [hRT_.out]; rfl) | exact er_, bl1_ HB GE532⟩
  ·rw [if_neg c5] at H
   have c5b0 := decide_eq_false c5
   clear c5
   obtain rfl := Option.some.inj H
   go_enter Try.func63, Try.ntmps63
   go_wp2_with (first | ((with_reducible refine gd_ 2 ?_); refine bx_ 2 82 #[iv_ a0_0, iv_ a0_1] ?_; intro gb532 hg w10 hbox hb; refine sh3_ (below_step (bl_ HB) hb) hbox (ge_ hg (bl_ HB)) ?_; clear HB hb hbox hg; intro HB BK532 GE532; have hcz11 := cf2_ BK532) | ((with_reducible refine gate_callee (f := 99) rfl ?_); refine gl_ 6 Try.func99 (impl_IsSpan.calls a0_0 a0_1 true _ A3.out) ?_; rintro e w12 ⟨rfl, hb⟩; refine ⟨_, rfl, sh2_ (blk_below (bk_ BK532) hb) (below_step (bl1_ HB GE532) hb) ?_⟩; clear BK532 HB hb; intro BK532 HB; have hcz13 := cf2_ BK532))
   go_ret
   exact ⟨by first | (rw [hRT_.out]; rfl) | exact er_, bl1_ HB GE532⟩
 ·replace c4 := Bool.eq_false_iff.mpr c4
  subst c4
  have H1 : (some false) = some r := by rw [if_neg (show ¬ (false = true) by decide)] at H; exact H
  clear H
  have H := H1
  clear H1
  obtain rfl := Option.some.inj H
  go_enter Try.func63, Try.ntmps63
  go_wp2_with (first | ((with_reducible refine gd_ 2 ?_); refine bx_ 2 82 #[iv_ a0_0, iv_ a0_1] ?_; intro gb532 hg w14 hbox hb; refine sh3_ (below_step (bl_ HB) hb) hbox (ge_ hg (bl_ HB)) ?_; clear HB hb hbox hg; intro HB BK532 GE532; have hcz15 := cf2_ BK532) | ((with_reducible refine gate_callee (f := 99) rfl ?_); refine gl_ 6 Try.func99 (impl_IsSpan.calls a0_0 a0_1 false _ A3.out) ?_; rintro e w16 ⟨rfl, hb⟩; refine ⟨_, rfl, sh2_ (blk_below (bk_ BK532) hb) (below_step (bl1_ HB GE532) hb) ?_⟩; clear BK532 HB hb; intro BK532 HB))
  go_ret
  exact ⟨by first | (rw [hRT_.out]; rfl) | exact er_, bl1_ HB GE532⟩

/-! ### impl_InSpans: function 17 -/
def impl_InSpans.l0 : Nat → Int → List (S82) → Int → Int → Option (Bool)
 | 0, _, _, _, _ => none
 | k + 1, x1, x7, x8, x9 => if x9 < x8 then (if 0 ≤ x9 then (if x9 < (x7.length : Int) then ((impl_InSpan.f ((rd_T82 x7 x9).f0) ((rd_T82 x7 x9).f1) x1).bind fun t536 => (if t536 = true then (some true) else (impl_InSpans.l0 k x1 x7 x8 (wrap64 (x9 + 1))))) else (none)) else (none)) else (some false)
def impl_InSpans.f (k : Nat) (l0 : List (S82)) (a1 : Int) : Option (Bool) := impl_InSpans.l0 k a1 l0 (l0.length : Int) 0
theorem impl_InSpans.mono_l : ∀ k, (∀ y0 y1 y2 y3, LeO (impl_InSpans.l0 k y0 y1 y2 y3) (impl_InSpans.l0 (k + 1) y0 y1 y2 y3))
 | 0 => fun _ _ _ _ r h => by simp [impl_InSpans.l0] at h
 | k + 1 => by
  have ih0 := impl_InSpans.mono_l k
  ·intro y0 y1 y2 y3
   unfold impl_InSpans.l0
   repeat' first | (with_reducible first | exact ih0 _ _ _ _ | exact LeO.refl _ | exact LeO.none _ | refine LeO.ite ?_ ?_ | refine LeO.bind ?_ (fun _ => ?_)) | exact LeO.none _ | refine LeO.ite ?_ ?_ | refine LeO.bind ?_ (fun _ => ?_)
theorem impl_InSpans.mono : ∀ a0 a1 k, LeO (impl_InSpans.f k a0 a1) (impl_InSpans.f (k + 1) a0 a1) := by
 intro a0 a1 k
 have ih0 := impl_InSpans.mono_l k
 unfold impl_InSpans.f
 repeat' first | (with_reducible first | exact ih0 _ _ _ _ | exact LeO.refl _ | exact LeO.none _ | refine LeO.ite ?_ ?_ | refine LeO.bind ?_ (fun _ => ?_)) | exact LeO.none _ | refine LeO.ite ?_ ?_ | refine LeO.bind ?_ (fun _ => ?_)
set_option maxHeartbeats 8000000 in
set_option maxRecDepth 100000 in
theorem impl_InSpans.calls (k : Nat) (A0 : Option Addr) (c0 : Nat) (l0 : List (S82)) (a1 : Int) (r : Bool) (w : World) (hr0 : Kd.C k82 w A0 l0.length l0) (hc0 : l0.length ≤ c0) (h : impl_InSpans.f k l0 a1 = some r) :
  Calls Try.prog 17 #[.slice A0 l0.length c0, iv_ a1] w fun e w' => e = .returned (.bool r) ∧ Below w.heap.size w w' := by
 have hu82 := Try.underlying82
 have HR0 := Aside0.mk hr0
 have HC0 := Aside0.mk hc0
 clear hr0 hc0
 have HB := Aside0.mk (Below.refl w.heap.size w)
 have H := h
 clear h
 unfold impl_InSpans.f at H
 have H' := Aside0.mk H
 clear H
 go_enter Try.func17, Try.ntmps17
 go_wp2
 go_loopg [9] k (fun kq v9 w' => ∃ (x9_1 : Int), v9 = iv_ x9_1 ∧ Aside0 (impl_InSpans.l0 kq a1 l0 (l0.length : Int) x9_1 = some r) ∧ Aside0 (kq ≤ k) ∧ Aside0 (Below w.heap.size w w'))
 case atStart => exact ⟨(0), (by first | rfl | (simp; done) | (simp [*]; done)), H', ⟨Nat.le_refl _⟩, ⟨bl_ HB⟩⟩
 case round =>
  clear H'
  obtain ⟨x9_1, rfl, HA, HK1, HB⟩ := hrel
  cases gk with
  | zero => exact absurd HA.out (by simp [impl_InSpans.l0])
  | succ k1 =>
   have H := HA.out
   clear HA
   simp only [impl_InSpans.l0] at H
   by_cases c3 : x9_1 < (l0.length : Int)
   ·rw [if_pos c3] at H
    have c3b0 := decide_eq_true c3
    clear c3
    replace H := ifn_ H
    obtain ⟨c4, H⟩ := H
    have c4b0 := decide_eq_true c4
    clear c4
    replace H := ifn_ H
    obtain ⟨c5, H⟩ := H
    have c5b0 := decide_eq_true c5
    clear c5
    replace H := bs_ H
    obtain ⟨t536, A6, H⟩ := H
    by_cases c7 : t536 = true
    ·subst c7
     rw [if_pos rfl] at H
     obtain rfl := Option.some.inj H
     have p534 : 0 ≤ (x9_1 : Int) := od_
     have q534 : x9_1 < (l0.length : Int) := od_
     obtain ⟨ad534, e534, hx534_0, hx534_1⟩ := at_T82 HR0.out x9_1 p534 q534
     cases e534
     replace hx534_0 := hbc_ HB hx534_0
     replace hx534_1 := hbc_ HB hx534_1
     replace p534 := eq_true p534
     replace q534 := eq_true q534
     go_wp2_with (first | ((with_reducible refine gd_ 6 ?_); refine bx_ 6 82 #[iv_ 0, iv_ 0] ?_; intro gb535 hg w8 hbox hb; refine sh3_ (below_step (bl_ HB) hb) hbox (ge_ hg (bl_ HB)) ?_; clear HB hb hbox hg; intro HB BK535 GE535; have hcz9 := cf2_ BK535) | ((with_reducible refine gate_callee (f := 63) rfl ?_); refine gl_ 15 Try.func63 (impl_InSpan.calls ((rd_T82 l0 x9_1).f0) ((rd_T82 l0 x9_1).f1) a1 true _ A6.out) ?_; rintro e w10 ⟨rfl, hb⟩; refine ⟨_, rfl, sh2_ (blk_below (g := gb535) (o := .cells #[iv_ ((rd_T82 l0 x9_1).f0), iv_ ((rd_T82 l0 x9_1).f1)] 82 (0, 0)) (bp_ BK535) hb) (below_step (bl1_ HB GE535) hb) ?_⟩; clear BK535 HB hb; intro BK535 HB))
     go_ret
     exact ⟨by first | (rw [hRT_.out]; rfl) | exact er_, bl1_ HB GE535⟩
    ·replace c7 := Bool.eq_false_iff.mpr c7
     subst c7
     have H1 : (impl_InSpans.l0 k1 a1 l0 (l0.length : Int) (wrap64 (x9_1 + 1))) = some r := by rw [if_neg (show ¬ (false = true) by decide)] at H; exact H
     clear H
     have H := H1
     clear H1
     have H' := Aside0.mk H
     clear H
     have p534 : 0 ≤ (x9_1 : Int) := od_
     have q534 : x9_1 < (l0.length : Int) := od_
     obtain ⟨ad534, e534, hx534_0, hx534_1⟩ := at_T82 HR0.out x9_1 p534 q534
     cases e534
     replace hx534_0 := hbc_ HB hx534_0
     replace hx534_1 := hbc_ HB hx534_1
     replace p534 := eq_true p534
     replace q534 := eq_true q534
     go_wp2_with (first | ((with_reducible refine gd_ 6 ?_); refine bx_ 6 82 #[iv_ 0, iv_ 0] ?_; intro gb535 hg w11 hbox hb; refine sh3_ (below_step (bl_ HB) hb) hbox (ge_ hg (bl_ HB)) ?_; clear HB hb hbox hg; intro HB BK535 GE535; have hcz12 := cf2_ BK535) | ((with_reducible refine gate_callee (f := 63) rfl ?_); refine gl_ 15 Try.func63 (impl_InSpan.calls ((rd_T82 l0 x9_1).f0) ((rd_T82 l0 x9_1).f1) a1 false _ A6.out) ?_; rintro e w13 ⟨rfl, hb⟩; refine ⟨_, rfl, sh2_ (blk_below (g := gb535) (o := .cells #[iv_ ((rd_T82 l0 x9_1).f0), iv_ ((rd_T82 l0 x9_1).f1)] 82 (0, 0)) (bp_ BK535) hb) (below_step (bl1_ HB GE535) hb) ?_⟩; clear BK535 HB hb; intro BK535 HB))
     go_roundg k1
     case measure => have := HK1.out; omega
     case rel => exact ⟨(wrap64 (x9_1 + 1)), (by first | rfl | (simp; done) | (simp [*]; done)), H', ⟨by have := HK1.out; omega⟩, ⟨bl1_ HB GE535⟩⟩
   ·rw [if_neg c3] at H
    have c3b0 := decide_eq_false c3
    clear c3
    obtain rfl := Option.some.inj H
    go_wp2
    go_ret
    exact ⟨by first | (rw [hRT_.out]; rfl) | exact er_, bl_ HB⟩

end Go.Proofs.Ytopbkdcicidajaa.PFnSight
