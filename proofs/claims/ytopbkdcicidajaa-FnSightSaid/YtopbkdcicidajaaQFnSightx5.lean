-- Written by a program of this session for this claim (the kit's printer with changes).
import Derived.Test.YtopbkdcicidajaaQFnSightx0
import Derived.Test.YtopbkdcicidajaaQFnSightx3
import Derived.Test.YtopbkdcicidajaaQFnSightx4
namespace Go.Proofs.Ytopbkdcicidajaa.PFnSight
open Go.RowKit Go.Proofs.YtopbkdcicidajaaW.PrintWords Go.Proofs.YtopbkdcicidajaaW.PrintLast Go.Proofs.YtopbkdcicidajaaW.PrintMore
attribute [local go_sem] max2_int min2_int max_two min_two max_three min_three max_four min_four   -- for this text's walks alone
set_option linter.unusedVariables false
set_option linter.unusedSimpArgs false

/-! ### impl_PlaceAt: function 57 -/
def impl_PlaceAt.f (a0_0 : Int) (a0_1 : Int) (a0_2 : Int) (a0_3 : Int) (a1 : Int) : Option (Int) := (impl_InRange.f a1 0 1000).bind fun t428 => (if t428 = true then ((impl_AngleOf.f a0_1).bind fun t429 => ((impl_speedOf.f a0_0 a0_1 a0_2 a0_3).bind fun t430 => ((impl_AngleOf.f (wrap64 (t429 + (wrap64 (t430 * a1))))).bind fun t431 => (some t431)))) else ((impl_AngleOf.f a0_1).bind fun t432 => ((impl_speedOf.f a0_0 a0_1 a0_2 a0_3).bind fun t433 => ((impl_AngleOf.f (wrap64 (t432))).bind fun t434 => (some t434)))))
def impl_PlaceAt.T3 : Bool × List (List Nat × List Nat) := (true, [([], []), ([0], [0]), ([1], [1]), ([], []), ([3, 2], [3]), ([], []), ([4, 5], [4, 5]), ([2, 6], [2, 6]), ([7, 4], [7]), ([8, 8, 0, 1, 2, 3, 4, 5, 6, 7, 8], [8])])
def impl_PlaceAt.B3 : List Nat := [0, 1, 3, 0, 15, 0, 63, 127, 255, 511]
theorem impl_PlaceAt.tab3 : rtab .any (opsOf Try.f57 3) = impl_PlaceAt.T3 := by kernel_rfl
theorem impl_PlaceAt.bits3 : waitsOk impl_PlaceAt.T3.2 impl_PlaceAt.B3 = true := by kernel_rfl
set_option maxHeartbeats 8000000 in
set_option maxRecDepth 100000 in
theorem impl_PlaceAt.calls (a0_0 : Int) (a0_1 : Int) (a0_2 : Int) (a0_3 : Int) (a1 : Int) (r : Int) (w : World) (h : impl_PlaceAt.f a0_0 a0_1 a0_2 a0_3 a1 = some r) :
  Calls Try.prog 57 #[.agg #[iv_ a0_0, iv_ a0_1, iv_ a0_2, iv_ a0_3], iv_ a1] w fun e w' => e = .returned (iv_ r) ∧ Below w.heap.size w w' := by
 have hu72 := Try.underlying72
 have HB := Aside0.mk (Below.refl w.heap.size w)
 have H := h
 clear h
 unfold impl_PlaceAt.f at H
 replace H := bs_ H
 obtain ⟨t428, A3, H⟩ := H
 by_cases c4 : t428 = true
 ·subst c4
  rw [if_pos rfl] at H
  replace H := bs_ H
  obtain ⟨t429, A5, H⟩ := H
  replace H := bs_ H
  obtain ⟨t430, A6, H⟩ := H
  replace H := bs_ H
  obtain ⟨t431, A7, H⟩ := H
  obtain rfl := Option.some.inj H
  go_enter Try.func57, Try.ntmps57
  try go_wp2_with (first | ((with_reducible refine gd_ 2 ?_); refine bx_ 2 72 #[iv_ a0_0, iv_ a0_1, iv_ a0_2, iv_ a0_3] ?_; intro gb427 hg w8 hbox hb; refine sh3_ (below_step (bl_ HB) hb) hbox (ge_ hg (bl_ HB)) ?_; clear HB hb hbox hg; intro HB BK427 GE427) | ((with_reducible refine gate_callee (f := 93) rfl ?_); refine gl_ 6 Try.func93 (impl_InRange.calls a1 0 1000 true _ A3.out) ?_; rintro e w' ⟨rfl, ⟨nd, rfl⟩⟩; refine ⟨_, rfl, ?_⟩))
  (try (rw [drewN_self w8]; generalize hq_ : World.drewN w8 _ = w8; have n0_ : Aside0 (w8.heap[gb427]? = some (.cells #[iv_ a0_0, iv_ a0_1, iv_ a0_2, iv_ a0_3] 72 (0, 0))) := ⟨by rw [← hq_]; exact (bk_ BK427)⟩; have n1_ : Aside0 (Below w.heap.size w w8) := ⟨by rw [← hq_]; exact (bl1_ HB GE427)⟩; clear BK427 HB hq_; have BK427 := n0_; have HB := n1_; clear n0_ n1_))
  refine sh2_ (blk_drew BK427.out) (below_drew1 HB.out) ?_
  clear BK427 HB
  intro BK427 HB
  refine start_ (n := 10) (S := fun w' => Cz4 w' gb427 (iv_ a0_0) (iv_ a0_1) (iv_ a0_2) (iv_ a0_3)) (ds := []) (bo_ 10 0) (by kernel_rfl) rfl rfl (cz4_ BK427) (fun hHeld => ?_); refine with_tabW impl_PlaceAt.tab3 impl_PlaceAt.bits3 (fun HT_ HW_ => ?_)
  generalize w8.drew = w9 at BK427 HB hHeld ⊢
  refine pur_ 0 (bo_ 10 1) (some 8) HT_ ?_
  refine pur_ 5 (bo_ 10 33) (some 13) HT_ ?_
  refine tak_ 1 (bo_ 10 35) (some 9) HT_ HW_ hHeld ?_
  refine tak_ 3 (bo_ 10 43) (some 11) HT_ HW_ hHeld ?_
  refine onc_ 2 (bo_ 10 47) (some 10) HT_ Try.func58 (impl_AngleOf.calls a0_1 t429 _ A5.out) ?_
  rintro e w' ⟨rfl, ⟨nd, rfl⟩⟩
  refine ⟨_, _, rfl, (cz4_ BK427), pt_, fun hHeld => ?_⟩
  refine onc_ 4 (bo_ 10 63) (some 12) HT_ Try.func95 (impl_speedOf.calls a0_0 a0_1 a0_2 a0_3 t430 _ A6.out) ?_
  rintro e w10 ⟨rfl, hb⟩
  refine sh2_ (blk_below (bk_ BK427) hb) (below_step (bl1_ HB GE427) hb) ?_
  clear BK427 HB hb
  intro BK427 HB
  refine ⟨_, _, rfl, (cz4_ BK427), pt_, fun hHeld => ?_⟩
  refine pur_ 6 (bo_ 10 127) (some 14) HT_ ?_
  refine pur_ 7 (bo_ 10 255) (some 15) HT_ ?_
  refine onc_ 8 (bo_ 10 511) (some 16) HT_ Try.func58 (impl_AngleOf.calls (wrap64 (t429 + (wrap64 (t430 * a1)))) t431 _ A7.out) ?_
  rintro e w' ⟨rfl, ⟨nd, rfl⟩⟩
  refine ⟨_, _, rfl, (cz4_ BK427), pt_, fun hHeld => ?_⟩
  refine pur_ 9 (bo_ 10 1023) (some 4) HT_ ?_
  refine done_ (done_of HT_.out (by kernel_rfl)) ?_
  try go_wp2
  go_ret
  exact ⟨by first | (rw [hRT_.out]; rfl) | exact er_, bl1_ HB GE427⟩
 ·replace c4 := Bool.eq_false_iff.mpr c4
  subst c4
  have H1 : ((impl_AngleOf.f a0_1).bind fun t432 => ((impl_speedOf.f a0_0 a0_1 a0_2 a0_3).bind fun t433 => ((impl_AngleOf.f (wrap64 (t432))).bind fun t434 => (some t434)))) = some r := by rw [if_neg (show ¬ (false = true) by decide)] at H; exact H
  clear H
  have H := H1
  clear H1
  replace H := bs_ H
  obtain ⟨t432, A11, H⟩ := H
  replace H := bs_ H
  obtain ⟨t433, A12, H⟩ := H
  replace H := bs_ H
  obtain ⟨t434, A13, H⟩ := H
  obtain rfl := Option.some.inj H
  go_enter Try.func57, Try.ntmps57
  try go_wp2_with (first | ((with_reducible refine gd_ 2 ?_); refine bx_ 2 72 #[iv_ a0_0, iv_ a0_1, iv_ a0_2, iv_ a0_3] ?_; intro gb427 hg w14 hbox hb; refine sh3_ (below_step (bl_ HB) hb) hbox (ge_ hg (bl_ HB)) ?_; clear HB hb hbox hg; intro HB BK427 GE427) | ((with_reducible refine gate_callee (f := 93) rfl ?_); refine gl_ 6 Try.func93 (impl_InRange.calls a1 0 1000 false _ A3.out) ?_; rintro e w' ⟨rfl, ⟨nd, rfl⟩⟩; refine ⟨_, rfl, ?_⟩))
  (try (rw [drewN_self w14]; generalize hq_ : World.drewN w14 _ = w14; have n0_ : Aside0 (w14.heap[gb427]? = some (.cells #[iv_ a0_0, iv_ a0_1, iv_ a0_2, iv_ a0_3] 72 (0, 0))) := ⟨by rw [← hq_]; exact (bk_ BK427)⟩; have n1_ : Aside0 (Below w.heap.size w w14) := ⟨by rw [← hq_]; exact (bl1_ HB GE427)⟩; clear BK427 HB hq_; have BK427 := n0_; have HB := n1_; clear n0_ n1_))
  refine sh2_ (blk_drew BK427.out) (below_drew1 HB.out) ?_
  clear BK427 HB
  intro BK427 HB
  refine start_ (n := 10) (S := fun w' => Cz4 w' gb427 (iv_ a0_0) (iv_ a0_1) (iv_ a0_2) (iv_ a0_3)) (ds := []) (bo_ 10 0) (by kernel_rfl) rfl rfl (cz4_ BK427) (fun hHeld => ?_); refine with_tabW impl_PlaceAt.tab3 impl_PlaceAt.bits3 (fun HT_ HW_ => ?_)
  generalize w14.drew = w15 at BK427 HB hHeld ⊢
  refine pur_ 0 (bo_ 10 1) (some 8) HT_ ?_
  refine pur_ 5 (bo_ 10 33) (some 13) HT_ ?_
  refine tak_ 1 (bo_ 10 35) (some 9) HT_ HW_ hHeld ?_
  refine tak_ 3 (bo_ 10 43) (some 11) HT_ HW_ hHeld ?_
  refine onc_ 2 (bo_ 10 47) (some 10) HT_ Try.func58 (impl_AngleOf.calls a0_1 t432 _ A11.out) ?_
  rintro e w' ⟨rfl, ⟨nd, rfl⟩⟩
  refine ⟨_, _, rfl, (cz4_ BK427), pt_, fun hHeld => ?_⟩
  refine onc_ 4 (bo_ 10 63) (some 12) HT_ Try.func95 (impl_speedOf.calls a0_0 a0_1 a0_2 a0_3 t433 _ A12.out) ?_
  rintro e w16 ⟨rfl, hb⟩
  refine sh2_ (blk_below (bk_ BK427) hb) (below_step (bl1_ HB GE427) hb) ?_
  clear BK427 HB hb
  intro BK427 HB
  refine ⟨_, _, rfl, (cz4_ BK427), pt_, fun hHeld => ?_⟩
  refine pur_ 6 (bo_ 10 127) (some 14) HT_ ?_
  refine pur_ 7 (bo_ 10 255) (some 15) HT_ ?_
  refine one_ (i := 8) (N := some 16) (bo_ 10 511) rfl rfl (one_of HT_.out (by kernel_rfl)) (by decide) (fun K hK => ?_)
  refine goes_ Try.func58 (by kernel_rfl) rfl #[iv_ (wrap64 (t432))] (by rfl) rfl rfl (by (try simp only [List.map_toArray, List.map_cons, List.map_nil]); first | done | rfl | (exact congrArg (fun z_ => #[Value.int IntKind.i64 (wrap64 z_)]) (show t432 + wrap64 0 = t432 by (have h_ : wrap64 0 = 0 := (by (unfold wrap64; omega)); omega)))) ?_
  with_reducible refine (impl_AngleOf.calls (wrap64 (t432)) t434 _ A13.out).mono ?_
  rintro e w' ⟨rfl, ⟨nd, rfl⟩⟩
  refine ⟨_, rfl, ?_⟩
  refine hK.out _ _ (cz4_ BK427) (fun hHeld => ?_)
  clear hK K
  refine norm_ (show Act.put _ (some 16) _ = _ from pt_) ?_
  refine pur_ 9 (bo_ 10 1023) (some 4) HT_ ?_
  refine done_ (done_of HT_.out (by kernel_rfl)) ?_
  try go_wp2
  go_ret
  exact ⟨by first | (rw [hRT_.out]; rfl) | exact er_, bl1_ HB GE427⟩

/-! ### impl_isWidth: function 92 -/
def impl_isWidth.f (a0 : Int) : Option (Bool) := (impl_InRange.f a0 0 359).bind fun t435 => (some t435)
set_option maxHeartbeats 8000000 in
set_option maxRecDepth 100000 in
theorem impl_isWidth.calls (a0 : Int) (r : Bool) (w : World) (h : impl_isWidth.f a0 = some r) :
  Calls Try.prog 92 #[iv_ a0] w fun e w' => e = .returned (.bool r) ∧ Drawn0 w w' := by
 have H := h
 clear h
 unfold impl_isWidth.f at H
 replace H := bs_ H
 obtain ⟨t435, A2, H⟩ := H
 obtain rfl := Option.some.inj H
 go_enter Try.func92, Try.ntmps92
 go_wp2_with (first | ((with_reducible refine gate_callee (f := 93) rfl ?_); refine gl_ 4 Try.func93 (impl_InRange.calls a0 0 359 t435 _ A2.out) ?_; rintro e w' ⟨rfl, ⟨nd, rfl⟩⟩; refine ⟨_, rfl, ?_⟩))
 go_ret
 exact ⟨by first | rfl | (simp; done) | (simp [*]; done), by repeat (first | exact Drawn0.refl _ | apply Drawn0.step)⟩

/-! ### impl_WidenArc: function 94 -/
def impl_WidenArc.f (a0_0 : Int) (a0_1 : Int) (a1 : Int) : Option (Int × Int) := (impl_AngleOf.f a0_0).bind fun t438 => ((impl_InRange.f a1 0 360).bind fun t439 => (if t439 = true then ((impl_isWidth.f a0_1).bind fun t440 => (if t440 = true then ((impl_AngleOf.f (wrap64 (t438 - a1))).bind fun t441 => (some (t441, mn (wrap64 (a0_1 + (wrap64 (2 * a1)))) 359))) else (some (t438, a0_1)))) else (some (t438, a0_1))))
def impl_WidenArc.T4 : Bool × List (List Nat × List Nat) := (true, [([], []), ([0], [0]), ([], []), ([1, 2], [1, 2]), ([3], [3]), ([], []), ([5], [5]), ([], []), ([7], [7]), ([6, 8], [6, 8]), ([9], [9]), ([4, 10], [4, 10]), ([11, 4, 0, 1, 2, 3, 4, 5, 6, 7, 8, 9, 10, 11], [11])])
def impl_WidenArc.B4 : List Nat := [0, 1, 0, 7, 15, 0, 32, 0, 128, 480, 992, 2047, 4095]
theorem impl_WidenArc.tab4 : rtab .any (opsOf Try.f94 4) = impl_WidenArc.T4 := by kernel_rfl
theorem impl_WidenArc.bits4 : waitsOk impl_WidenArc.T4.2 impl_WidenArc.B4 = true := by kernel_rfl
set_option maxHeartbeats 8000000 in
set_option maxRecDepth 100000 in
theorem impl_WidenArc.calls (a0_0 : Int) (a0_1 : Int) (a1 : Int) (r1 : Int) (r2 : Int) (w : World) (h : impl_WidenArc.f a0_0 a0_1 a1 = some (r1, r2)) :
  Calls Try.prog 94 #[.agg #[iv_ a0_0, iv_ a0_1], iv_ a1] w fun e w' => e = .returned (.agg #[iv_ r1, iv_ r2]) ∧ Below w.heap.size w w' := by
 have hu35 := Try.underlying35
 have HB := Aside0.mk (Below.refl w.heap.size w)
 have H := h
 clear h
 unfold impl_WidenArc.f at H
 replace H := bs_ H
 obtain ⟨t438, A3, H⟩ := H
 replace H := bs_ H
 obtain ⟨t439, A4, H⟩ := H
 by_cases c5 : t439 = true
 ·subst c5
  have H1 : ((impl_isWidth.f a0_1).bind fun t440 => (if t440 = true then ((impl_AngleOf.f (wrap64 (t438 - a1))).bind fun t441 => (some (t441, mn (wrap64 (a0_1 + (wrap64 (2 * a1)))) 359))) else (some (t438, a0_1)))) = some (r1, r2) := by rw [if_pos rfl] at H; exact H
  clear H
  have H := H1
  clear H1
  replace H := bs_ H
  obtain ⟨t440, A6, H⟩ := H
  by_cases c7 : t440 = true
  ·subst c7
   have H1 : ((impl_AngleOf.f (wrap64 (t438 - a1))).bind fun t441 => (some (t441, mn (wrap64 (a0_1 + (wrap64 (2 * a1)))) 359))) = some (r1, r2) := by rw [if_pos rfl] at H; exact H
   clear H
   have H := H1
   clear H1
   replace H := bs_ H
   obtain ⟨t441, A8, H⟩ := H
   obtain ⟨ji9, hji9⟩ : ∃ j_ : Int, (mn (wrap64 (a0_1 + (wrap64 (2 * a1)))) 359) = j_ := ⟨_, rfl⟩
   replace H : (some (t441, ji9)) = some (r1, r2) := by first | (rw [hji9] at H; exact H) | (simp only [hji9] at H ⊢; exact H)
   (try rw [hji9] at A3)
   (try rw [hji9] at A4)
   (try rw [hji9] at A6)
   (try rw [hji9] at A8)
   (try (have hji9h : ji9 ≤ 359 := by (rw [← hji9]; unfold mn; (repeat' split) <;> omega)))
   (try (have hji9g : ji9 ≤ 64 := by omega))
   have hji9_ : (if 359 < (wrap64 (a0_1 + (wrap64 (2 * a1)))) then 359 else (wrap64 (a0_1 + (wrap64 (2 * a1))))) = ji9 := hji9
   simp only [Option.some.injEq, Prod.mk.injEq] at H
   obtain ⟨rfl, rfl⟩ := H
   go_enter Try.func94, Try.ntmps94
   try go_wp2_with (first | ((with_reducible refine gd_ 2 ?_); refine bx_ 2 35 #[iv_ a0_0, iv_ a0_1] ?_; intro gb436 hg w10 hbox hb; refine sh3_ (below_step (bl_ HB) hb) hbox (ge_ hg (bl_ HB)) ?_; clear HB hb hbox hg; intro HB BK436 GE436) | ((with_reducible refine gd_ 4 ?_); refine bx_ 4 35 #[iv_ 0, iv_ 0] ?_; intro gb437 hg w11 hbox hb; refine sh6_ (blk_below (bk_ BK436) hb) (below_step (bl1_ HB GE436) hb) hbox (ge_ hg (bl1_ HB GE436)) (nl_ hg (bk_ BK436)) (ng_ hg (bk_ BK436)) ?_; clear BK436 HB hb hbox hg; intro BK436 HB BK437 GE437 NB436_437 NB437_436; have hnb12 := NB436_437.out; have hnc12 := NB437_436.out; have hcz13 := cf2_ BK436) | ((with_reducible refine gate_callee (f := 58) rfl ?_); refine gl_ 7 Try.func58 (impl_AngleOf.calls a0_0 t438 _ A3.out) ?_; rintro e w' ⟨rfl, ⟨nd, rfl⟩⟩; refine ⟨_, rfl, ?_⟩; (try (rw [drewN_self w11]; generalize hq_ : World.drewN w11 _ = w11; have n0_ : Aside0 (w11.heap[gb436]? = some (.cells #[iv_ a0_0, iv_ a0_1] 35 (0, 0))) := ⟨by rw [← hq_]; exact (bk_ BK436)⟩; have n1_ : Aside0 (w11.heap[gb437]? = some (.cells #[iv_ 0, iv_ 0] 35 (0, 0))) := ⟨by rw [← hq_]; exact (bk_ BK437)⟩; have n2_ : Aside0 (Below w.heap.size w w11) := ⟨by rw [← hq_]; exact (bl2_ HB GE436 GE437)⟩; clear BK436 BK437 HB hq_; have BK436 := n0_; have BK437 := n1_; have HB := n2_; clear n0_ n1_ n2_)); have hcz14 := cf2_ BK436) | ((with_reducible refine gate_callee (f := 93) rfl ?_); refine gl_ 10 Try.func93 (impl_InRange.calls a1 0 360 true _ A4.out) ?_; rintro e w' ⟨rfl, ⟨nd, rfl⟩⟩; refine ⟨_, rfl, ?_⟩) | (go_at_call 92; (with_reducible refine (impl_isWidth.calls a0_1 true _ A6.out).mono ?_); rintro e w' ⟨rfl, ⟨nd, rfl⟩⟩))
   have n0_ : Aside0 ((w11.setCell ⟨gb436, 0, none⟩ (iv_ t438)).heap[gb436]? = some (.cells #[iv_ t438, iv_ a0_1] 35 (0, 0))) := ⟨by (with_reducible repeat (first | refine blk_drewN ?_ _ | refine blk_drew ?_ | refine blk_alloc ?_ _)); refine blk_put (cs := #[iv_ a0_0, iv_ a0_1]) ?_ 0 _ rfl; (with_reducible repeat (first | refine blk_drewN ?_ _ | refine blk_drew ?_ | refine blk_alloc ?_ _)); exact BK436.out⟩
   have n1_ : Aside0 ((w11.setCell ⟨gb436, 0, none⟩ (iv_ t438)).heap[gb437]? = some (.cells #[iv_ 0, iv_ 0] 35 (0, 0))) := ⟨by (with_reducible repeat (first | refine blk_drewN ?_ _ | refine blk_drew ?_ | refine blk_alloc ?_ _)); refine blk_far ?_ NB437_436.out _; (with_reducible repeat (first | refine blk_drewN ?_ _ | refine blk_drew ?_ | refine blk_alloc ?_ _)); exact BK437.out⟩
   have n2_ : Aside0 (Below w.heap.size w (w11.setCell ⟨gb436, 0, none⟩ (iv_ t438))) := ⟨bl2_ HB GE436 GE437⟩
   (try clear BK436)
   (try clear BK437)
   (try clear HB)
   generalize (w11.setCell ⟨gb436, 0, none⟩ (iv_ t438)) = w15 at n0_ n1_ n2_ ⊢
   have BK436 := n0_
   have BK437 := n1_
   have HB := n2_
   clear n0_ n1_ n2_
   (try (rw [drewN_self w15]; generalize hq_ : World.drewN w15 _ = w15; have n0_ : Aside0 (w15.heap[gb436]? = some (.cells #[iv_ t438, iv_ a0_1] 35 (0, 0))) := ⟨by rw [← hq_]; exact (bk_ BK436)⟩; have n1_ : Aside0 (w15.heap[gb437]? = some (.cells #[iv_ 0, iv_ 0] 35 (0, 0))) := ⟨by rw [← hq_]; exact (bk_ BK437)⟩; have n2_ : Aside0 (Below w.heap.size w w15) := ⟨by rw [← hq_]; exact (bl2_ HB GE436 GE437)⟩; clear BK436 BK437 HB hq_; have BK436 := n0_; have BK437 := n1_; have HB := n2_; clear n0_ n1_ n2_))
   refine sh3_ (blk_drew BK436.out) (blk_drew BK437.out) (below_drew1 HB.out) ?_
   clear BK436 BK437 HB
   intro BK436 BK437 HB
   refine start_ (n := 13) (S := fun w' => Cz2 w' gb436 (iv_ t438) (iv_ a0_1)) (ds := []) (bo_ 13 0) (by kernel_rfl) rfl rfl (cz2_ BK436) (fun hHeld => ?_); refine with_tabW impl_WidenArc.tab4 impl_WidenArc.bits4 (fun HT_ HW_ => ?_)
   generalize w15.drew = w16 at BK436 BK437 HB hHeld ⊢
   refine pur_ 0 (bo_ 13 1) (some 19) HT_ ?_
   refine pur_ 2 (bo_ 13 5) (some 21) HT_ ?_
   refine pur_ 5 (bo_ 13 37) (some 24) HT_ ?_
   refine pur_ 7 (bo_ 13 165) (some 26) HT_ ?_
   refine pur_ 8 (bo_ 13 421) (some 27) HT_ ?_
   refine tak_ 1 (bo_ 13 423) (some 20) HT_ HW_ hHeld ?_
   refine pur_ 3 (bo_ 13 431) (some 22) HT_ ?_
   refine tak_ 6 (bo_ 13 495) (some 25) HT_ HW_ hHeld ?_
   refine pur_ 9 (bo_ 13 1007) (some 28) HT_ ?_
   refine pur_ 10 (bo_ 13 2031) (some 29) HT_ ?_
   refine onc_ 4 (bo_ 13 2047) (some 23) HT_ Try.func58 (impl_AngleOf.calls (wrap64 (t438 - a1)) t441 _ A8.out) ?_
   rintro e w' ⟨rfl, ⟨nd, rfl⟩⟩
   refine ⟨_, _, rfl, (cz2_ BK436), pt_, fun hHeld => ?_⟩
   refine pur_ 11 (bo_ 13 4095) (some 30) HT_ ?_
   refine one_ (i := 12) (N := none) (bo_ 13 8191) rfl rfl (one_of HT_.out (by kernel_rfl)) (by decide) (fun K hK => ?_)
   have hs17 : w16.cell? ⟨gb437, 0, none⟩ = some (iv_ 0) := bc_ BK437 0 rfl
   have hfs17 := bf_ BK437 0
   have hns17_0 := NB436_437.out
   have hms17_0 := NB437_436.out
   have hs18 : w16.cell? ⟨gb437, 1, none⟩ = some (iv_ 0) := bc_ BK437 1 rfl
   have hfs18 := bf_ BK437 1
   have hns18_0 := NB436_437.out
   have hms18_0 := NB437_436.out
   refine skip_ (w1 := ?_) (by rfl) rfl ?_ ?_
   rotate_left
   ·go_simp
    rfl
   refine hK.out _ _ ⟨((cell_far (p := ⟨gb437, _, none⟩) NB436_437.out _).trans (((cell_far (p := ⟨gb437, _, none⟩) NB436_437.out _).trans (hHeld.1)))), ((cell_far (p := ⟨gb437, _, none⟩) NB436_437.out _).trans (((cell_far (p := ⟨gb437, _, none⟩) NB436_437.out _).trans (hHeld.2))))⟩ (fun hHeld => ?_)
   clear hK K
   refine done_ (done_of HT_.out (by kernel_rfl)) ?_
   try go_wp2
   refine bodyPost_ret (results_cell_row rfl _ _ gb437 35 #[iv_ t441, iv_ ji9] (0, 0) _ rfl (bp_ BK437) Try.underlying35 rfl (by kernel_rfl)) rfl ?_
   exact ⟨by first | rfl | (rw [hRT_.out]; rfl) | (simp [errW_none, errW_some] <;> rfl) | (simp only [← hji9]; first | rfl | (simp [errW_none, errW_some] <;> rfl)) | (simp [*, errW_none, errW_some] <;> rfl), bl2_ HB GE436 GE437⟩
  ·replace c7 := Bool.eq_false_iff.mpr c7
   subst c7
   have H1 : (some (t438, a0_1)) = some (r1, r2) := by rw [if_neg (show ¬ (false = true) by decide)] at H; exact H
   clear H
   have H := H1
   clear H1
   simp only [Option.some.injEq, Prod.mk.injEq] at H
   obtain ⟨rfl, rfl⟩ := H
   go_enter Try.func94, Try.ntmps94
   go_wp2_with (first | ((with_reducible refine gd_ 2 ?_); refine bx_ 2 35 #[iv_ a0_0, iv_ a0_1] ?_; intro gb436 hg w19 hbox hb; refine sh3_ (below_step (bl_ HB) hb) hbox (ge_ hg (bl_ HB)) ?_; clear HB hb hbox hg; intro HB BK436 GE436) | ((with_reducible refine gd_ 4 ?_); refine bx_ 4 35 #[iv_ 0, iv_ 0] ?_; intro gb437 hg w20 hbox hb; refine sh6_ (blk_below (bk_ BK436) hb) (below_step (bl1_ HB GE436) hb) hbox (ge_ hg (bl1_ HB GE436)) (nl_ hg (bk_ BK436)) (ng_ hg (bk_ BK436)) ?_; clear BK436 HB hb hbox hg; intro BK436 HB BK437 GE437 NB436_437 NB437_436; have hnb21 := NB436_437.out; have hnc21 := NB437_436.out; have hcz22 := cf2_ BK436) | ((with_reducible refine gate_callee (f := 58) rfl ?_); refine gl_ 7 Try.func58 (impl_AngleOf.calls a0_0 t438 _ A3.out) ?_; rintro e w' ⟨rfl, ⟨nd, rfl⟩⟩; refine ⟨_, rfl, ?_⟩; (try (rw [drewN_self w20]; generalize hq_ : World.drewN w20 _ = w20; have n0_ : Aside0 (w20.heap[gb436]? = some (.cells #[iv_ a0_0, iv_ a0_1] 35 (0, 0))) := ⟨by rw [← hq_]; exact (bk_ BK436)⟩; have n1_ : Aside0 (w20.heap[gb437]? = some (.cells #[iv_ 0, iv_ 0] 35 (0, 0))) := ⟨by rw [← hq_]; exact (bk_ BK437)⟩; have n2_ : Aside0 (Below w.heap.size w w20) := ⟨by rw [← hq_]; exact (bl2_ HB GE436 GE437)⟩; clear BK436 BK437 HB hq_; have BK436 := n0_; have BK437 := n1_; have HB := n2_; clear n0_ n1_ n2_)); have hcz23 := cf2_ BK436) | ((with_reducible refine gate_callee (f := 93) rfl ?_); refine gl_ 10 Try.func93 (impl_InRange.calls a1 0 360 true _ A4.out) ?_; rintro e w' ⟨rfl, ⟨nd, rfl⟩⟩; refine ⟨_, rfl, ?_⟩) | (go_at_call 92; (with_reducible refine (impl_isWidth.calls a0_1 false _ A6.out).mono ?_); rintro e w' ⟨rfl, ⟨nd, rfl⟩⟩; have hcz24 := cf2_ BK437))
   refine bodyPost_ret (results_cell_row rfl _ _ gb437 35 #[iv_ t438, iv_ a0_1] (0, 0) _ rfl (bp_ BK437) Try.underlying35 rfl (by kernel_rfl)) rfl ?_
   exact ⟨by first | (rw [hRT_.out]; rfl) | exact er_, bl2_ HB GE436 GE437⟩
 ·replace c5 := Bool.eq_false_iff.mpr c5
  subst c5
  have H1 : (some (t438, a0_1)) = some (r1, r2) := by rw [if_neg (show ¬ (false = true) by decide)] at H; exact H
  clear H
  have H := H1
  clear H1
  simp only [Option.some.injEq, Prod.mk.injEq] at H
  obtain ⟨rfl, rfl⟩ := H
  go_enter Try.func94, Try.ntmps94
  go_wp2_with (first | ((with_reducible refine gd_ 2 ?_); refine bx_ 2 35 #[iv_ a0_0, iv_ a0_1] ?_; intro gb436 hg w25 hbox hb; refine sh3_ (below_step (bl_ HB) hb) hbox (ge_ hg (bl_ HB)) ?_; clear HB hb hbox hg; intro HB BK436 GE436) | ((with_reducible refine gd_ 4 ?_); refine bx_ 4 35 #[iv_ 0, iv_ 0] ?_; intro gb437 hg w26 hbox hb; refine sh6_ (blk_below (bk_ BK436) hb) (below_step (bl1_ HB GE436) hb) hbox (ge_ hg (bl1_ HB GE436)) (nl_ hg (bk_ BK436)) (ng_ hg (bk_ BK436)) ?_; clear BK436 HB hb hbox hg; intro BK436 HB BK437 GE437 NB436_437 NB437_436; have hnb27 := NB436_437.out; have hnc27 := NB437_436.out; have hcz28 := cf2_ BK436) | ((with_reducible refine gate_callee (f := 58) rfl ?_); refine gl_ 7 Try.func58 (impl_AngleOf.calls a0_0 t438 _ A3.out) ?_; rintro e w' ⟨rfl, ⟨nd, rfl⟩⟩; refine ⟨_, rfl, ?_⟩; (try (rw [drewN_self w26]; generalize hq_ : World.drewN w26 _ = w26; have n0_ : Aside0 (w26.heap[gb436]? = some (.cells #[iv_ a0_0, iv_ a0_1] 35 (0, 0))) := ⟨by rw [← hq_]; exact (bk_ BK436)⟩; have n1_ : Aside0 (w26.heap[gb437]? = some (.cells #[iv_ 0, iv_ 0] 35 (0, 0))) := ⟨by rw [← hq_]; exact (bk_ BK437)⟩; have n2_ : Aside0 (Below w.heap.size w w26) := ⟨by rw [← hq_]; exact (bl2_ HB GE436 GE437)⟩; clear BK436 BK437 HB hq_; have BK436 := n0_; have BK437 := n1_; have HB := n2_; clear n0_ n1_ n2_)); have hcz29 := cf2_ BK436) | ((with_reducible refine gate_callee (f := 93) rfl ?_); refine gl_ 10 Try.func93 (impl_InRange.calls a1 0 360 false _ A4.out) ?_; rintro e w' ⟨rfl, ⟨nd, rfl⟩⟩; refine ⟨_, rfl, ?_⟩; have hcz30 := cf2_ BK437))
  refine bodyPost_ret (results_cell_row rfl _ _ gb437 35 #[iv_ t438, iv_ a0_1] (0, 0) _ rfl (bp_ BK437) Try.underlying35 rfl (by kernel_rfl)) rfl ?_
  exact ⟨by first | (rw [hRT_.out]; rfl) | exact er_, bl2_ HB GE436 GE437⟩

/-! ### impl_PlacesAt: function 56 -/
def impl_PlacesAt.f (a0_0 : Int) (a0_1 : Int) (a0_2 : Int) (a0_3 : Int) (a1 : Int) : Option (Int × Int) := (impl_PlaceAt.f a0_0 a0_1 a0_2 a0_3 a1).bind fun t444 => ((impl_WidenArc.f t444 0 a0_3).bind fun bt445 => (some (bt445.1, bt445.2)))
def impl_PlacesAt.T1 : Bool × List (List Nat × List Nat) := (true, [([], []), ([], []), ([0, 1], [0, 1]), ([2], [2]), ([], []), ([4], [4]), ([3, 5, 2], [3, 5]), ([6, 6, 0, 1, 2, 3, 4, 5, 6], [6])])
def impl_PlacesAt.B1 : List Nat := [0, 0, 3, 7, 0, 16, 63, 127]
theorem impl_PlacesAt.tab1 : rtab .any (opsOf Try.f56 1) = impl_PlacesAt.T1 := by kernel_rfl
theorem impl_PlacesAt.bits1 : waitsOk impl_PlacesAt.T1.2 impl_PlacesAt.B1 = true := by kernel_rfl
set_option maxHeartbeats 8000000 in
set_option maxRecDepth 100000 in
theorem impl_PlacesAt.calls (a0_0 : Int) (a0_1 : Int) (a0_2 : Int) (a0_3 : Int) (a1 : Int) (r1 : Int) (r2 : Int) (w : World) (h : impl_PlacesAt.f a0_0 a0_1 a0_2 a0_3 a1 = some (r1, r2)) :
  Calls Try.prog 56 #[.agg #[iv_ a0_0, iv_ a0_1, iv_ a0_2, iv_ a0_3], iv_ a1] w fun e w' => e = .returned (.agg #[iv_ r1, iv_ r2]) ∧ Below w.heap.size w w' := by
 have hu72 := Try.underlying72
 have hu35 := Try.underlying35
 have HB := Aside0.mk (Below.refl w.heap.size w)
 have H := h
 clear h
 unfold impl_PlacesAt.f at H
 replace H := bs_ H
 obtain ⟨t444, A3, H⟩ := H
 replace H := bs_ H
 obtain ⟨⟨t445, t446⟩, A4, H⟩ := H
 dsimp only at H
 simp only [Option.some.injEq, Prod.mk.injEq] at H
 obtain ⟨rfl, rfl⟩ := H
 go_enter Try.func56, Try.ntmps56
 try go_wp2_with (first | ((with_reducible refine gd_ 2 ?_); refine bx_ 2 72 #[iv_ a0_0, iv_ a0_1, iv_ a0_2, iv_ a0_3] ?_; intro gb442 hg w5 hbox hb; refine sh3_ (below_step (bl_ HB) hb) hbox (ge_ hg (bl_ HB)) ?_; clear HB hb hbox hg; intro HB BK442 GE442) | ((with_reducible refine gd_ 4 ?_); refine bx_ 4 35 #[iv_ 0, iv_ 0] ?_; intro gb443 hg w6 hbox hb; refine sh6_ (blk_below (bk_ BK442) hb) (below_step (bl1_ HB GE442) hb) hbox (ge_ hg (bl1_ HB GE442)) (nl_ hg (bk_ BK442)) (ng_ hg (bk_ BK442)) ?_; clear BK442 HB hb hbox hg; intro BK442 HB BK443 GE443 NB442_443 NB443_442))
 refine sh3_ (blk_drew BK442.out) (blk_drew BK443.out) (below_drew1 HB.out) ?_
 clear BK442 BK443 HB
 intro BK442 BK443 HB
 refine start_ (n := 8) (S := fun w' => Cz4 w' gb442 (iv_ a0_0) (iv_ a0_1) (iv_ a0_2) (iv_ a0_3)) (ds := []) (bo_ 8 0) (by kernel_rfl) rfl rfl (cz4_ BK442) (fun hHeld => ?_); refine with_tabW impl_PlacesAt.tab1 impl_PlacesAt.bits1 (fun HT_ HW_ => ?_)
 generalize w6.drew = w7 at BK442 BK443 HB hHeld ⊢
 refine pur_ 1 (bo_ 8 2) (some 6) HT_ ?_
 refine pur_ 4 (bo_ 8 18) (some 9) HT_ ?_
 refine tak_ 0 (bo_ 8 19) (some 5) HT_ HW_ hHeld ?_
 refine tak_ 5 (bo_ 8 51) (some 10) HT_ HW_ hHeld ?_
 refine onc_ 2 (bo_ 8 55) (some 7) HT_ Try.func57 (impl_PlaceAt.calls a0_0 a0_1 a0_2 a0_3 a1 t444 _ A3.out) ?_
 rintro e w8 ⟨rfl, hb⟩
 refine sh3_ (blk_below (bk_ BK442) hb) (blk_below (bk_ BK443) hb) (below_step (bl2_ HB GE442 GE443) hb) ?_
 clear BK442 BK443 HB hb
 intro BK442 BK443 HB
 refine ⟨_, _, rfl, (cz4_ BK442), pt_, fun hHeld => ?_⟩
 refine pur_ 3 (bo_ 8 63) (some 8) HT_ ?_
 refine onc_ 6 (bo_ 8 127) (some 11) HT_ Try.func94 (impl_WidenArc.calls t444 0 a0_3 t445 t446 _ A4.out) ?_
 rintro e w9 ⟨rfl, hb⟩
 refine sh3_ (blk_below (bk_ BK442) hb) (blk_below (bk_ BK443) hb) (below_step (bl2_ HB GE442 GE443) hb) ?_
 clear BK442 BK443 HB hb
 intro BK442 BK443 HB
 refine ⟨_, _, rfl, (cz4_ BK442), pt_, fun hHeld => ?_⟩
 refine one_ (i := 7) (N := none) (bo_ 8 255) rfl rfl (one_of HT_.out (by kernel_rfl)) (by decide) (fun K hK => ?_)
 have hs10 : w9.cell? ⟨gb443, 0, none⟩ = some (iv_ 0) := bc_ BK443 0 rfl
 have hfs10 := bf_ BK443 0
 have hns10_0 := NB442_443.out
 have hms10_0 := NB443_442.out
 have hs11 : w9.cell? ⟨gb443, 1, none⟩ = some (iv_ 0) := bc_ BK443 1 rfl
 have hfs11 := bf_ BK443 1
 have hns11_0 := NB442_443.out
 have hms11_0 := NB443_442.out
 refine skip_ (w1 := ?_) (by rfl) rfl ?_ ?_
 rotate_left
 ·go_simp
  rfl
 refine hK.out _ _ ⟨((cell_far (p := ⟨gb443, _, none⟩) NB442_443.out _).trans (((cell_far (p := ⟨gb443, _, none⟩) NB442_443.out _).trans (hHeld.1)))), ((cell_far (p := ⟨gb443, _, none⟩) NB442_443.out _).trans (((cell_far (p := ⟨gb443, _, none⟩) NB442_443.out _).trans (hHeld.2.1)))), ((cell_far (p := ⟨gb443, _, none⟩) NB442_443.out _).trans (((cell_far (p := ⟨gb443, _, none⟩) NB442_443.out _).trans (hHeld.2.2.1)))), ((cell_far (p := ⟨gb443, _, none⟩) NB442_443.out _).trans (((cell_far (p := ⟨gb443, _, none⟩) NB442_443.out _).trans (hHeld.2.2.2))))⟩ (fun hHeld => ?_)
 clear hK K
 refine done_ (done_of HT_.out (by kernel_rfl)) ?_
 try go_wp2
 refine bodyPost_ret (results_cell_row rfl _ _ gb443 35 #[iv_ t445, iv_ t446] (0, 0) _ rfl (bp_ BK443) Try.underlying35 rfl (by kernel_rfl)) rfl ?_
 exact ⟨by first | (rw [hRT_.out]; rfl) | exact er_, bl2_ HB GE442 GE443⟩

/-! ### impl_NodeAt: function 13 -/
def impl_NodeAt.f (a0_0 : Int) (l0_1 : List (S72)) (l0_2 : List (S74)) (a0_3 : Int) (a0_4 : Int) (a0_5 : Int) (a0_6 : Int) (a0_7 : Int) (l0_8 : List (S88)) (a0_9 : Int) (a1 : Int) (a2 : Int) : Option (Int × Int) := (impl_isSatellite.f a0_0 l0_1 l0_2 a0_3 a0_4 a0_5 a0_6 a0_7 l0_8 a0_9 a1).bind fun t449 => (if t449 = true then (if 0 ≤ a1 then (if a1 < (l0_1.length : Int) then ((impl_PlacesAt.f ((rd_T72 l0_1 a1).f0) ((rd_T72 l0_1 a1).f1) ((rd_T72 l0_1 a1).f2) ((rd_T72 l0_1 a1).f3) a2).bind fun bt451 => (some (bt451.1, bt451.2))) else (none)) else (none)) else ((impl_IsSite.f a0_0 l0_1 l0_2 a0_3 a0_4 a0_5 a0_6 a0_7 l0_8 a0_9 a1).bind fun t453 => (if t453 = true then (if 0 ≤ (wrap64 (a1 - (l0_1.length : Int))) then (if (wrap64 (a1 - (l0_1.length : Int))) < (l0_2.length : Int) then ((impl_PlaceAt.f 0 ((rd_T74 l0_2 (wrap64 (a1 - (l0_1.length : Int)))).f1) ((rd_T74 l0_2 (wrap64 (a1 - (l0_1.length : Int)))).f2) 0 a2).bind fun t456 => (some (t456, 0))) else (none)) else (none)) else (some (0, 0)))))
set_option maxHeartbeats 8000000 in
set_option maxRecDepth 100000 in
theorem impl_NodeAt.calls (a0_0 : Int) (A0_1 : Option Addr) (c0_1 : Nat) (l0_1 : List (S72)) (A0_2 : Option Addr) (c0_2 : Nat) (l0_2 : List (S74)) (a0_3 : Int) (a0_4 : Int) (a0_5 : Int) (a0_6 : Int) (a0_7 : Int) (A0_8 : Option Addr) (c0_8 : Nat) (l0_8 : List (S88)) (a0_9 : Int) (a1 : Int) (a2 : Int) (r1 : Int) (r2 : Int) (w : World) (hr0_1 : Kd.C k72 w A0_1 l0_1.length l0_1) (hc0_1 : l0_1.length ≤ c0_1) (hr0_2 : Kd.C k74 w A0_2 l0_2.length l0_2) (hc0_2 : l0_2.length ≤ c0_2) (hr0_8 : Kd.C k88 w A0_8 l0_8.length l0_8) (hc0_8 : l0_8.length ≤ c0_8) (h : impl_NodeAt.f a0_0 l0_1 l0_2 a0_3 a0_4 a0_5 a0_6 a0_7 l0_8 a0_9 a1 a2 = some (r1, r2)) :
  Calls Try.prog 13 #[.agg #[iv_ a0_0, .slice A0_1 l0_1.length c0_1, .slice A0_2 l0_2.length c0_2, iv_ a0_3, iv_ a0_4, iv_ a0_5, iv_ a0_6, iv_ a0_7, .slice A0_8 l0_8.length c0_8, iv_ a0_9], iv_ a1, iv_ a2] w fun e w' => e = .returned (.agg #[iv_ r1, iv_ r2]) ∧ Below w.heap.size w w' := by
 have hu28 := Try.underlying28
 have hu35 := Try.underlying35
 have hu72 := Try.underlying72
 have hu74 := Try.underlying74
 have HR0_1 := Aside0.mk hr0_1
 have HC0_1 := Aside0.mk hc0_1
 clear hr0_1 hc0_1
 have HR0_2 := Aside0.mk hr0_2
 have HC0_2 := Aside0.mk hc0_2
 clear hr0_2 hc0_2
 have HR0_8 := Aside0.mk hr0_8
 have HC0_8 := Aside0.mk hc0_8
 clear hr0_8 hc0_8
 have HB := Aside0.mk (Below.refl w.heap.size w)
 have H := h
 clear h
 unfold impl_NodeAt.f at H
 replace H := bs_ H
 obtain ⟨t449, A4, H⟩ := H
 by_cases c5 : t449 = true
 ·subst c5
  have H1 : (if 0 ≤ a1 then (if a1 < (l0_1.length : Int) then ((impl_PlacesAt.f ((rd_T72 l0_1 a1).f0) ((rd_T72 l0_1 a1).f1) ((rd_T72 l0_1 a1).f2) ((rd_T72 l0_1 a1).f3) a2).bind fun bt451 => (some (bt451.1, bt451.2))) else (none)) else (none)) = some (r1, r2) := by rw [if_pos rfl] at H; exact H
  clear H
  have H := H1
  clear H1
  replace H := ifn_ H
  obtain ⟨c6, H⟩ := H
  have c6b0 := decide_eq_true c6
  clear c6
  replace H := ifn_ H
  obtain ⟨c7, H⟩ := H
  have c7b0 := decide_eq_true c7
  clear c7
  replace H := bs_ H
  obtain ⟨⟨t451, t452⟩, A8, H⟩ := H
  dsimp only at H
  simp only [Option.some.injEq, Prod.mk.injEq] at H
  obtain ⟨rfl, rfl⟩ := H
  go_enter Try.func13, Try.ntmps13
  go_wp2_with (first | ((with_reducible refine gd_ 3 ?_); refine bx_ 3 28 #[iv_ a0_0, .slice A0_1 l0_1.length c0_1, .slice A0_2 l0_2.length c0_2, iv_ a0_3, iv_ a0_4, iv_ a0_5, iv_ a0_6, iv_ a0_7, .slice A0_8 l0_8.length c0_8, iv_ a0_9] ?_; intro gb447 hg w9 hbox hb; refine sh3_ (below_step (bl_ HB) hb) hbox (ge_ hg (bl_ HB)) ?_; clear HB hb hbox hg; intro HB BK447 GE447) | ((with_reducible refine gd_ 6 ?_); refine bx_ 6 35 #[iv_ 0, iv_ 0] ?_; intro gb448 hg w10 hbox hb; refine sh6_ (blk_below (bk_ BK447) hb) (below_step (bl1_ HB GE447) hb) hbox (ge_ hg (bl1_ HB GE447)) (nl_ hg (bk_ BK447)) (ng_ hg (bk_ BK447)) ?_; clear BK447 HB hb hbox hg; intro BK447 HB BK448 GE448 NB447_448 NB448_447; have hnb11 := NB447_448.out; have hnc11 := NB448_447.out; have hcz12 := cf10_ BK447) | ((with_reducible refine gate_callee (f := 53) rfl ?_); refine gl_ 11 Try.func53 (impl_isSatellite.calls a0_0 _ _ l0_1 _ _ l0_2 a0_3 a0_4 a0_5 a0_6 a0_7 _ _ l0_8 a0_9 a1 true _ (ck_ HR0_1 HB) HC0_1.out (ck_ HR0_2 HB) HC0_2.out (ck_ HR0_8 HB) HC0_8.out A4.out) ?_; rintro e w13 ⟨rfl, hb⟩; refine ⟨_, rfl, sh3_ (blk_below (bk_ BK447) hb) (blk_below (bk_ BK448) hb) (below_step (bl2_ HB GE447 GE448) hb) ?_⟩; clear BK447 BK448 HB hb; intro BK447 BK448 HB; have hcz14 := cf10_ BK447; have p450 : 0 ≤ (a1 : Int) := od_; have q450 : a1 < (l0_1.length : Int) := od_; obtain ⟨ad450, e450, hx450_0, hx450_1, hx450_2, hx450_3⟩ := at_T72 HR0_1.out a1 p450 q450; cases e450; replace hx450_0 := hbc_ HB hx450_0; replace hx450_1 := hbc_ HB hx450_1; replace hx450_2 := hbc_ HB hx450_2; replace hx450_3 := hbc_ HB hx450_3; replace p450 := eq_true p450; replace q450 := eq_true q450) | ((with_reducible refine gate_callee (f := 56) rfl ?_); refine gl_ 18 Try.func56 (impl_PlacesAt.calls ((rd_T72 l0_1 a1).f0) ((rd_T72 l0_1 a1).f1) ((rd_T72 l0_1 a1).f2) ((rd_T72 l0_1 a1).f3) a2 t451 t452 _ A8.out) ?_; rintro e w15 ⟨rfl, hb⟩; refine ⟨_, rfl, sh3_ (blk_below (bk_ BK447) hb) (blk_below (bk_ BK448) hb) (below_step (bl2_ HB GE447 GE448) hb) ?_⟩; clear BK447 BK448 HB hb; intro BK447 BK448 HB; have hcz16 := cf2_ BK448))
  refine bodyPost_ret (results_cell_row rfl _ _ gb448 35 #[iv_ t451, iv_ t452] (0, 0) _ rfl (bp_ BK448) Try.underlying35 rfl (by kernel_rfl)) rfl ?_
  exact ⟨by first | (rw [hRT_.out]; rfl) | exact er_, bl2_ HB GE447 GE448⟩
 ·replace c5 := Bool.eq_false_iff.mpr c5
  subst c5
  have H1 : ((impl_IsSite.f a0_0 l0_1 l0_2 a0_3 a0_4 a0_5 a0_6 a0_7 l0_8 a0_9 a1).bind fun t453 => (if t453 = true then (if 0 ≤ (wrap64 (a1 - (l0_1.length : Int))) then (if (wrap64 (a1 - (l0_1.length : Int))) < (l0_2.length : Int) then ((impl_PlaceAt.f 0 ((rd_T74 l0_2 (wrap64 (a1 - (l0_1.length : Int)))).f1) ((rd_T74 l0_2 (wrap64 (a1 - (l0_1.length : Int)))).f2) 0 a2).bind fun t456 => (some (t456, 0))) else (none)) else (none)) else (some (0, 0)))) = some (r1, r2) := by rw [if_neg (show ¬ (false = true) by decide)] at H; exact H
  clear H
  have H := H1
  clear H1
  replace H := bs_ H
  obtain ⟨t453, A17, H⟩ := H
  by_cases c18 : t453 = true
  ·subst c18
   have H1 : (if 0 ≤ (wrap64 (a1 - (l0_1.length : Int))) then (if (wrap64 (a1 - (l0_1.length : Int))) < (l0_2.length : Int) then ((impl_PlaceAt.f 0 ((rd_T74 l0_2 (wrap64 (a1 - (l0_1.length : Int)))).f1) ((rd_T74 l0_2 (wrap64 (a1 - (l0_1.length : Int)))).f2) 0 a2).bind fun t456 => (some (t456, 0))) else (none)) else (none)) = some (r1, r2) := by rw [if_pos rfl] at H; exact H
   clear H
   have H := H1
   clear H1
   obtain ⟨ji19, hji19⟩ : ∃ j_ : Int, (wrap64 (a1 - (l0_1.length : Int))) = j_ := ⟨_, rfl⟩
   replace H : (if 0 ≤ (ji19) then (if (ji19) < (l0_2.length : Int) then ((impl_PlaceAt.f 0 ((rd_T74 l0_2 (ji19)).f1) ((rd_T74 l0_2 (ji19)).f2) 0 a2).bind fun t456 => (some (t456, 0))) else (none)) else (none)) = some (r1, r2) := by first | (rw [hji19] at H; exact H) | (simp only [hji19] at H ⊢; exact H)
   (try rw [hji19] at A4)
   (try rw [hji19] at A17)
   have hji19w : (IntKind.i64.wrap (a1 - (l0_1.length : Int))) = ji19 := (i64_w _).trans hji19
   replace H := ifn_ H
   obtain ⟨c20, H⟩ := H
   have c20b0 := decide_eq_true c20
   clear c20
   replace H := ifn_ H
   obtain ⟨c21, H⟩ := H
   have c21b0 := decide_eq_true c21
   clear c21
   replace H := bs_ H
   obtain ⟨t456, A22, H⟩ := H
   simp only [Option.some.injEq, Prod.mk.injEq] at H
   obtain ⟨rfl, rfl⟩ := H
   go_enter Try.func13, Try.ntmps13
   go_wp2_with (first | ((with_reducible refine gd_ 3 ?_); refine bx_ 3 28 #[iv_ a0_0, .slice A0_1 l0_1.length c0_1, .slice A0_2 l0_2.length c0_2, iv_ a0_3, iv_ a0_4, iv_ a0_5, iv_ a0_6, iv_ a0_7, .slice A0_8 l0_8.length c0_8, iv_ a0_9] ?_; intro gb447 hg w23 hbox hb; refine sh3_ (below_step (bl_ HB) hb) hbox (ge_ hg (bl_ HB)) ?_; clear HB hb hbox hg; intro HB BK447 GE447) | ((with_reducible refine gd_ 6 ?_); refine bx_ 6 35 #[iv_ 0, iv_ 0] ?_; intro gb448 hg w24 hbox hb; refine sh6_ (blk_below (bk_ BK447) hb) (below_step (bl1_ HB GE447) hb) hbox (ge_ hg (bl1_ HB GE447)) (nl_ hg (bk_ BK447)) (ng_ hg (bk_ BK447)) ?_; clear BK447 HB hb hbox hg; intro BK447 HB BK448 GE448 NB447_448 NB448_447; have hnb25 := NB447_448.out; have hnc25 := NB448_447.out; have hcz26 := cf10_ BK447) | ((with_reducible refine gate_callee (f := 53) rfl ?_); refine gl_ 11 Try.func53 (impl_isSatellite.calls a0_0 _ _ l0_1 _ _ l0_2 a0_3 a0_4 a0_5 a0_6 a0_7 _ _ l0_8 a0_9 a1 false _ (ck_ HR0_1 HB) HC0_1.out (ck_ HR0_2 HB) HC0_2.out (ck_ HR0_8 HB) HC0_8.out A4.out) ?_; rintro e w27 ⟨rfl, hb⟩; refine ⟨_, rfl, sh3_ (blk_below (bk_ BK447) hb) (blk_below (bk_ BK448) hb) (below_step (bl2_ HB GE447 GE448) hb) ?_⟩; clear BK447 BK448 HB hb; intro BK447 BK448 HB; have hcz28 := cf10_ BK447) | ((with_reducible refine gate_callee (f := 54) rfl ?_); refine gl_ 22 Try.func54 (impl_IsSite.calls a0_0 _ _ l0_1 _ _ l0_2 a0_3 a0_4 a0_5 a0_6 a0_7 _ _ l0_8 a0_9 a1 true _ (ck_ HR0_1 HB) HC0_1.out (ck_ HR0_2 HB) HC0_2.out (ck_ HR0_8 HB) HC0_8.out A17.out) ?_; rintro e w29 ⟨rfl, hb⟩; refine ⟨_, rfl, sh3_ (blk_below (bk_ BK447) hb) (blk_below (bk_ BK448) hb) (below_step (bl2_ HB GE447 GE448) hb) ?_⟩; clear BK447 BK448 HB hb; intro BK447 BK448 HB; have hcz30 := cf10_ BK447; have p454 : 0 ≤ ((ji19) : Int) := od_; have q454 : (ji19) < (l0_2.length : Int) := od_; obtain ⟨ad454, e454, hx454_0, hx454_1, hx454_2⟩ := at_T74 HR0_2.out (ji19) p454 q454; cases e454; replace hx454_0 := hbc_ HB hx454_0; replace hx454_1 := hbc_ HB hx454_1; replace hx454_2 := hbc_ HB hx454_2; replace p454 := eq_true p454; replace q454 := eq_true q454) | ((with_reducible refine gd_ 7 ?_); refine bx_ 7 74 #[iv_ 0, iv_ 0, iv_ 0] ?_; intro gb455 hg w31 hbox hb; refine sh9_ (blk_below (bk_ BK447) hb) (blk_below (bk_ BK448) hb) (below_step (bl2_ HB GE447 GE448) hb) hbox (ge_ hg (bl2_ HB GE447 GE448)) (nl_ hg (bk_ BK447)) (ng_ hg (bk_ BK447)) (nl_ hg (bk_ BK448)) (ng_ hg (bk_ BK448)) ?_; clear BK447 BK448 HB hb hbox hg; intro BK447 BK448 HB BK455 GE455 NB447_455 NB455_447 NB448_455 NB455_448; have hnb32 := NB455_447.out; have hnc32 := NB447_455.out; have hnb33 := NB455_448.out; have hnc33 := NB448_455.out; have hcz34 := cf3_ BK455) | ((with_reducible refine gate_callee (f := 57) rfl ?_); refine goesL_ (some 38) rfl rfl Try.func57 (by kernel_rfl) rfl #[.agg #[iv_ 0, iv_ ((rd_T74 l0_2 (ji19)).f1), iv_ ((rd_T74 l0_2 (ji19)).f2), iv_ 0], iv_ a2] rfl (by (try simp only [List.map_toArray, List.map_cons, List.map_nil]); first | done | (simp only [hji19]; rfl) | rfl | (simp only [List.length_drop, List.length_take]; rfl)) ?_; (with_reducible refine (impl_PlaceAt.calls 0 ((rd_T74 l0_2 (ji19)).f1) ((rd_T74 l0_2 (ji19)).f2) 0 a2 t456 _ A22.out).mono ?_); rintro e w35 ⟨rfl, hb⟩; refine ⟨_, rfl, sh4_ (blk_below (g := gb447) (o := .cells #[iv_ a0_0, .slice A0_1 l0_1.length c0_1, .slice (some ad454) l0_2.length c0_2, iv_ a0_3, iv_ a0_4, iv_ a0_5, iv_ a0_6, iv_ a0_7, .slice A0_8 l0_8.length c0_8, iv_ a0_9] 28 (0, 0)) (bp_ BK447) hb) (blk_below (g := gb448) (o := .cells #[iv_ 0, iv_ 0] 35 (0, 0)) (bp_ BK448) hb) (blk_below (g := gb455) (o := .cells #[iv_ ((rd_T74 l0_2 (ji19)).f0), iv_ ((rd_T74 l0_2 (ji19)).f1), iv_ ((rd_T74 l0_2 (ji19)).f2)] 74 (0, 0)) (bp_ BK455) hb) (below_step (bl3_ HB GE447 GE448 GE455) hb) ?_⟩; clear BK447 BK448 BK455 HB hb; intro BK447 BK448 BK455 HB; have hcz36 := cf2_ BK448))
   refine bodyPost_ret (results_cell_row rfl _ _ gb448 35 #[iv_ t456, iv_ 0] (0, 0) _ rfl (bp_ BK448) Try.underlying35 rfl (by kernel_rfl)) rfl ?_
   exact ⟨by first | rfl | (rw [hRT_.out]; rfl) | (simp [errW_none, errW_some] <;> rfl) | (simp only [← hji19]; first | rfl | (simp [errW_none, errW_some] <;> rfl)) | (simp [*, errW_none, errW_some] <;> rfl), bl3_ HB GE447 GE448 GE455⟩
  ·replace c18 := Bool.eq_false_iff.mpr c18
   subst c18
   have H1 : (some (0, 0)) = some (r1, r2) := by rw [if_neg (show ¬ (false = true) by decide)] at H; exact H
   clear H
   have H := H1
   clear H1
   simp only [Option.some.injEq, Prod.mk.injEq] at H
   obtain ⟨rfl, rfl⟩ := H
   go_enter Try.func13, Try.ntmps13
   go_wp2_with (first | ((with_reducible refine gd_ 3 ?_); refine bx_ 3 28 #[iv_ a0_0, .slice A0_1 l0_1.length c0_1, .slice A0_2 l0_2.length c0_2, iv_ a0_3, iv_ a0_4, iv_ a0_5, iv_ a0_6, iv_ a0_7, .slice A0_8 l0_8.length c0_8, iv_ a0_9] ?_; intro gb447 hg w37 hbox hb; refine sh3_ (below_step (bl_ HB) hb) hbox (ge_ hg (bl_ HB)) ?_; clear HB hb hbox hg; intro HB BK447 GE447) | ((with_reducible refine gd_ 6 ?_); refine bx_ 6 35 #[iv_ 0, iv_ 0] ?_; intro gb448 hg w38 hbox hb; refine sh6_ (blk_below (bk_ BK447) hb) (below_step (bl1_ HB GE447) hb) hbox (ge_ hg (bl1_ HB GE447)) (nl_ hg (bk_ BK447)) (ng_ hg (bk_ BK447)) ?_; clear BK447 HB hb hbox hg; intro BK447 HB BK448 GE448 NB447_448 NB448_447; have hnb39 := NB447_448.out; have hnc39 := NB448_447.out; have hcz40 := cf10_ BK447) | ((with_reducible refine gate_callee (f := 53) rfl ?_); refine gl_ 11 Try.func53 (impl_isSatellite.calls a0_0 _ _ l0_1 _ _ l0_2 a0_3 a0_4 a0_5 a0_6 a0_7 _ _ l0_8 a0_9 a1 false _ (ck_ HR0_1 HB) HC0_1.out (ck_ HR0_2 HB) HC0_2.out (ck_ HR0_8 HB) HC0_8.out A4.out) ?_; rintro e w41 ⟨rfl, hb⟩; refine ⟨_, rfl, sh3_ (blk_below (bk_ BK447) hb) (blk_below (bk_ BK448) hb) (below_step (bl2_ HB GE447 GE448) hb) ?_⟩; clear BK447 BK448 HB hb; intro BK447 BK448 HB; have hcz42 := cf10_ BK447) | ((with_reducible refine gate_callee (f := 54) rfl ?_); refine gl_ 22 Try.func54 (impl_IsSite.calls a0_0 _ _ l0_1 _ _ l0_2 a0_3 a0_4 a0_5 a0_6 a0_7 _ _ l0_8 a0_9 a1 false _ (ck_ HR0_1 HB) HC0_1.out (ck_ HR0_2 HB) HC0_2.out (ck_ HR0_8 HB) HC0_8.out A17.out) ?_; rintro e w43 ⟨rfl, hb⟩; refine ⟨_, rfl, sh3_ (blk_below (bk_ BK447) hb) (blk_below (bk_ BK448) hb) (below_step (bl2_ HB GE447 GE448) hb) ?_⟩; clear BK447 BK448 HB hb; intro BK447 BK448 HB; have hcz44 := cf2_ BK448))
   refine bodyPost_ret (results_cell_row rfl _ _ gb448 35 #[iv_ 0, iv_ 0] (0, 0) _ rfl (bp_ BK448) Try.underlying35 rfl (by kernel_rfl)) rfl ?_
   exact ⟨by first | (rw [hRT_.out]; rfl) | exact er_, bl2_ HB GE447 GE448⟩

/-! ### impl_GapOf: function 14 -/
def impl_GapOf.f (a0 : Int) (a1 : Int) : Option (Int) := (impl_AngleOf.f a0).bind fun t457 => ((impl_AngleOf.f a1).bind fun t458 => ((impl_AngleOf.f (wrap64 (t457 - t458))).bind fun t459 => (some (mn t459 (wrap64 (360 - t459))))))
set_option maxHeartbeats 8000000 in
set_option maxRecDepth 100000 in
theorem impl_GapOf.calls (a0 : Int) (a1 : Int) (r : Int) (w : World) (h : impl_GapOf.f a0 a1 = some r) :
  Calls Try.prog 14 #[iv_ a0, iv_ a1] w fun e w' => e = .returned (iv_ r) ∧ Below w.heap.size w w' := by
 have HB := Aside0.mk (Below.refl w.heap.size w)
 have H := h
 clear h
 unfold impl_GapOf.f at H
 replace H := bs_ H
 obtain ⟨t457, A3, H⟩ := H
 replace H := bs_ H
 obtain ⟨t458, A4, H⟩ := H
 replace H := bs_ H
 obtain ⟨t459, A5, H⟩ := H
 obtain ⟨ji6, hji6⟩ : ∃ j_ : Int, (mn t459 (wrap64 (360 - t459))) = j_ := ⟨_, rfl⟩
 replace H : (some ji6) = some r := by first | (rw [hji6] at H; exact H) | (simp only [hji6] at H ⊢; exact H)
 (try rw [hji6] at A3)
 (try rw [hji6] at A4)
 (try rw [hji6] at A5)
 have hji6_ : (if (wrap64 (360 - t459)) < t459 then (wrap64 (360 - t459)) else t459) = ji6 := hji6
 obtain rfl := Option.some.inj H
 go_enter Try.func14, Try.ntmps14
 go_wp2_with (first | ((with_reducible refine gate_callee (f := 58) rfl ?_); refine gl_ 7 Try.func58 (impl_AngleOf.calls a0 t457 _ A3.out) ?_; rintro e w' ⟨rfl, ⟨nd, rfl⟩⟩; refine ⟨_, rfl, ?_⟩) | ((with_reducible refine gate_callee (f := 58) rfl ?_); refine gl_ 9 Try.func58 (impl_AngleOf.calls a1 t458 _ A4.out) ?_; rintro e w' ⟨rfl, ⟨nd, rfl⟩⟩; refine ⟨_, rfl, ?_⟩) | ((with_reducible refine gate_callee (f := 58) rfl ?_); refine gl_ 11 Try.func58 (impl_AngleOf.calls (wrap64 (t457 - t458)) t459 _ A5.out) ?_; rintro e w' ⟨rfl, ⟨nd, rfl⟩⟩; refine ⟨_, rfl, ?_⟩))
 go_ret
 exact ⟨by first | rfl | (rw [hRT_.out]; rfl) | (simp [errW_none, errW_some] <;> rfl) | (simp only [← hji6]; first | rfl | (simp [errW_none, errW_some] <;> rfl)) | (simp [*, errW_none, errW_some] <;> rfl), bl_ HB⟩

/-! ### impl_MiddleOf: function 51 -/
def impl_MiddleOf.f (a0_0 : Int) (a0_1 : Int) : Option (Int) := (impl_isWidth.f a0_1).bind fun t461 => (if t461 = true then ((impl_AngleOf.f a0_0).bind fun t462 => ((impl_AngleOf.f (wrap64 (t462 + (wrap64 (Int.tdiv a0_1 2))))).bind fun t463 => (some t463))) else ((impl_AngleOf.f a0_0).bind fun t464 => (some t464)))
set_option maxHeartbeats 8000000 in
set_option maxRecDepth 100000 in
theorem impl_MiddleOf.calls (a0_0 : Int) (a0_1 : Int) (r : Int) (w : World) (h : impl_MiddleOf.f a0_0 a0_1 = some r) :
  Calls Try.prog 51 #[.agg #[iv_ a0_0, iv_ a0_1]] w fun e w' => e = .returned (iv_ r) ∧ Below w.heap.size w w' := by
 have hu35 := Try.underlying35
 have HB := Aside0.mk (Below.refl w.heap.size w)
 have H := h
 clear h
 unfold impl_MiddleOf.f at H
 replace H := bs_ H
 obtain ⟨t461, A2, H⟩ := H
 by_cases c3 : t461 = true
 ·subst c3
  rw [if_pos rfl] at H
  replace H := bs_ H
  obtain ⟨t462, A4, H⟩ := H
  replace H := bs_ H
  obtain ⟨t463, A5, H⟩ := H
  obtain rfl := Option.some.inj H
  go_enter Try.func51, Try.ntmps51
  go_wp2_with (first | ((with_reducible refine gd_ 1 ?_); refine bx_ 1 35 #[iv_ a0_0, iv_ a0_1] ?_; intro gb460 hg w6 hbox hb; refine sh3_ (below_step (bl_ HB) hb) hbox (ge_ hg (bl_ HB)) ?_; clear HB hb hbox hg; intro HB BK460 GE460; have hcz7 := cf2_ BK460) | (go_at_call 92; (with_reducible refine (impl_isWidth.calls a0_1 true _ A2.out).mono ?_); rintro e w' ⟨rfl, ⟨nd, rfl⟩⟩; (try exact dd_)) | (go_at_call 58; (with_reducible refine (impl_AngleOf.calls a0_0 t462 _ A4.out).mono ?_); rintro e w' ⟨rfl, ⟨nd, rfl⟩⟩; (try exact dd_)) | (go_at_call 58; (with_reducible refine (impl_AngleOf.calls (wrap64 (t462 + (wrap64 (Int.tdiv a0_1 2)))) t463 _ A5.out).mono ?_); rintro e w' ⟨rfl, ⟨nd, rfl⟩⟩; (try exact dd_)))
  repeat (go_quiet (first | ((with_reducible refine gd_ 1 ?_); refine bx_ 1 35 #[iv_ a0_0, iv_ a0_1] ?_; intro gb460 hg w6 hbox hb; refine sh3_ (below_step (bl_ HB) hb) hbox (ge_ hg (bl_ HB)) ?_; clear HB hb hbox hg; intro HB BK460 GE460; have hcz7 := cf2_ BK460) | (go_at_call 92; (with_reducible refine (impl_isWidth.calls a0_1 true _ A2.out).mono ?_); rintro e w' ⟨rfl, ⟨nd, rfl⟩⟩; (try exact dd_)) | (go_at_call 58; (with_reducible refine (impl_AngleOf.calls a0_0 t462 _ A4.out).mono ?_); rintro e w' ⟨rfl, ⟨nd, rfl⟩⟩; (try exact dd_)) | (go_at_call 58; (with_reducible refine (impl_AngleOf.calls (wrap64 (t462 + (wrap64 (Int.tdiv a0_1 2)))) t463 _ A5.out).mono ?_); rintro e w' ⟨rfl, ⟨nd, rfl⟩⟩; (try exact dd_))); try go_wp2_with (first | ((with_reducible refine gd_ 1 ?_); refine bx_ 1 35 #[iv_ a0_0, iv_ a0_1] ?_; intro gb460 hg w6 hbox hb; refine sh3_ (below_step (bl_ HB) hb) hbox (ge_ hg (bl_ HB)) ?_; clear HB hb hbox hg; intro HB BK460 GE460; have hcz7 := cf2_ BK460) | (go_at_call 92; (with_reducible refine (impl_isWidth.calls a0_1 true _ A2.out).mono ?_); rintro e w' ⟨rfl, ⟨nd, rfl⟩⟩; (try exact dd_)) | (go_at_call 58; (with_reducible refine (impl_AngleOf.calls a0_0 t462 _ A4.out).mono ?_); rintro e w' ⟨rfl, ⟨nd, rfl⟩⟩; (try exact dd_)) | (go_at_call 58; (with_reducible refine (impl_AngleOf.calls (wrap64 (t462 + (wrap64 (Int.tdiv a0_1 2)))) t463 _ A5.out).mono ?_); rintro e w' ⟨rfl, ⟨nd, rfl⟩⟩; (try exact dd_))))
  go_ret
  exact ⟨by first | (rw [hRT_.out]; rfl) | exact er_, bl1_ HB GE460⟩
 ·replace c3 := Bool.eq_false_iff.mpr c3
  subst c3
  have H1 : ((impl_AngleOf.f a0_0).bind fun t464 => (some t464)) = some r := by rw [if_neg (show ¬ (false = true) by decide)] at H; exact H
  clear H
  have H := H1
  clear H1
  replace H := bs_ H
  obtain ⟨t464, A8, H⟩ := H
  obtain rfl := Option.some.inj H
  go_enter Try.func51, Try.ntmps51
  go_wp2_with (first | ((with_reducible refine gd_ 1 ?_); refine bx_ 1 35 #[iv_ a0_0, iv_ a0_1] ?_; intro gb460 hg w9 hbox hb; refine sh3_ (below_step (bl_ HB) hb) hbox (ge_ hg (bl_ HB)) ?_; clear HB hb hbox hg; intro HB BK460 GE460; have hcz10 := cf2_ BK460) | (go_at_call 92; (with_reducible refine (impl_isWidth.calls a0_1 false _ A2.out).mono ?_); rintro e w' ⟨rfl, ⟨nd, rfl⟩⟩; (try exact dd_)) | (go_at_call 58; (with_reducible refine (impl_AngleOf.calls a0_0 t464 _ A8.out).mono ?_); rintro e w' ⟨rfl, ⟨nd, rfl⟩⟩; (try exact dd_)))
  repeat (go_quiet (first | ((with_reducible refine gd_ 1 ?_); refine bx_ 1 35 #[iv_ a0_0, iv_ a0_1] ?_; intro gb460 hg w9 hbox hb; refine sh3_ (below_step (bl_ HB) hb) hbox (ge_ hg (bl_ HB)) ?_; clear HB hb hbox hg; intro HB BK460 GE460; have hcz10 := cf2_ BK460) | (go_at_call 92; (with_reducible refine (impl_isWidth.calls a0_1 false _ A2.out).mono ?_); rintro e w' ⟨rfl, ⟨nd, rfl⟩⟩; (try exact dd_)) | (go_at_call 58; (with_reducible refine (impl_AngleOf.calls a0_0 t464 _ A8.out).mono ?_); rintro e w' ⟨rfl, ⟨nd, rfl⟩⟩; (try exact dd_))); try go_wp2_with (first | ((with_reducible refine gd_ 1 ?_); refine bx_ 1 35 #[iv_ a0_0, iv_ a0_1] ?_; intro gb460 hg w9 hbox hb; refine sh3_ (below_step (bl_ HB) hb) hbox (ge_ hg (bl_ HB)) ?_; clear HB hb hbox hg; intro HB BK460 GE460; have hcz10 := cf2_ BK460) | (go_at_call 92; (with_reducible refine (impl_isWidth.calls a0_1 false _ A2.out).mono ?_); rintro e w' ⟨rfl, ⟨nd, rfl⟩⟩; (try exact dd_)) | (go_at_call 58; (with_reducible refine (impl_AngleOf.calls a0_0 t464 _ A8.out).mono ?_); rintro e w' ⟨rfl, ⟨nd, rfl⟩⟩; (try exact dd_))))
  go_ret
  exact ⟨by first | (rw [hRT_.out]; rfl) | exact er_, bl1_ HB GE460⟩

end Go.Proofs.Ytopbkdcicidajaa.PFnSight
