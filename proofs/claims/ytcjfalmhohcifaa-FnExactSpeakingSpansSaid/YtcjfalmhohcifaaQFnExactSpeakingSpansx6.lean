-- Written by a program of this session for this claim (the kit's printer with changes).
import Derived.Test.YtcjfalmhohcifaaQFnExactSpeakingSpansx0
import Derived.Test.YtcjfalmhohcifaaQFnExactSpeakingSpansx5
namespace Go.Proofs.Ytcjfalmhohcifaa.PFnExactSpeakingSpans
open Go.RowKit Go.Proofs.YtcjfalmhohcifaaW.PrintWords Go.Proofs.YtcjfalmhohcifaaW.PrintLast Go.Proofs.YtcjfalmhohcifaaW.PrintMore
attribute [local go_sem] max2_int min2_int max_two min_two max_three min_three max_four min_four   -- for this text's walks alone
set_option linter.unusedVariables false
set_option linter.unusedSimpArgs false

/-! ### impl_PlaceAt: function 123 -/
def impl_PlaceAt.f (a0_0 : Int) (a0_1 : Int) (a0_2 : Int) (a0_3 : Int) (a1 : Int) : Option (Int) := (impl_InRange.f a1 0 1000).bind fun t338 => (if t338 = true then ((impl_AngleOf.f a0_1).bind fun t339 => ((impl_speedOf.f a0_0 a0_1 a0_2 a0_3).bind fun t340 => ((impl_AngleOf.f (wrap64 (t339 + (wrap64 (t340 * a1))))).bind fun t341 => (some t341)))) else ((impl_AngleOf.f a0_1).bind fun t342 => ((impl_speedOf.f a0_0 a0_1 a0_2 a0_3).bind fun t343 => ((impl_AngleOf.f (wrap64 (t342))).bind fun t344 => (some t344)))))
def impl_PlaceAt.T3 : Bool × List (List Nat × List Nat) := (true, [([], []), ([0], [0]), ([1], [1]), ([], []), ([3, 2], [3]), ([], []), ([4, 5], [4, 5]), ([2, 6], [2, 6]), ([7, 4], [7]), ([8, 8, 0, 1, 2, 3, 4, 5, 6, 7, 8], [8])])
def impl_PlaceAt.B3 : List Nat := [0, 1, 3, 0, 15, 0, 63, 127, 255, 511]
theorem impl_PlaceAt.tab3 : rtab .any (opsOf Try.f123 3) = impl_PlaceAt.T3 := by kernel_rfl
theorem impl_PlaceAt.bits3 : waitsOk impl_PlaceAt.T3.2 impl_PlaceAt.B3 = true := by kernel_rfl
set_option maxHeartbeats 8000000 in
set_option maxRecDepth 100000 in
theorem impl_PlaceAt.calls (a0_0 : Int) (a0_1 : Int) (a0_2 : Int) (a0_3 : Int) (a1 : Int) (r : Int) (w : World) (h : impl_PlaceAt.f a0_0 a0_1 a0_2 a0_3 a1 = some r) :
  Calls Try.prog 123 #[.agg #[.int .i64 a0_0, .int .i64 a0_1, .int .i64 a0_2, .int .i64 a0_3], .int .i64 a1] w fun e w' => e = .returned (.int .i64 r) ∧ Below w.heap.size w w' := by
 have hu105 := Try.underlying105
 have HB := Aside0.mk (Below.refl w.heap.size w)
 have H := h
 clear h
 unfold impl_PlaceAt.f at H
 replace H := bs_ H
 obtain ⟨t338, A3, H⟩ := H
 by_cases c4 : t338 = true
 ·subst c4
  rw [if_pos rfl] at H
  replace H := bs_ H
  obtain ⟨t339, A5, H⟩ := H
  replace H := bs_ H
  obtain ⟨t340, A6, H⟩ := H
  replace H := bs_ H
  obtain ⟨t341, A7, H⟩ := H
  obtain rfl := Option.some.inj H
  go_enter Try.func123, Try.ntmps123
  try go_wp2_with (first | ((with_reducible refine gd_ 2 ?_); refine bx_ 2 105 #[.int .i64 a0_0, .int .i64 a0_1, .int .i64 a0_2, .int .i64 a0_3] ?_; intro gb337 hg w8 hbox hb; refine sh3_ (below_step (bl_ HB) hb) hbox (ge_ hg (bl_ HB)) ?_; clear HB hb hbox hg; intro HB BK337 GE337) | ((with_reducible refine gate_callee (f := 120) rfl ?_); refine gl_ 6 Try.func120 (impl_InRange.calls a1 0 1000 true _ A3.out) ?_; rintro e w' ⟨rfl, ⟨nd, rfl⟩⟩; refine ⟨_, rfl, ?_⟩))
  (try (rw [drewN_self w8]; generalize hq_ : World.drewN w8 _ = w8; have n0_ : Aside0 (w8.heap[gb337]? = some (.cells #[.int .i64 a0_0, .int .i64 a0_1, .int .i64 a0_2, .int .i64 a0_3] 105 (0, 0))) := ⟨by rw [← hq_]; exact (bk_ BK337)⟩; have n1_ : Aside0 (Below w.heap.size w w8) := ⟨by rw [← hq_]; exact (bl1_ HB GE337)⟩; clear BK337 HB hq_; have BK337 := n0_; have HB := n1_; clear n0_ n1_))
  refine sh2_ (blk_drew BK337.out) (below_drew1 HB.out) ?_
  clear BK337 HB
  intro BK337 HB
  refine start_ (n := 10) (S := fun w' => Cz4 w' gb337 (.int .i64 a0_0) (.int .i64 a0_1) (.int .i64 a0_2) (.int .i64 a0_3)) (ds := []) #[false, false, false, false, false, false, false, false, false, false] (by kernel_rfl) rfl rfl (cz4_ BK337) (fun hHeld => ?_); refine with_tabW impl_PlaceAt.tab3 impl_PlaceAt.bits3 (fun HT_ HW_ => ?_)
  generalize w8.drew = w9 at BK337 HB hHeld ⊢
  refine pur_ 0 #[true, false, false, false, false, false, false, false, false, false] (some 8) HT_ ?_
  refine pur_ 5 #[true, false, false, false, false, true, false, false, false, false] (some 13) HT_ ?_
  refine tak_ 1 #[true, true, false, false, false, true, false, false, false, false] (some 9) HT_ HW_ hHeld ?_
  refine tak_ 3 #[true, true, false, true, false, true, false, false, false, false] (some 11) HT_ HW_ hHeld ?_
  refine onc_ 2 #[true, true, true, true, false, true, false, false, false, false] (some 10) HT_ Try.func130 (impl_AngleOf.calls a0_1 t339 _ A5.out) ?_
  rintro e w' ⟨rfl, ⟨nd, rfl⟩⟩
  refine ⟨_, _, rfl, (cz4_ BK337), pt_, fun hHeld => ?_⟩
  refine onc_ 4 #[true, true, true, true, true, true, false, false, false, false] (some 12) HT_ Try.func135 (impl_speedOf.calls a0_0 a0_1 a0_2 a0_3 t340 _ A6.out) ?_
  rintro e w10 ⟨rfl, hb⟩
  refine sh2_ (blk_below (bk_ BK337) hb) (below_step (bl1_ HB GE337) hb) ?_
  clear BK337 HB hb
  intro BK337 HB
  refine ⟨_, _, rfl, (cz4_ BK337), pt_, fun hHeld => ?_⟩
  refine pur_ 6 #[true, true, true, true, true, true, true, false, false, false] (some 14) HT_ ?_
  refine pur_ 7 #[true, true, true, true, true, true, true, true, false, false] (some 15) HT_ ?_
  refine onc_ 8 #[true, true, true, true, true, true, true, true, true, false] (some 16) HT_ Try.func130 (impl_AngleOf.calls (wrap64 (t339 + (wrap64 (t340 * a1)))) t341 _ A7.out) ?_
  rintro e w' ⟨rfl, ⟨nd, rfl⟩⟩
  refine ⟨_, _, rfl, (cz4_ BK337), pt_, fun hHeld => ?_⟩
  refine pur_ 9 #[true, true, true, true, true, true, true, true, true, true] (some 4) HT_ ?_
  refine done_ (done_of HT_.out (by kernel_rfl)) ?_
  try go_wp2
  go_ret
  exact ⟨er_, bl1_ HB GE337⟩
 ·replace c4 := Bool.eq_false_iff.mpr c4
  subst c4
  have H1 : ((impl_AngleOf.f a0_1).bind fun t342 => ((impl_speedOf.f a0_0 a0_1 a0_2 a0_3).bind fun t343 => ((impl_AngleOf.f (wrap64 (t342))).bind fun t344 => (some t344)))) = some r := by rw [if_neg (show ¬ (false = true) by decide)] at H; exact H
  clear H
  have H := H1
  clear H1
  replace H := bs_ H
  obtain ⟨t342, A11, H⟩ := H
  replace H := bs_ H
  obtain ⟨t343, A12, H⟩ := H
  replace H := bs_ H
  obtain ⟨t344, A13, H⟩ := H
  obtain rfl := Option.some.inj H
  go_enter Try.func123, Try.ntmps123
  try go_wp2_with (first | ((with_reducible refine gd_ 2 ?_); refine bx_ 2 105 #[.int .i64 a0_0, .int .i64 a0_1, .int .i64 a0_2, .int .i64 a0_3] ?_; intro gb337 hg w14 hbox hb; refine sh3_ (below_step (bl_ HB) hb) hbox (ge_ hg (bl_ HB)) ?_; clear HB hb hbox hg; intro HB BK337 GE337) | ((with_reducible refine gate_callee (f := 120) rfl ?_); refine gl_ 6 Try.func120 (impl_InRange.calls a1 0 1000 false _ A3.out) ?_; rintro e w' ⟨rfl, ⟨nd, rfl⟩⟩; refine ⟨_, rfl, ?_⟩))
  (try (rw [drewN_self w14]; generalize hq_ : World.drewN w14 _ = w14; have n0_ : Aside0 (w14.heap[gb337]? = some (.cells #[.int .i64 a0_0, .int .i64 a0_1, .int .i64 a0_2, .int .i64 a0_3] 105 (0, 0))) := ⟨by rw [← hq_]; exact (bk_ BK337)⟩; have n1_ : Aside0 (Below w.heap.size w w14) := ⟨by rw [← hq_]; exact (bl1_ HB GE337)⟩; clear BK337 HB hq_; have BK337 := n0_; have HB := n1_; clear n0_ n1_))
  refine sh2_ (blk_drew BK337.out) (below_drew1 HB.out) ?_
  clear BK337 HB
  intro BK337 HB
  refine start_ (n := 10) (S := fun w' => Cz4 w' gb337 (.int .i64 a0_0) (.int .i64 a0_1) (.int .i64 a0_2) (.int .i64 a0_3)) (ds := []) #[false, false, false, false, false, false, false, false, false, false] (by kernel_rfl) rfl rfl (cz4_ BK337) (fun hHeld => ?_); refine with_tabW impl_PlaceAt.tab3 impl_PlaceAt.bits3 (fun HT_ HW_ => ?_)
  generalize w14.drew = w15 at BK337 HB hHeld ⊢
  refine pur_ 0 #[true, false, false, false, false, false, false, false, false, false] (some 8) HT_ ?_
  refine pur_ 5 #[true, false, false, false, false, true, false, false, false, false] (some 13) HT_ ?_
  refine tak_ 1 #[true, true, false, false, false, true, false, false, false, false] (some 9) HT_ HW_ hHeld ?_
  refine tak_ 3 #[true, true, false, true, false, true, false, false, false, false] (some 11) HT_ HW_ hHeld ?_
  refine onc_ 2 #[true, true, true, true, false, true, false, false, false, false] (some 10) HT_ Try.func130 (impl_AngleOf.calls a0_1 t342 _ A11.out) ?_
  rintro e w' ⟨rfl, ⟨nd, rfl⟩⟩
  refine ⟨_, _, rfl, (cz4_ BK337), pt_, fun hHeld => ?_⟩
  refine onc_ 4 #[true, true, true, true, true, true, false, false, false, false] (some 12) HT_ Try.func135 (impl_speedOf.calls a0_0 a0_1 a0_2 a0_3 t343 _ A12.out) ?_
  rintro e w16 ⟨rfl, hb⟩
  refine sh2_ (blk_below (bk_ BK337) hb) (below_step (bl1_ HB GE337) hb) ?_
  clear BK337 HB hb
  intro BK337 HB
  refine ⟨_, _, rfl, (cz4_ BK337), pt_, fun hHeld => ?_⟩
  refine pur_ 6 #[true, true, true, true, true, true, true, false, false, false] (some 14) HT_ ?_
  refine pur_ 7 #[true, true, true, true, true, true, true, true, false, false] (some 15) HT_ ?_
  refine one_ (i := 8) (N := some 16) #[true, true, true, true, true, true, true, true, true, false] rfl rfl (one_of HT_.out (by kernel_rfl)) (by decide) (fun K hK => ?_)
  refine goes_ Try.func130 (by kernel_rfl) rfl #[.int .i64 (wrap64 (t342))] (by rfl) rfl rfl (by (try simp only [List.map_toArray, List.map_cons, List.map_nil]); first | done | rfl | (exact congrArg (fun z_ => #[Value.int IntKind.i64 (wrap64 z_)]) (show t342 + wrap64 0 = t342 by (have h_ : wrap64 0 = 0 := (by (unfold wrap64; omega)); omega)))) ?_
  with_reducible refine (impl_AngleOf.calls (wrap64 (t342)) t344 _ A13.out).mono ?_
  rintro e w' ⟨rfl, ⟨nd, rfl⟩⟩
  refine ⟨_, rfl, ?_⟩
  refine hK.out _ _ (cz4_ BK337) (fun hHeld => ?_)
  clear hK K
  refine norm_ (show Act.put _ (some 16) _ = _ from pt_) ?_
  refine pur_ 9 #[true, true, true, true, true, true, true, true, true, true] (some 4) HT_ ?_
  refine done_ (done_of HT_.out (by kernel_rfl)) ?_
  try go_wp2
  go_ret
  exact ⟨er_, bl1_ HB GE337⟩

/-! ### impl_isWidth: function 131 -/
def impl_isWidth.f (a0 : Int) : Option (Bool) := (impl_InRange.f a0 0 359).bind fun t345 => (some t345)
set_option maxHeartbeats 8000000 in
set_option maxRecDepth 100000 in
theorem impl_isWidth.calls (a0 : Int) (r : Bool) (w : World) (h : impl_isWidth.f a0 = some r) :
  Calls Try.prog 131 #[.int .i64 a0] w fun e w' => e = .returned (.bool r) ∧ Drawn0 w w' := by
 have H := h
 clear h
 unfold impl_isWidth.f at H
 replace H := bs_ H
 obtain ⟨t345, A2, H⟩ := H
 obtain rfl := Option.some.inj H
 go_enter Try.func131, Try.ntmps131
 go_wp2_with (first | ((with_reducible refine gate_callee (f := 120) rfl ?_); refine gl_ 4 Try.func120 (impl_InRange.calls a0 0 359 t345 _ A2.out) ?_; rintro e w' ⟨rfl, ⟨nd, rfl⟩⟩; refine ⟨_, rfl, ?_⟩))
 go_ret
 exact ⟨by first | rfl | (simp; done) | (simp [*]; done), by repeat (first | exact Drawn0.refl _ | apply Drawn0.step)⟩

/-! ### impl_WidenArc: function 134 -/
def impl_WidenArc.f (a0_0 : Int) (a0_1 : Int) (a1 : Int) : Option (Int × Int) := (impl_AngleOf.f a0_0).bind fun t348 => ((impl_InRange.f a1 0 360).bind fun t349 => (if t349 = true then ((impl_isWidth.f a0_1).bind fun t350 => (if t350 = true then ((impl_AngleOf.f (wrap64 (t348 - a1))).bind fun t351 => (some (t351, mn (wrap64 (a0_1 + (wrap64 (2 * a1)))) 359))) else (some (t348, a0_1)))) else (some (t348, a0_1))))
def impl_WidenArc.T4 : Bool × List (List Nat × List Nat) := (true, [([], []), ([0], [0]), ([], []), ([1, 2], [1, 2]), ([3], [3]), ([], []), ([5], [5]), ([], []), ([7], [7]), ([6, 8], [6, 8]), ([9], [9]), ([4, 10], [4, 10]), ([11, 4, 0, 1, 2, 3, 4, 5, 6, 7, 8, 9, 10, 11], [11])])
def impl_WidenArc.B4 : List Nat := [0, 1, 0, 7, 15, 0, 32, 0, 128, 480, 992, 2047, 4095]
theorem impl_WidenArc.tab4 : rtab .any (opsOf Try.f134 4) = impl_WidenArc.T4 := by kernel_rfl
theorem impl_WidenArc.bits4 : waitsOk impl_WidenArc.T4.2 impl_WidenArc.B4 = true := by kernel_rfl
set_option maxHeartbeats 8000000 in
set_option maxRecDepth 100000 in
theorem impl_WidenArc.calls (a0_0 : Int) (a0_1 : Int) (a1 : Int) (r1 : Int) (r2 : Int) (w : World) (h : impl_WidenArc.f a0_0 a0_1 a1 = some (r1, r2)) :
  Calls Try.prog 134 #[.agg #[.int .i64 a0_0, .int .i64 a0_1], .int .i64 a1] w fun e w' => e = .returned (.agg #[.int .i64 r1, .int .i64 r2]) ∧ Below w.heap.size w w' := by
 have hu113 := Try.underlying113
 have HB := Aside0.mk (Below.refl w.heap.size w)
 have H := h
 clear h
 unfold impl_WidenArc.f at H
 replace H := bs_ H
 obtain ⟨t348, A3, H⟩ := H
 replace H := bs_ H
 obtain ⟨t349, A4, H⟩ := H
 by_cases c5 : t349 = true
 ·subst c5
  have H1 : ((impl_isWidth.f a0_1).bind fun t350 => (if t350 = true then ((impl_AngleOf.f (wrap64 (t348 - a1))).bind fun t351 => (some (t351, mn (wrap64 (a0_1 + (wrap64 (2 * a1)))) 359))) else (some (t348, a0_1)))) = some (r1, r2) := by rw [if_pos rfl] at H; exact H
  clear H
  have H := H1
  clear H1
  replace H := bs_ H
  obtain ⟨t350, A6, H⟩ := H
  by_cases c7 : t350 = true
  ·subst c7
   have H1 : ((impl_AngleOf.f (wrap64 (t348 - a1))).bind fun t351 => (some (t351, mn (wrap64 (a0_1 + (wrap64 (2 * a1)))) 359))) = some (r1, r2) := by rw [if_pos rfl] at H; exact H
   clear H
   have H := H1
   clear H1
   replace H := bs_ H
   obtain ⟨t351, A8, H⟩ := H
   obtain ⟨ji9, hji9⟩ : ∃ j_ : Int, (mn (wrap64 (a0_1 + (wrap64 (2 * a1)))) 359) = j_ := ⟨_, rfl⟩
   replace H : (some (t351, ji9)) = some (r1, r2) := by first | (rw [hji9] at H; exact H) | (simp only [hji9] at H ⊢; exact H)
   (try rw [hji9] at A3)
   (try rw [hji9] at A4)
   (try rw [hji9] at A6)
   (try rw [hji9] at A8)
   (try (have hji9h : ji9 ≤ 359 := by (rw [← hji9]; unfold mn; (repeat' split) <;> omega)))
   (try (have hji9g : ji9 ≤ 64 := by omega))
   have hji9_ : (if 359 < (wrap64 (a0_1 + (wrap64 (2 * a1)))) then 359 else (wrap64 (a0_1 + (wrap64 (2 * a1))))) = ji9 := hji9
   simp only [Option.some.injEq, Prod.mk.injEq] at H
   obtain ⟨rfl, rfl⟩ := H
   go_enter Try.func134, Try.ntmps134
   try go_wp2_with (first | ((with_reducible refine gd_ 2 ?_); refine bx_ 2 113 #[.int .i64 a0_0, .int .i64 a0_1] ?_; intro gb346 hg w10 hbox hb; refine sh3_ (below_step (bl_ HB) hb) hbox (ge_ hg (bl_ HB)) ?_; clear HB hb hbox hg; intro HB BK346 GE346) | ((with_reducible refine gd_ 4 ?_); refine bx_ 4 113 #[.int .i64 0, .int .i64 0] ?_; intro gb347 hg w11 hbox hb; refine sh6_ (blk_below (bk_ BK346) hb) (below_step (bl1_ HB GE346) hb) hbox (ge_ hg (bl1_ HB GE346)) (nl_ hg (bk_ BK346)) (ng_ hg (bk_ BK346)) ?_; clear BK346 HB hb hbox hg; intro BK346 HB BK347 GE347 NB346_347 NB347_346; have hnb12 := NB346_347.out; have hnc12 := NB347_346.out; have hcz13 := cf2_ BK346) | ((with_reducible refine gate_callee (f := 130) rfl ?_); refine gl_ 7 Try.func130 (impl_AngleOf.calls a0_0 t348 _ A3.out) ?_; rintro e w' ⟨rfl, ⟨nd, rfl⟩⟩; refine ⟨_, rfl, ?_⟩; (try (rw [drewN_self w11]; generalize hq_ : World.drewN w11 _ = w11; have n0_ : Aside0 (w11.heap[gb346]? = some (.cells #[.int .i64 a0_0, .int .i64 a0_1] 113 (0, 0))) := ⟨by rw [← hq_]; exact (bk_ BK346)⟩; have n1_ : Aside0 (w11.heap[gb347]? = some (.cells #[.int .i64 0, .int .i64 0] 113 (0, 0))) := ⟨by rw [← hq_]; exact (bk_ BK347)⟩; have n2_ : Aside0 (Below w.heap.size w w11) := ⟨by rw [← hq_]; exact (bl2_ HB GE346 GE347)⟩; clear BK346 BK347 HB hq_; have BK346 := n0_; have BK347 := n1_; have HB := n2_; clear n0_ n1_ n2_)); have hcz14 := cf2_ BK346) | ((with_reducible refine gate_callee (f := 120) rfl ?_); refine gl_ 10 Try.func120 (impl_InRange.calls a1 0 360 true _ A4.out) ?_; rintro e w' ⟨rfl, ⟨nd, rfl⟩⟩; refine ⟨_, rfl, ?_⟩) | (go_at_call 131; (with_reducible refine (impl_isWidth.calls a0_1 true _ A6.out).mono ?_); rintro e w' ⟨rfl, ⟨nd, rfl⟩⟩))
   have n0_ : Aside0 ((w11.setCell ⟨gb346, 0, none⟩ (.int .i64 t348)).heap[gb346]? = some (.cells #[.int .i64 t348, .int .i64 a0_1] 113 (0, 0))) := ⟨by (with_reducible repeat (first | refine blk_drewN ?_ _ | refine blk_drew ?_ | refine blk_alloc ?_ _)); refine blk_put (cs := #[.int .i64 a0_0, .int .i64 a0_1]) ?_ 0 _ rfl; (with_reducible repeat (first | refine blk_drewN ?_ _ | refine blk_drew ?_ | refine blk_alloc ?_ _)); exact BK346.out⟩
   have n1_ : Aside0 ((w11.setCell ⟨gb346, 0, none⟩ (.int .i64 t348)).heap[gb347]? = some (.cells #[.int .i64 0, .int .i64 0] 113 (0, 0))) := ⟨by (with_reducible repeat (first | refine blk_drewN ?_ _ | refine blk_drew ?_ | refine blk_alloc ?_ _)); refine blk_far ?_ NB347_346.out _; (with_reducible repeat (first | refine blk_drewN ?_ _ | refine blk_drew ?_ | refine blk_alloc ?_ _)); exact BK347.out⟩
   have n2_ : Aside0 (Below w.heap.size w (w11.setCell ⟨gb346, 0, none⟩ (.int .i64 t348))) := ⟨bl2_ HB GE346 GE347⟩
   (try clear BK346)
   (try clear BK347)
   (try clear HB)
   generalize (w11.setCell ⟨gb346, 0, none⟩ (.int .i64 t348)) = w15 at n0_ n1_ n2_ ⊢
   have BK346 := n0_
   have BK347 := n1_
   have HB := n2_
   clear n0_ n1_ n2_
   (try (rw [drewN_self w15]; generalize hq_ : World.drewN w15 _ = w15; have n0_ : Aside0 (w15.heap[gb346]? = some (.cells #[.int .i64 t348, .int .i64 a0_1] 113 (0, 0))) := ⟨by rw [← hq_]; exact (bk_ BK346)⟩; have n1_ : Aside0 (w15.heap[gb347]? = some (.cells #[.int .i64 0, .int .i64 0] 113 (0, 0))) := ⟨by rw [← hq_]; exact (bk_ BK347)⟩; have n2_ : Aside0 (Below w.heap.size w w15) := ⟨by rw [← hq_]; exact (bl2_ HB GE346 GE347)⟩; clear BK346 BK347 HB hq_; have BK346 := n0_; have BK347 := n1_; have HB := n2_; clear n0_ n1_ n2_))
   refine sh3_ (blk_drew BK346.out) (blk_drew BK347.out) (below_drew1 HB.out) ?_
   clear BK346 BK347 HB
   intro BK346 BK347 HB
   refine start_ (n := 13) (S := fun w' => Cz2 w' gb346 (.int .i64 t348) (.int .i64 a0_1)) (ds := []) #[false, false, false, false, false, false, false, false, false, false, false, false, false] (by kernel_rfl) rfl rfl (cz2_ BK346) (fun hHeld => ?_); refine with_tabW impl_WidenArc.tab4 impl_WidenArc.bits4 (fun HT_ HW_ => ?_)
   generalize w15.drew = w16 at BK346 BK347 HB hHeld ⊢
   refine pur_ 0 #[true, false, false, false, false, false, false, false, false, false, false, false, false] (some 19) HT_ ?_
   refine pur_ 2 #[true, false, true, false, false, false, false, false, false, false, false, false, false] (some 21) HT_ ?_
   refine pur_ 5 #[true, false, true, false, false, true, false, false, false, false, false, false, false] (some 24) HT_ ?_
   refine pur_ 7 #[true, false, true, false, false, true, false, true, false, false, false, false, false] (some 26) HT_ ?_
   refine pur_ 8 #[true, false, true, false, false, true, false, true, true, false, false, false, false] (some 27) HT_ ?_
   refine tak_ 1 #[true, true, true, false, false, true, false, true, true, false, false, false, false] (some 20) HT_ HW_ hHeld ?_
   refine pur_ 3 #[true, true, true, true, false, true, false, true, true, false, false, false, false] (some 22) HT_ ?_
   refine tak_ 6 #[true, true, true, true, false, true, true, true, true, false, false, false, false] (some 25) HT_ HW_ hHeld ?_
   refine pur_ 9 #[true, true, true, true, false, true, true, true, true, true, false, false, false] (some 28) HT_ ?_
   refine pur_ 10 #[true, true, true, true, false, true, true, true, true, true, true, false, false] (some 29) HT_ ?_
   refine onc_ 4 #[true, true, true, true, true, true, true, true, true, true, true, false, false] (some 23) HT_ Try.func130 (impl_AngleOf.calls (wrap64 (t348 - a1)) t351 _ A8.out) ?_
   rintro e w' ⟨rfl, ⟨nd, rfl⟩⟩
   refine ⟨_, _, rfl, (cz2_ BK346), pt_, fun hHeld => ?_⟩
   refine pur_ 11 #[true, true, true, true, true, true, true, true, true, true, true, true, false] (some 30) HT_ ?_
   refine one_ (i := 12) (N := none) #[true, true, true, true, true, true, true, true, true, true, true, true, true] rfl rfl (one_of HT_.out (by kernel_rfl)) (by decide) (fun K hK => ?_)
   have hs17 : w16.cell? ⟨gb347, 0, none⟩ = some (.int .i64 0) := bc_ BK347 0 rfl
   have hfs17 := bf_ BK347 0
   have hns17_0 := NB346_347.out
   have hms17_0 := NB347_346.out
   have hs18 : w16.cell? ⟨gb347, 1, none⟩ = some (.int .i64 0) := bc_ BK347 1 rfl
   have hfs18 := bf_ BK347 1
   have hns18_0 := NB346_347.out
   have hms18_0 := NB347_346.out
   refine skip_ (w1 := ?_) (by rfl) rfl ?_ ?_
   rotate_left
   ·go_simp
    rfl
   refine hK.out _ _ ⟨((cell_far (p := ⟨gb347, _, none⟩) NB346_347.out _).trans (((cell_far (p := ⟨gb347, _, none⟩) NB346_347.out _).trans (hHeld.1)))), ((cell_far (p := ⟨gb347, _, none⟩) NB346_347.out _).trans (((cell_far (p := ⟨gb347, _, none⟩) NB346_347.out _).trans (hHeld.2))))⟩ (fun hHeld => ?_)
   clear hK K
   refine done_ (done_of HT_.out (by kernel_rfl)) ?_
   try go_wp2
   refine bodyPost_ret (results_cell_row rfl _ _ gb347 113 #[.int .i64 t351, .int .i64 ji9] (0, 0) _ rfl (bp_ BK347) Try.underlying113 rfl (by kernel_rfl)) rfl ?_
   exact ⟨by first | rfl | (simp [errW_none, errW_some] <;> rfl) | (simp only [← hji9]; first | rfl | (simp [errW_none, errW_some] <;> rfl)) | (simp [*, errW_none, errW_some] <;> rfl), bl2_ HB GE346 GE347⟩
  ·replace c7 := Bool.eq_false_iff.mpr c7
   subst c7
   have H1 : (some (t348, a0_1)) = some (r1, r2) := by rw [if_neg (show ¬ (false = true) by decide)] at H; exact H
   clear H
   have H := H1
   clear H1
   simp only [Option.some.injEq, Prod.mk.injEq] at H
   obtain ⟨rfl, rfl⟩ := H
   go_enter Try.func134, Try.ntmps134
   go_wp2_with (first | ((with_reducible refine gd_ 2 ?_); refine bx_ 2 113 #[.int .i64 a0_0, .int .i64 a0_1] ?_; intro gb346 hg w19 hbox hb; refine sh3_ (below_step (bl_ HB) hb) hbox (ge_ hg (bl_ HB)) ?_; clear HB hb hbox hg; intro HB BK346 GE346) | ((with_reducible refine gd_ 4 ?_); refine bx_ 4 113 #[.int .i64 0, .int .i64 0] ?_; intro gb347 hg w20 hbox hb; refine sh6_ (blk_below (bk_ BK346) hb) (below_step (bl1_ HB GE346) hb) hbox (ge_ hg (bl1_ HB GE346)) (nl_ hg (bk_ BK346)) (ng_ hg (bk_ BK346)) ?_; clear BK346 HB hb hbox hg; intro BK346 HB BK347 GE347 NB346_347 NB347_346; have hnb21 := NB346_347.out; have hnc21 := NB347_346.out; have hcz22 := cf2_ BK346) | ((with_reducible refine gate_callee (f := 130) rfl ?_); refine gl_ 7 Try.func130 (impl_AngleOf.calls a0_0 t348 _ A3.out) ?_; rintro e w' ⟨rfl, ⟨nd, rfl⟩⟩; refine ⟨_, rfl, ?_⟩; (try (rw [drewN_self w20]; generalize hq_ : World.drewN w20 _ = w20; have n0_ : Aside0 (w20.heap[gb346]? = some (.cells #[.int .i64 a0_0, .int .i64 a0_1] 113 (0, 0))) := ⟨by rw [← hq_]; exact (bk_ BK346)⟩; have n1_ : Aside0 (w20.heap[gb347]? = some (.cells #[.int .i64 0, .int .i64 0] 113 (0, 0))) := ⟨by rw [← hq_]; exact (bk_ BK347)⟩; have n2_ : Aside0 (Below w.heap.size w w20) := ⟨by rw [← hq_]; exact (bl2_ HB GE346 GE347)⟩; clear BK346 BK347 HB hq_; have BK346 := n0_; have BK347 := n1_; have HB := n2_; clear n0_ n1_ n2_)); have hcz23 := cf2_ BK346) | ((with_reducible refine gate_callee (f := 120) rfl ?_); refine gl_ 10 Try.func120 (impl_InRange.calls a1 0 360 true _ A4.out) ?_; rintro e w' ⟨rfl, ⟨nd, rfl⟩⟩; refine ⟨_, rfl, ?_⟩) | (go_at_call 131; (with_reducible refine (impl_isWidth.calls a0_1 false _ A6.out).mono ?_); rintro e w' ⟨rfl, ⟨nd, rfl⟩⟩; have hcz24 := cf2_ BK347))
   refine bodyPost_ret (results_cell_row rfl _ _ gb347 113 #[.int .i64 t348, .int .i64 a0_1] (0, 0) _ rfl (bp_ BK347) Try.underlying113 rfl (by kernel_rfl)) rfl ?_
   exact ⟨er_, bl2_ HB GE346 GE347⟩
 ·replace c5 := Bool.eq_false_iff.mpr c5
  subst c5
  have H1 : (some (t348, a0_1)) = some (r1, r2) := by rw [if_neg (show ¬ (false = true) by decide)] at H; exact H
  clear H
  have H := H1
  clear H1
  simp only [Option.some.injEq, Prod.mk.injEq] at H
  obtain ⟨rfl, rfl⟩ := H
  go_enter Try.func134, Try.ntmps134
  go_wp2_with (first | ((with_reducible refine gd_ 2 ?_); refine bx_ 2 113 #[.int .i64 a0_0, .int .i64 a0_1] ?_; intro gb346 hg w25 hbox hb; refine sh3_ (below_step (bl_ HB) hb) hbox (ge_ hg (bl_ HB)) ?_; clear HB hb hbox hg; intro HB BK346 GE346) | ((with_reducible refine gd_ 4 ?_); refine bx_ 4 113 #[.int .i64 0, .int .i64 0] ?_; intro gb347 hg w26 hbox hb; refine sh6_ (blk_below (bk_ BK346) hb) (below_step (bl1_ HB GE346) hb) hbox (ge_ hg (bl1_ HB GE346)) (nl_ hg (bk_ BK346)) (ng_ hg (bk_ BK346)) ?_; clear BK346 HB hb hbox hg; intro BK346 HB BK347 GE347 NB346_347 NB347_346; have hnb27 := NB346_347.out; have hnc27 := NB347_346.out; have hcz28 := cf2_ BK346) | ((with_reducible refine gate_callee (f := 130) rfl ?_); refine gl_ 7 Try.func130 (impl_AngleOf.calls a0_0 t348 _ A3.out) ?_; rintro e w' ⟨rfl, ⟨nd, rfl⟩⟩; refine ⟨_, rfl, ?_⟩; (try (rw [drewN_self w26]; generalize hq_ : World.drewN w26 _ = w26; have n0_ : Aside0 (w26.heap[gb346]? = some (.cells #[.int .i64 a0_0, .int .i64 a0_1] 113 (0, 0))) := ⟨by rw [← hq_]; exact (bk_ BK346)⟩; have n1_ : Aside0 (w26.heap[gb347]? = some (.cells #[.int .i64 0, .int .i64 0] 113 (0, 0))) := ⟨by rw [← hq_]; exact (bk_ BK347)⟩; have n2_ : Aside0 (Below w.heap.size w w26) := ⟨by rw [← hq_]; exact (bl2_ HB GE346 GE347)⟩; clear BK346 BK347 HB hq_; have BK346 := n0_; have BK347 := n1_; have HB := n2_; clear n0_ n1_ n2_)); have hcz29 := cf2_ BK346) | ((with_reducible refine gate_callee (f := 120) rfl ?_); refine gl_ 10 Try.func120 (impl_InRange.calls a1 0 360 false _ A4.out) ?_; rintro e w' ⟨rfl, ⟨nd, rfl⟩⟩; refine ⟨_, rfl, ?_⟩; have hcz30 := cf2_ BK347))
  refine bodyPost_ret (results_cell_row rfl _ _ gb347 113 #[.int .i64 t348, .int .i64 a0_1] (0, 0) _ rfl (bp_ BK347) Try.underlying113 rfl (by kernel_rfl)) rfl ?_
  exact ⟨er_, bl2_ HB GE346 GE347⟩

/-! ### impl_PlacesAt: function 121 -/
def impl_PlacesAt.f (a0_0 : Int) (a0_1 : Int) (a0_2 : Int) (a0_3 : Int) (a1 : Int) : Option (Int × Int) := (impl_PlaceAt.f a0_0 a0_1 a0_2 a0_3 a1).bind fun t354 => ((impl_WidenArc.f t354 0 a0_3).bind fun bt355 => (some (bt355.1, bt355.2)))
def impl_PlacesAt.T1 : Bool × List (List Nat × List Nat) := (true, [([], []), ([], []), ([0, 1], [0, 1]), ([2], [2]), ([], []), ([4], [4]), ([3, 5, 2], [3, 5]), ([6, 6, 0, 1, 2, 3, 4, 5, 6], [6])])
def impl_PlacesAt.B1 : List Nat := [0, 0, 3, 7, 0, 16, 63, 127]
theorem impl_PlacesAt.tab1 : rtab .any (opsOf Try.f121 1) = impl_PlacesAt.T1 := by kernel_rfl
theorem impl_PlacesAt.bits1 : waitsOk impl_PlacesAt.T1.2 impl_PlacesAt.B1 = true := by kernel_rfl
set_option maxHeartbeats 8000000 in
set_option maxRecDepth 100000 in
theorem impl_PlacesAt.calls (a0_0 : Int) (a0_1 : Int) (a0_2 : Int) (a0_3 : Int) (a1 : Int) (r1 : Int) (r2 : Int) (w : World) (h : impl_PlacesAt.f a0_0 a0_1 a0_2 a0_3 a1 = some (r1, r2)) :
  Calls Try.prog 121 #[.agg #[.int .i64 a0_0, .int .i64 a0_1, .int .i64 a0_2, .int .i64 a0_3], .int .i64 a1] w fun e w' => e = .returned (.agg #[.int .i64 r1, .int .i64 r2]) ∧ Below w.heap.size w w' := by
 have hu105 := Try.underlying105
 have hu113 := Try.underlying113
 have HB := Aside0.mk (Below.refl w.heap.size w)
 have H := h
 clear h
 unfold impl_PlacesAt.f at H
 replace H := bs_ H
 obtain ⟨t354, A3, H⟩ := H
 replace H := bs_ H
 obtain ⟨⟨t355, t356⟩, A4, H⟩ := H
 dsimp only at H
 simp only [Option.some.injEq, Prod.mk.injEq] at H
 obtain ⟨rfl, rfl⟩ := H
 go_enter Try.func121, Try.ntmps121
 try go_wp2_with (first | ((with_reducible refine gd_ 2 ?_); refine bx_ 2 105 #[.int .i64 a0_0, .int .i64 a0_1, .int .i64 a0_2, .int .i64 a0_3] ?_; intro gb352 hg w5 hbox hb; refine sh3_ (below_step (bl_ HB) hb) hbox (ge_ hg (bl_ HB)) ?_; clear HB hb hbox hg; intro HB BK352 GE352) | ((with_reducible refine gd_ 4 ?_); refine bx_ 4 113 #[.int .i64 0, .int .i64 0] ?_; intro gb353 hg w6 hbox hb; refine sh6_ (blk_below (bk_ BK352) hb) (below_step (bl1_ HB GE352) hb) hbox (ge_ hg (bl1_ HB GE352)) (nl_ hg (bk_ BK352)) (ng_ hg (bk_ BK352)) ?_; clear BK352 HB hb hbox hg; intro BK352 HB BK353 GE353 NB352_353 NB353_352))
 refine sh3_ (blk_drew BK352.out) (blk_drew BK353.out) (below_drew1 HB.out) ?_
 clear BK352 BK353 HB
 intro BK352 BK353 HB
 refine start_ (n := 8) (S := fun w' => Cz4 w' gb352 (.int .i64 a0_0) (.int .i64 a0_1) (.int .i64 a0_2) (.int .i64 a0_3)) (ds := []) #[false, false, false, false, false, false, false, false] (by kernel_rfl) rfl rfl (cz4_ BK352) (fun hHeld => ?_); refine with_tabW impl_PlacesAt.tab1 impl_PlacesAt.bits1 (fun HT_ HW_ => ?_)
 generalize w6.drew = w7 at BK352 BK353 HB hHeld ⊢
 refine pur_ 1 #[false, true, false, false, false, false, false, false] (some 6) HT_ ?_
 refine pur_ 4 #[false, true, false, false, true, false, false, false] (some 9) HT_ ?_
 refine tak_ 0 #[true, true, false, false, true, false, false, false] (some 5) HT_ HW_ hHeld ?_
 refine tak_ 5 #[true, true, false, false, true, true, false, false] (some 10) HT_ HW_ hHeld ?_
 refine onc_ 2 #[true, true, true, false, true, true, false, false] (some 7) HT_ Try.func123 (impl_PlaceAt.calls a0_0 a0_1 a0_2 a0_3 a1 t354 _ A3.out) ?_
 rintro e w8 ⟨rfl, hb⟩
 refine sh3_ (blk_below (bk_ BK352) hb) (blk_below (bk_ BK353) hb) (below_step (bl2_ HB GE352 GE353) hb) ?_
 clear BK352 BK353 HB hb
 intro BK352 BK353 HB
 refine ⟨_, _, rfl, (cz4_ BK352), pt_, fun hHeld => ?_⟩
 refine pur_ 3 #[true, true, true, true, true, true, false, false] (some 8) HT_ ?_
 refine onc_ 6 #[true, true, true, true, true, true, true, false] (some 11) HT_ Try.func134 (impl_WidenArc.calls t354 0 a0_3 t355 t356 _ A4.out) ?_
 rintro e w9 ⟨rfl, hb⟩
 refine sh3_ (blk_below (bk_ BK352) hb) (blk_below (bk_ BK353) hb) (below_step (bl2_ HB GE352 GE353) hb) ?_
 clear BK352 BK353 HB hb
 intro BK352 BK353 HB
 refine ⟨_, _, rfl, (cz4_ BK352), pt_, fun hHeld => ?_⟩
 refine one_ (i := 7) (N := none) #[true, true, true, true, true, true, true, true] rfl rfl (one_of HT_.out (by kernel_rfl)) (by decide) (fun K hK => ?_)
 have hs10 : w9.cell? ⟨gb353, 0, none⟩ = some (.int .i64 0) := bc_ BK353 0 rfl
 have hfs10 := bf_ BK353 0
 have hns10_0 := NB352_353.out
 have hms10_0 := NB353_352.out
 have hs11 : w9.cell? ⟨gb353, 1, none⟩ = some (.int .i64 0) := bc_ BK353 1 rfl
 have hfs11 := bf_ BK353 1
 have hns11_0 := NB352_353.out
 have hms11_0 := NB353_352.out
 refine skip_ (w1 := ?_) (by rfl) rfl ?_ ?_
 rotate_left
 ·go_simp
  rfl
 refine hK.out _ _ ⟨((cell_far (p := ⟨gb353, _, none⟩) NB352_353.out _).trans (((cell_far (p := ⟨gb353, _, none⟩) NB352_353.out _).trans (hHeld.1)))), ((cell_far (p := ⟨gb353, _, none⟩) NB352_353.out _).trans (((cell_far (p := ⟨gb353, _, none⟩) NB352_353.out _).trans (hHeld.2.1)))), ((cell_far (p := ⟨gb353, _, none⟩) NB352_353.out _).trans (((cell_far (p := ⟨gb353, _, none⟩) NB352_353.out _).trans (hHeld.2.2.1)))), ((cell_far (p := ⟨gb353, _, none⟩) NB352_353.out _).trans (((cell_far (p := ⟨gb353, _, none⟩) NB352_353.out _).trans (hHeld.2.2.2))))⟩ (fun hHeld => ?_)
 clear hK K
 refine done_ (done_of HT_.out (by kernel_rfl)) ?_
 try go_wp2
 refine bodyPost_ret (results_cell_row rfl _ _ gb353 113 #[.int .i64 t355, .int .i64 t356] (0, 0) _ rfl (bp_ BK353) Try.underlying113 rfl (by kernel_rfl)) rfl ?_
 exact ⟨er_, bl2_ HB GE352 GE353⟩

/-! ### impl_NodesOf: function 69 -/
def impl_NodesOf.f (a0_0 : Int) (l0_1 : List (S105)) (l0_2 : List (S109)) (a0_3 : Int) (a0_4 : Int) (a0_5 : Int) (a0_6 : Int) (a0_7 : Int) (l0_8 : List (S115)) (a0_9 : Int) : Option (Int) := some (wrap64 ((l0_1.length : Int) + (l0_2.length : Int)))
set_option maxHeartbeats 8000000 in
set_option maxRecDepth 100000 in
theorem impl_NodesOf.calls (a0_0 : Int) (A0_1 : Option Addr) (c0_1 : Nat) (l0_1 : List (S105)) (A0_2 : Option Addr) (c0_2 : Nat) (l0_2 : List (S109)) (a0_3 : Int) (a0_4 : Int) (a0_5 : Int) (a0_6 : Int) (a0_7 : Int) (A0_8 : Option Addr) (c0_8 : Nat) (l0_8 : List (S115)) (a0_9 : Int) (r : Int) (w : World) (hr0_1 : Kd.C k105 w A0_1 l0_1.length l0_1) (hc0_1 : l0_1.length ≤ c0_1) (hr0_2 : Kd.C k109 w A0_2 l0_2.length l0_2) (hc0_2 : l0_2.length ≤ c0_2) (hr0_8 : Kd.C k115 w A0_8 l0_8.length l0_8) (hc0_8 : l0_8.length ≤ c0_8) (h : impl_NodesOf.f a0_0 l0_1 l0_2 a0_3 a0_4 a0_5 a0_6 a0_7 l0_8 a0_9 = some r) :
  Calls Try.prog 69 #[.agg #[.int .i64 a0_0, .slice A0_1 l0_1.length c0_1, .slice A0_2 l0_2.length c0_2, .int .i64 a0_3, .int .i64 a0_4, .int .i64 a0_5, .int .i64 a0_6, .int .i64 a0_7, .slice A0_8 l0_8.length c0_8, .int .i64 a0_9]] w fun e w' => e = .returned (.int .i64 r) ∧ Below w.heap.size w w' := by
 have hu34 := Try.underlying34
 have HR0_1 := Aside0.mk hr0_1
 have HC0_1 := Aside0.mk hc0_1
 clear hr0_1 hc0_1
 have HR0_2 := Aside0.mk hr0_2
 have HC0_2 := Aside0.mk hc0_2
 clear hr0_2 hc0_2
 have HR0_8 := Aside0.mk hr0_8
 have HC0_8 := Aside0.mk hc0_8
 clear hr0_8 hc0_8
 have HB := Aside0.mk (Below.refl w.heap.size w)
 have H := h
 clear h
 unfold impl_NodesOf.f at H
 obtain rfl := Option.some.inj H
 go_enter Try.func69, Try.ntmps69
 go_wp2_with (first | ((with_reducible refine gd_ 1 ?_); refine bx_ 1 34 #[.int .i64 a0_0, .slice A0_1 l0_1.length c0_1, .slice A0_2 l0_2.length c0_2, .int .i64 a0_3, .int .i64 a0_4, .int .i64 a0_5, .int .i64 a0_6, .int .i64 a0_7, .slice A0_8 l0_8.length c0_8, .int .i64 a0_9] ?_; intro gb357 hg w2 hbox hb; refine sh3_ (below_step (bl_ HB) hb) hbox (ge_ hg (bl_ HB)) ?_; clear HB hb hbox hg; intro HB BK357 GE357; have hcz3 := cf10_ BK357))
 go_ret
 exact ⟨er_, bl1_ HB GE357⟩

/-! ### impl_IsSite: function 122 -/
def impl_IsSite.f (a0_0 : Int) (l0_1 : List (S105)) (l0_2 : List (S109)) (a0_3 : Int) (a0_4 : Int) (a0_5 : Int) (a0_6 : Int) (a0_7 : Int) (l0_8 : List (S115)) (a0_9 : Int) (a1 : Int) : Option (Bool) := (impl_NodesOf.f a0_0 l0_1 l0_2 a0_3 a0_4 a0_5 a0_6 a0_7 l0_8 a0_9).bind fun t359 => ((impl_InRange.f a1 (l0_1.length : Int) (wrap64 (t359 - 1))).bind fun t360 => (some t360))
def impl_IsSite.T1 : Bool × List (List Nat × List Nat) := (true, [([], []), ([], []), ([1], [1]), ([2], [2]), ([], []), ([4], [4]), ([5], [5]), ([0, 3, 6, 5], [0, 3, 6]), ([7, 7, 0, 1, 2, 3, 4, 5, 6, 7], [7])])
def impl_IsSite.B1 : List Nat := [0, 0, 2, 6, 0, 16, 48, 127, 255]
theorem impl_IsSite.tab1 : rtab .any (opsOf Try.f122 1) = impl_IsSite.T1 := by kernel_rfl
theorem impl_IsSite.bits1 : waitsOk impl_IsSite.T1.2 impl_IsSite.B1 = true := by kernel_rfl
set_option maxHeartbeats 8000000 in
set_option maxRecDepth 100000 in
theorem impl_IsSite.calls (a0_0 : Int) (A0_1 : Option Addr) (c0_1 : Nat) (l0_1 : List (S105)) (A0_2 : Option Addr) (c0_2 : Nat) (l0_2 : List (S109)) (a0_3 : Int) (a0_4 : Int) (a0_5 : Int) (a0_6 : Int) (a0_7 : Int) (A0_8 : Option Addr) (c0_8 : Nat) (l0_8 : List (S115)) (a0_9 : Int) (a1 : Int) (r : Bool) (w : World) (hr0_1 : Kd.C k105 w A0_1 l0_1.length l0_1) (hc0_1 : l0_1.length ≤ c0_1) (hr0_2 : Kd.C k109 w A0_2 l0_2.length l0_2) (hc0_2 : l0_2.length ≤ c0_2) (hr0_8 : Kd.C k115 w A0_8 l0_8.length l0_8) (hc0_8 : l0_8.length ≤ c0_8) (h : impl_IsSite.f a0_0 l0_1 l0_2 a0_3 a0_4 a0_5 a0_6 a0_7 l0_8 a0_9 a1 = some r) :
  Calls Try.prog 122 #[.agg #[.int .i64 a0_0, .slice A0_1 l0_1.length c0_1, .slice A0_2 l0_2.length c0_2, .int .i64 a0_3, .int .i64 a0_4, .int .i64 a0_5, .int .i64 a0_6, .int .i64 a0_7, .slice A0_8 l0_8.length c0_8, .int .i64 a0_9], .int .i64 a1] w fun e w' => e = .returned (.bool r) ∧ Below w.heap.size w w' := by
 have hu34 := Try.underlying34
 have HR0_1 := Aside0.mk hr0_1
 have HC0_1 := Aside0.mk hc0_1
 clear hr0_1 hc0_1
 have HR0_2 := Aside0.mk hr0_2
 have HC0_2 := Aside0.mk hc0_2
 clear hr0_2 hc0_2
 have HR0_8 := Aside0.mk hr0_8
 have HC0_8 := Aside0.mk hc0_8
 clear hr0_8 hc0_8
 have HB := Aside0.mk (Below.refl w.heap.size w)
 have H := h
 clear h
 unfold impl_IsSite.f at H
 replace H := bs_ H
 obtain ⟨t359, A3, H⟩ := H
 replace H := bs_ H
 obtain ⟨t360, A4, H⟩ := H
 obtain rfl := Option.some.inj H
 go_enter Try.func122, Try.ntmps122
 try go_wp2_with (first | ((with_reducible refine gd_ 2 ?_); refine bx_ 2 34 #[.int .i64 a0_0, .slice A0_1 l0_1.length c0_1, .slice A0_2 l0_2.length c0_2, .int .i64 a0_3, .int .i64 a0_4, .int .i64 a0_5, .int .i64 a0_6, .int .i64 a0_7, .slice A0_8 l0_8.length c0_8, .int .i64 a0_9] ?_; intro gb358 hg w5 hbox hb; refine sh3_ (below_step (bl_ HB) hb) hbox (ge_ hg (bl_ HB)) ?_; clear HB hb hbox hg; intro HB BK358 GE358))
 refine sh2_ (blk_drew BK358.out) (below_drew1 HB.out) ?_
 clear BK358 HB
 intro BK358 HB
 refine start_ (n := 9) (S := fun w' => Cz10 w' gb358 (.int .i64 a0_0) (.slice A0_1 l0_1.length c0_1) (.slice A0_2 l0_2.length c0_2) (.int .i64 a0_3) (.int .i64 a0_4) (.int .i64 a0_5) (.int .i64 a0_6) (.int .i64 a0_7) (.slice A0_8 l0_8.length c0_8) (.int .i64 a0_9)) (ds := []) #[false, false, false, false, false, false, false, false, false] (by kernel_rfl) rfl rfl (cz10_ BK358) (fun hHeld => ?_); refine with_tabW impl_IsSite.tab1 impl_IsSite.bits1 (fun HT_ HW_ => ?_)
 generalize w5.drew = w6 at BK358 HB hHeld ⊢
 refine pur_ 0 #[true, false, false, false, false, false, false, false, false] (some 5) HT_ ?_
 refine pur_ 1 #[true, true, false, false, false, false, false, false, false] (some 6) HT_ ?_
 refine tak_ 2 #[true, true, true, false, false, false, false, false, false] (some 7) HT_ HW_ hHeld ?_
 refine pur_ 3 #[true, true, true, true, false, false, false, false, false] (some 8) HT_ ?_
 refine tak_ 4 #[true, true, true, true, true, false, false, false, false] (some 9) HT_ HW_ hHeld ?_
 refine onc_ 5 #[true, true, true, true, true, true, false, false, false] (some 10) HT_ Try.func69 (impl_NodesOf.calls a0_0 _ _ l0_1 _ _ l0_2 a0_3 a0_4 a0_5 a0_6 a0_7 _ _ l0_8 a0_9 t359 _ (ck_ HR0_1 HB) HC0_1.out (ck_ HR0_2 HB) HC0_2.out (ck_ HR0_8 HB) HC0_8.out A3.out) ?_
 rintro e w7 ⟨rfl, hb⟩
 refine sh2_ (blk_below (bk_ BK358) hb) (below_step (bl1_ HB GE358) hb) ?_
 clear BK358 HB hb
 intro BK358 HB
 refine ⟨_, _, rfl, (cz10_ BK358), pt_, fun hHeld => ?_⟩
 refine pur_ 6 #[true, true, true, true, true, true, true, false, false] (some 11) HT_ ?_
 refine onc_ 7 #[true, true, true, true, true, true, true, true, false] (some 12) HT_ Try.func120 (impl_InRange.calls a1 (l0_1.length : Int) (wrap64 (t359 - 1)) t360 _ A4.out) ?_
 rintro e w' ⟨rfl, ⟨nd, rfl⟩⟩
 refine ⟨_, _, rfl, (cz10_ BK358), pt_, fun hHeld => ?_⟩
 refine pur_ 8 #[true, true, true, true, true, true, true, true, true] (some 4) HT_ ?_
 refine done_ (done_of HT_.out (by kernel_rfl)) ?_
 try go_wp2
 go_ret
 exact ⟨er_, bl1_ HB GE358⟩

/-! ### impl_NodeAt: function 106 -/
def impl_NodeAt.f (a0_0 : Int) (l0_1 : List (S105)) (l0_2 : List (S109)) (a0_3 : Int) (a0_4 : Int) (a0_5 : Int) (a0_6 : Int) (a0_7 : Int) (l0_8 : List (S115)) (a0_9 : Int) (a1 : Int) (a2 : Int) : Option (Int × Int) := (impl_isSatellite.f a0_0 l0_1 l0_2 a0_3 a0_4 a0_5 a0_6 a0_7 l0_8 a0_9 a1).bind fun t363 => (if t363 = true then (if 0 ≤ a1 then (if a1 < (l0_1.length : Int) then ((impl_PlacesAt.f ((rd_T105 l0_1 a1).f0) ((rd_T105 l0_1 a1).f1) ((rd_T105 l0_1 a1).f2) ((rd_T105 l0_1 a1).f3) a2).bind fun bt365 => (some (bt365.1, bt365.2))) else (none)) else (none)) else ((impl_IsSite.f a0_0 l0_1 l0_2 a0_3 a0_4 a0_5 a0_6 a0_7 l0_8 a0_9 a1).bind fun t367 => (if t367 = true then (if 0 ≤ (wrap64 (a1 - (l0_1.length : Int))) then (if (wrap64 (a1 - (l0_1.length : Int))) < (l0_2.length : Int) then ((impl_PlaceAt.f 0 ((rd_T109 l0_2 (wrap64 (a1 - (l0_1.length : Int)))).f1) ((rd_T109 l0_2 (wrap64 (a1 - (l0_1.length : Int)))).f2) 0 a2).bind fun t370 => (some (t370, 0))) else (none)) else (none)) else (some (0, 0)))))
set_option maxHeartbeats 8000000 in
set_option maxRecDepth 100000 in
theorem impl_NodeAt.calls (a0_0 : Int) (A0_1 : Option Addr) (c0_1 : Nat) (l0_1 : List (S105)) (A0_2 : Option Addr) (c0_2 : Nat) (l0_2 : List (S109)) (a0_3 : Int) (a0_4 : Int) (a0_5 : Int) (a0_6 : Int) (a0_7 : Int) (A0_8 : Option Addr) (c0_8 : Nat) (l0_8 : List (S115)) (a0_9 : Int) (a1 : Int) (a2 : Int) (r1 : Int) (r2 : Int) (w : World) (hr0_1 : Kd.C k105 w A0_1 l0_1.length l0_1) (hc0_1 : l0_1.length ≤ c0_1) (hr0_2 : Kd.C k109 w A0_2 l0_2.length l0_2) (hc0_2 : l0_2.length ≤ c0_2) (hr0_8 : Kd.C k115 w A0_8 l0_8.length l0_8) (hc0_8 : l0_8.length ≤ c0_8) (h : impl_NodeAt.f a0_0 l0_1 l0_2 a0_3 a0_4 a0_5 a0_6 a0_7 l0_8 a0_9 a1 a2 = some (r1, r2)) :
  Calls Try.prog 106 #[.agg #[.int .i64 a0_0, .slice A0_1 l0_1.length c0_1, .slice A0_2 l0_2.length c0_2, .int .i64 a0_3, .int .i64 a0_4, .int .i64 a0_5, .int .i64 a0_6, .int .i64 a0_7, .slice A0_8 l0_8.length c0_8, .int .i64 a0_9], .int .i64 a1, .int .i64 a2] w fun e w' => e = .returned (.agg #[.int .i64 r1, .int .i64 r2]) ∧ Below w.heap.size w w' := by
 have hu34 := Try.underlying34
 have hu113 := Try.underlying113
 have hu105 := Try.underlying105
 have hu109 := Try.underlying109
 have HR0_1 := Aside0.mk hr0_1
 have HC0_1 := Aside0.mk hc0_1
 clear hr0_1 hc0_1
 have HR0_2 := Aside0.mk hr0_2
 have HC0_2 := Aside0.mk hc0_2
 clear hr0_2 hc0_2
 have HR0_8 := Aside0.mk hr0_8
 have HC0_8 := Aside0.mk hc0_8
 clear hr0_8 hc0_8
 have HB := Aside0.mk (Below.refl w.heap.size w)
 have H := h
 clear h
 unfold impl_NodeAt.f at H
 replace H := bs_ H
 obtain ⟨t363, A4, H⟩ := H
 by_cases c5 : t363 = true
 ·subst c5
  have H1 : (if 0 ≤ a1 then (if a1 < (l0_1.length : Int) then ((impl_PlacesAt.f ((rd_T105 l0_1 a1).f0) ((rd_T105 l0_1 a1).f1) ((rd_T105 l0_1 a1).f2) ((rd_T105 l0_1 a1).f3) a2).bind fun bt365 => (some (bt365.1, bt365.2))) else (none)) else (none)) = some (r1, r2) := by rw [if_pos rfl] at H; exact H
  clear H
  have H := H1
  clear H1
  replace H := ifn_ H
  obtain ⟨c6, H⟩ := H
  have c6b0 := decide_eq_true c6
  clear c6
  replace H := ifn_ H
  obtain ⟨c7, H⟩ := H
  have c7b0 := decide_eq_true c7
  clear c7
  replace H := bs_ H
  obtain ⟨⟨t365, t366⟩, A8, H⟩ := H
  dsimp only at H
  simp only [Option.some.injEq, Prod.mk.injEq] at H
  obtain ⟨rfl, rfl⟩ := H
  go_enter Try.func106, Try.ntmps106
  go_wp2_with (first | ((with_reducible refine gd_ 3 ?_); refine bx_ 3 34 #[.int .i64 a0_0, .slice A0_1 l0_1.length c0_1, .slice A0_2 l0_2.length c0_2, .int .i64 a0_3, .int .i64 a0_4, .int .i64 a0_5, .int .i64 a0_6, .int .i64 a0_7, .slice A0_8 l0_8.length c0_8, .int .i64 a0_9] ?_; intro gb361 hg w9 hbox hb; refine sh3_ (below_step (bl_ HB) hb) hbox (ge_ hg (bl_ HB)) ?_; clear HB hb hbox hg; intro HB BK361 GE361) | ((with_reducible refine gd_ 6 ?_); refine bx_ 6 113 #[.int .i64 0, .int .i64 0] ?_; intro gb362 hg w10 hbox hb; refine sh6_ (blk_below (bk_ BK361) hb) (below_step (bl1_ HB GE361) hb) hbox (ge_ hg (bl1_ HB GE361)) (nl_ hg (bk_ BK361)) (ng_ hg (bk_ BK361)) ?_; clear BK361 HB hb hbox hg; intro BK361 HB BK362 GE362 NB361_362 NB362_361; have hnb11 := NB361_362.out; have hnc11 := NB362_361.out; have hcz12 := cf10_ BK361) | ((with_reducible refine gate_callee (f := 105) rfl ?_); refine gl_ 11 Try.func105 (impl_isSatellite.calls a0_0 _ _ l0_1 _ _ l0_2 a0_3 a0_4 a0_5 a0_6 a0_7 _ _ l0_8 a0_9 a1 true _ (ck_ HR0_1 HB) HC0_1.out (ck_ HR0_2 HB) HC0_2.out (ck_ HR0_8 HB) HC0_8.out A4.out) ?_; rintro e w13 ⟨rfl, hb⟩; refine ⟨_, rfl, sh3_ (blk_below (bk_ BK361) hb) (blk_below (bk_ BK362) hb) (below_step (bl2_ HB GE361 GE362) hb) ?_⟩; clear BK361 BK362 HB hb; intro BK361 BK362 HB; have hcz14 := cf10_ BK361; have p364 : 0 ≤ (a1 : Int) := od_; have q364 : a1 < (l0_1.length : Int) := od_; obtain ⟨ad364, e364, hx364_0, hx364_1, hx364_2, hx364_3⟩ := at_T105 HR0_1.out a1 p364 q364; cases e364; replace hx364_0 := hbc_ HB hx364_0; replace hx364_1 := hbc_ HB hx364_1; replace hx364_2 := hbc_ HB hx364_2; replace hx364_3 := hbc_ HB hx364_3; replace p364 := eq_true p364; replace q364 := eq_true q364) | ((with_reducible refine gate_callee (f := 121) rfl ?_); refine gl_ 18 Try.func121 (impl_PlacesAt.calls ((rd_T105 l0_1 a1).f0) ((rd_T105 l0_1 a1).f1) ((rd_T105 l0_1 a1).f2) ((rd_T105 l0_1 a1).f3) a2 t365 t366 _ A8.out) ?_; rintro e w15 ⟨rfl, hb⟩; refine ⟨_, rfl, sh3_ (blk_below (bk_ BK361) hb) (blk_below (bk_ BK362) hb) (below_step (bl2_ HB GE361 GE362) hb) ?_⟩; clear BK361 BK362 HB hb; intro BK361 BK362 HB; have hcz16 := cf2_ BK362))
  refine bodyPost_ret (results_cell_row rfl _ _ gb362 113 #[.int .i64 t365, .int .i64 t366] (0, 0) _ rfl (bp_ BK362) Try.underlying113 rfl (by kernel_rfl)) rfl ?_
  exact ⟨er_, bl2_ HB GE361 GE362⟩
 ·replace c5 := Bool.eq_false_iff.mpr c5
  subst c5
  have H1 : ((impl_IsSite.f a0_0 l0_1 l0_2 a0_3 a0_4 a0_5 a0_6 a0_7 l0_8 a0_9 a1).bind fun t367 => (if t367 = true then (if 0 ≤ (wrap64 (a1 - (l0_1.length : Int))) then (if (wrap64 (a1 - (l0_1.length : Int))) < (l0_2.length : Int) then ((impl_PlaceAt.f 0 ((rd_T109 l0_2 (wrap64 (a1 - (l0_1.length : Int)))).f1) ((rd_T109 l0_2 (wrap64 (a1 - (l0_1.length : Int)))).f2) 0 a2).bind fun t370 => (some (t370, 0))) else (none)) else (none)) else (some (0, 0)))) = some (r1, r2) := by rw [if_neg (show ¬ (false = true) by decide)] at H; exact H
  clear H
  have H := H1
  clear H1
  replace H := bs_ H
  obtain ⟨t367, A17, H⟩ := H
  by_cases c18 : t367 = true
  ·subst c18
   have H1 : (if 0 ≤ (wrap64 (a1 - (l0_1.length : Int))) then (if (wrap64 (a1 - (l0_1.length : Int))) < (l0_2.length : Int) then ((impl_PlaceAt.f 0 ((rd_T109 l0_2 (wrap64 (a1 - (l0_1.length : Int)))).f1) ((rd_T109 l0_2 (wrap64 (a1 - (l0_1.length : Int)))).f2) 0 a2).bind fun t370 => (some (t370, 0))) else (none)) else (none)) = some (r1, r2) := by rw [if_pos rfl] at H; exact H
   clear H
   have H := H1
   clear H1
   obtain ⟨ji19, hji19⟩ : ∃ j_ : Int, (wrap64 (a1 - (l0_1.length : Int))) = j_ := ⟨_, rfl⟩
   replace H : (if 0 ≤ (ji19) then (if (ji19) < (l0_2.length : Int) then ((impl_PlaceAt.f 0 ((rd_T109 l0_2 (ji19)).f1) ((rd_T109 l0_2 (ji19)).f2) 0 a2).bind fun t370 => (some (t370, 0))) else (none)) else (none)) = some (r1, r2) := by first | (rw [hji19] at H; exact H) | (simp only [hji19] at H ⊢; exact H)
   (try rw [hji19] at A4)
   (try rw [hji19] at A17)
   have hji19w : (IntKind.i64.wrap (a1 - (l0_1.length : Int))) = ji19 := (i64_w _).trans hji19
   replace H := ifn_ H
   obtain ⟨c20, H⟩ := H
   have c20b0 := decide_eq_true c20
   clear c20
   replace H := ifn_ H
   obtain ⟨c21, H⟩ := H
   have c21b0 := decide_eq_true c21
   clear c21
   replace H := bs_ H
   obtain ⟨t370, A22, H⟩ := H
   simp only [Option.some.injEq, Prod.mk.injEq] at H
   obtain ⟨rfl, rfl⟩ := H
   go_enter Try.func106, Try.ntmps106
   go_wp2_with (first | ((with_reducible refine gd_ 3 ?_); refine bx_ 3 34 #[.int .i64 a0_0, .slice A0_1 l0_1.length c0_1, .slice A0_2 l0_2.length c0_2, .int .i64 a0_3, .int .i64 a0_4, .int .i64 a0_5, .int .i64 a0_6, .int .i64 a0_7, .slice A0_8 l0_8.length c0_8, .int .i64 a0_9] ?_; intro gb361 hg w23 hbox hb; refine sh3_ (below_step (bl_ HB) hb) hbox (ge_ hg (bl_ HB)) ?_; clear HB hb hbox hg; intro HB BK361 GE361) | ((with_reducible refine gd_ 6 ?_); refine bx_ 6 113 #[.int .i64 0, .int .i64 0] ?_; intro gb362 hg w24 hbox hb; refine sh6_ (blk_below (bk_ BK361) hb) (below_step (bl1_ HB GE361) hb) hbox (ge_ hg (bl1_ HB GE361)) (nl_ hg (bk_ BK361)) (ng_ hg (bk_ BK361)) ?_; clear BK361 HB hb hbox hg; intro BK361 HB BK362 GE362 NB361_362 NB362_361; have hnb25 := NB361_362.out; have hnc25 := NB362_361.out; have hcz26 := cf10_ BK361) | ((with_reducible refine gate_callee (f := 105) rfl ?_); refine gl_ 11 Try.func105 (impl_isSatellite.calls a0_0 _ _ l0_1 _ _ l0_2 a0_3 a0_4 a0_5 a0_6 a0_7 _ _ l0_8 a0_9 a1 false _ (ck_ HR0_1 HB) HC0_1.out (ck_ HR0_2 HB) HC0_2.out (ck_ HR0_8 HB) HC0_8.out A4.out) ?_; rintro e w27 ⟨rfl, hb⟩; refine ⟨_, rfl, sh3_ (blk_below (bk_ BK361) hb) (blk_below (bk_ BK362) hb) (below_step (bl2_ HB GE361 GE362) hb) ?_⟩; clear BK361 BK362 HB hb; intro BK361 BK362 HB; have hcz28 := cf10_ BK361) | ((with_reducible refine gate_callee (f := 122) rfl ?_); refine gl_ 22 Try.func122 (impl_IsSite.calls a0_0 _ _ l0_1 _ _ l0_2 a0_3 a0_4 a0_5 a0_6 a0_7 _ _ l0_8 a0_9 a1 true _ (ck_ HR0_1 HB) HC0_1.out (ck_ HR0_2 HB) HC0_2.out (ck_ HR0_8 HB) HC0_8.out A17.out) ?_; rintro e w29 ⟨rfl, hb⟩; refine ⟨_, rfl, sh3_ (blk_below (bk_ BK361) hb) (blk_below (bk_ BK362) hb) (below_step (bl2_ HB GE361 GE362) hb) ?_⟩; clear BK361 BK362 HB hb; intro BK361 BK362 HB; have hcz30 := cf10_ BK361; have p368 : 0 ≤ ((ji19) : Int) := od_; have q368 : (ji19) < (l0_2.length : Int) := od_; obtain ⟨ad368, e368, hx368_0, hx368_1, hx368_2⟩ := at_T109 HR0_2.out (ji19) p368 q368; cases e368; replace hx368_0 := hbc_ HB hx368_0; replace hx368_1 := hbc_ HB hx368_1; replace hx368_2 := hbc_ HB hx368_2; replace p368 := eq_true p368; replace q368 := eq_true q368) | ((with_reducible refine gd_ 7 ?_); refine bx_ 7 109 #[.int .i64 0, .int .i64 0, .int .i64 0] ?_; intro gb369 hg w31 hbox hb; refine sh9_ (blk_below (bk_ BK361) hb) (blk_below (bk_ BK362) hb) (below_step (bl2_ HB GE361 GE362) hb) hbox (ge_ hg (bl2_ HB GE361 GE362)) (nl_ hg (bk_ BK361)) (ng_ hg (bk_ BK361)) (nl_ hg (bk_ BK362)) (ng_ hg (bk_ BK362)) ?_; clear BK361 BK362 HB hb hbox hg; intro BK361 BK362 HB BK369 GE369 NB361_369 NB369_361 NB362_369 NB369_362; have hnb32 := NB369_361.out; have hnc32 := NB361_369.out; have hnb33 := NB369_362.out; have hnc33 := NB362_369.out; have hcz34 := cf3_ BK369) | ((with_reducible refine gate_callee (f := 123) rfl ?_); refine goesL_ (some 38) rfl rfl Try.func123 (by kernel_rfl) rfl #[.agg #[.int .i64 0, .int .i64 ((rd_T109 l0_2 (ji19)).f1), .int .i64 ((rd_T109 l0_2 (ji19)).f2), .int .i64 0], .int .i64 a2] rfl (by (try simp only [List.map_toArray, List.map_cons, List.map_nil]); first | done | (simp only [hji19]; rfl) | rfl | (simp only [List.length_drop, List.length_take]; rfl)) ?_; (with_reducible refine (impl_PlaceAt.calls 0 ((rd_T109 l0_2 (ji19)).f1) ((rd_T109 l0_2 (ji19)).f2) 0 a2 t370 _ A22.out).mono ?_); rintro e w35 ⟨rfl, hb⟩; refine ⟨_, rfl, sh4_ (blk_below (g := gb361) (o := .cells #[.int .i64 a0_0, .slice A0_1 l0_1.length c0_1, .slice (some ad368) l0_2.length c0_2, .int .i64 a0_3, .int .i64 a0_4, .int .i64 a0_5, .int .i64 a0_6, .int .i64 a0_7, .slice A0_8 l0_8.length c0_8, .int .i64 a0_9] 34 (0, 0)) (bp_ BK361) hb) (blk_below (g := gb362) (o := .cells #[.int .i64 0, .int .i64 0] 113 (0, 0)) (bp_ BK362) hb) (blk_below (g := gb369) (o := .cells #[.int .i64 ((rd_T109 l0_2 (ji19)).f0), .int .i64 ((rd_T109 l0_2 (ji19)).f1), .int .i64 ((rd_T109 l0_2 (ji19)).f2)] 109 (0, 0)) (bp_ BK369) hb) (below_step (bl3_ HB GE361 GE362 GE369) hb) ?_⟩; clear BK361 BK362 BK369 HB hb; intro BK361 BK362 BK369 HB; have hcz36 := cf2_ BK362))
   refine bodyPost_ret (results_cell_row rfl _ _ gb362 113 #[.int .i64 t370, .int .i64 0] (0, 0) _ rfl (bp_ BK362) Try.underlying113 rfl (by kernel_rfl)) rfl ?_
   exact ⟨by first | rfl | (simp [errW_none, errW_some] <;> rfl) | (simp only [← hji19]; first | rfl | (simp [errW_none, errW_some] <;> rfl)) | (simp [*, errW_none, errW_some] <;> rfl), bl3_ HB GE361 GE362 GE369⟩
  ·replace c18 := Bool.eq_false_iff.mpr c18
   subst c18
   have H1 : (some (0, 0)) = some (r1, r2) := by rw [if_neg (show ¬ (false = true) by decide)] at H; exact H
   clear H
   have H := H1
   clear H1
   simp only [Option.some.injEq, Prod.mk.injEq] at H
   obtain ⟨rfl, rfl⟩ := H
   go_enter Try.func106, Try.ntmps106
   go_wp2_with (first | ((with_reducible refine gd_ 3 ?_); refine bx_ 3 34 #[.int .i64 a0_0, .slice A0_1 l0_1.length c0_1, .slice A0_2 l0_2.length c0_2, .int .i64 a0_3, .int .i64 a0_4, .int .i64 a0_5, .int .i64 a0_6, .int .i64 a0_7, .slice A0_8 l0_8.length c0_8, .int .i64 a0_9] ?_; intro gb361 hg w37 hbox hb; refine sh3_ (below_step (bl_ HB) hb) hbox (ge_ hg (bl_ HB)) ?_; clear HB hb hbox hg; intro HB BK361 GE361) | ((with_reducible refine gd_ 6 ?_); refine bx_ 6 113 #[.int .i64 0, .int .i64 0] ?_; intro gb362 hg w38 hbox hb; refine sh6_ (blk_below (bk_ BK361) hb) (below_step (bl1_ HB GE361) hb) hbox (ge_ hg (bl1_ HB GE361)) (nl_ hg (bk_ BK361)) (ng_ hg (bk_ BK361)) ?_; clear BK361 HB hb hbox hg; intro BK361 HB BK362 GE362 NB361_362 NB362_361; have hnb39 := NB361_362.out; have hnc39 := NB362_361.out; have hcz40 := cf10_ BK361) | ((with_reducible refine gate_callee (f := 105) rfl ?_); refine gl_ 11 Try.func105 (impl_isSatellite.calls a0_0 _ _ l0_1 _ _ l0_2 a0_3 a0_4 a0_5 a0_6 a0_7 _ _ l0_8 a0_9 a1 false _ (ck_ HR0_1 HB) HC0_1.out (ck_ HR0_2 HB) HC0_2.out (ck_ HR0_8 HB) HC0_8.out A4.out) ?_; rintro e w41 ⟨rfl, hb⟩; refine ⟨_, rfl, sh3_ (blk_below (bk_ BK361) hb) (blk_below (bk_ BK362) hb) (below_step (bl2_ HB GE361 GE362) hb) ?_⟩; clear BK361 BK362 HB hb; intro BK361 BK362 HB; have hcz42 := cf10_ BK361) | ((with_reducible refine gate_callee (f := 122) rfl ?_); refine gl_ 22 Try.func122 (impl_IsSite.calls a0_0 _ _ l0_1 _ _ l0_2 a0_3 a0_4 a0_5 a0_6 a0_7 _ _ l0_8 a0_9 a1 false _ (ck_ HR0_1 HB) HC0_1.out (ck_ HR0_2 HB) HC0_2.out (ck_ HR0_8 HB) HC0_8.out A17.out) ?_; rintro e w43 ⟨rfl, hb⟩; refine ⟨_, rfl, sh3_ (blk_below (bk_ BK361) hb) (blk_below (bk_ BK362) hb) (below_step (bl2_ HB GE361 GE362) hb) ?_⟩; clear BK361 BK362 HB hb; intro BK361 BK362 HB; have hcz44 := cf2_ BK362))
   refine bodyPost_ret (results_cell_row rfl _ _ gb362 113 #[.int .i64 0, .int .i64 0] (0, 0) _ rfl (bp_ BK362) Try.underlying113 rfl (by kernel_rfl)) rfl ?_
   exact ⟨er_, bl2_ HB GE361 GE362⟩

/-! ### impl_PlaneOf: function 128 -/
def impl_PlaneOf.f (a0_0 : Int) (l0_1 : List (S105)) (l0_2 : List (S109)) (a0_3 : Int) (a0_4 : Int) (a0_5 : Int) (a0_6 : Int) (a0_7 : Int) (l0_8 : List (S115)) (a0_9 : Int) (a1 : Int) : Option (Int) := (impl_isSatellite.f a0_0 l0_1 l0_2 a0_3 a0_4 a0_5 a0_6 a0_7 l0_8 a0_9 a1).bind fun t372 => (if t372 = true then (if 0 ≤ a1 then (if a1 < (l0_1.length : Int) then (some ((rd_T105 l0_1 a1).f0)) else (none)) else (none)) else ((impl_IsSite.f a0_0 l0_1 l0_2 a0_3 a0_4 a0_5 a0_6 a0_7 l0_8 a0_9 a1).bind fun t374 => (if t374 = true then (if 0 ≤ (wrap64 (a1 - (l0_1.length : Int))) then (if (wrap64 (a1 - (l0_1.length : Int))) < (l0_2.length : Int) then (some ((rd_T109 l0_2 (wrap64 (a1 - (l0_1.length : Int)))).f0)) else (none)) else (none)) else (some (-1)))))
set_option maxHeartbeats 8000000 in
set_option maxRecDepth 100000 in
theorem impl_PlaneOf.calls (a0_0 : Int) (A0_1 : Option Addr) (c0_1 : Nat) (l0_1 : List (S105)) (A0_2 : Option Addr) (c0_2 : Nat) (l0_2 : List (S109)) (a0_3 : Int) (a0_4 : Int) (a0_5 : Int) (a0_6 : Int) (a0_7 : Int) (A0_8 : Option Addr) (c0_8 : Nat) (l0_8 : List (S115)) (a0_9 : Int) (a1 : Int) (r : Int) (w : World) (hr0_1 : Kd.C k105 w A0_1 l0_1.length l0_1) (hc0_1 : l0_1.length ≤ c0_1) (hr0_2 : Kd.C k109 w A0_2 l0_2.length l0_2) (hc0_2 : l0_2.length ≤ c0_2) (hr0_8 : Kd.C k115 w A0_8 l0_8.length l0_8) (hc0_8 : l0_8.length ≤ c0_8) (h : impl_PlaneOf.f a0_0 l0_1 l0_2 a0_3 a0_4 a0_5 a0_6 a0_7 l0_8 a0_9 a1 = some r) :
  Calls Try.prog 128 #[.agg #[.int .i64 a0_0, .slice A0_1 l0_1.length c0_1, .slice A0_2 l0_2.length c0_2, .int .i64 a0_3, .int .i64 a0_4, .int .i64 a0_5, .int .i64 a0_6, .int .i64 a0_7, .slice A0_8 l0_8.length c0_8, .int .i64 a0_9], .int .i64 a1] w fun e w' => e = .returned (.int .i64 r) ∧ Below w.heap.size w w' := by
 have hu34 := Try.underlying34
 have HR0_1 := Aside0.mk hr0_1
 have HC0_1 := Aside0.mk hc0_1
 clear hr0_1 hc0_1
 have HR0_2 := Aside0.mk hr0_2
 have HC0_2 := Aside0.mk hc0_2
 clear hr0_2 hc0_2
 have HR0_8 := Aside0.mk hr0_8
 have HC0_8 := Aside0.mk hc0_8
 clear hr0_8 hc0_8
 have HB := Aside0.mk (Below.refl w.heap.size w)
 have H := h
 clear h
 unfold impl_PlaneOf.f at H
 replace H := bs_ H
 obtain ⟨t372, A3, H⟩ := H
 by_cases c4 : t372 = true
 ·subst c4
  rw [if_pos rfl] at H
  replace H := ifn_ H
  obtain ⟨c5, H⟩ := H
  have c5b0 := decide_eq_true c5
  clear c5
  replace H := ifn_ H
  obtain ⟨c6, H⟩ := H
  have c6b0 := decide_eq_true c6
  clear c6
  obtain rfl := Option.some.inj H
  go_enter Try.func128, Try.ntmps128
  go_wp2_with (first | ((with_reducible refine gd_ 2 ?_); refine bx_ 2 34 #[.int .i64 a0_0, .slice A0_1 l0_1.length c0_1, .slice A0_2 l0_2.length c0_2, .int .i64 a0_3, .int .i64 a0_4, .int .i64 a0_5, .int .i64 a0_6, .int .i64 a0_7, .slice A0_8 l0_8.length c0_8, .int .i64 a0_9] ?_; intro gb371 hg w7 hbox hb; refine sh3_ (below_step (bl_ HB) hb) hbox (ge_ hg (bl_ HB)) ?_; clear HB hb hbox hg; intro HB BK371 GE371; have hcz8 := cf10_ BK371) | ((with_reducible refine gate_callee (f := 105) rfl ?_); refine gl_ 8 Try.func105 (impl_isSatellite.calls a0_0 _ _ l0_1 _ _ l0_2 a0_3 a0_4 a0_5 a0_6 a0_7 _ _ l0_8 a0_9 a1 true _ (ck_ HR0_1 HB) HC0_1.out (ck_ HR0_2 HB) HC0_2.out (ck_ HR0_8 HB) HC0_8.out A3.out) ?_; rintro e w9 ⟨rfl, hb⟩; refine ⟨_, rfl, sh2_ (blk_below (bk_ BK371) hb) (below_step (bl1_ HB GE371) hb) ?_⟩; clear BK371 HB hb; intro BK371 HB; have hcz10 := cf10_ BK371; have p373 : 0 ≤ (a1 : Int) := od_; have q373 : a1 < (l0_1.length : Int) := od_; obtain ⟨ad373, e373, hx373_0, hx373_1, hx373_2, hx373_3⟩ := at_T105 HR0_1.out a1 p373 q373; cases e373; replace hx373_0 := hbc_ HB hx373_0; replace hx373_1 := hbc_ HB hx373_1; replace hx373_2 := hbc_ HB hx373_2; replace hx373_3 := hbc_ HB hx373_3; replace p373 := eq_true p373; replace q373 := eq_true q373))
  go_ret
  exact ⟨er_, bl1_ HB GE371⟩
 ·replace c4 := Bool.eq_false_iff.mpr c4
  subst c4
  have H1 : ((impl_IsSite.f a0_0 l0_1 l0_2 a0_3 a0_4 a0_5 a0_6 a0_7 l0_8 a0_9 a1).bind fun t374 => (if t374 = true then (if 0 ≤ (wrap64 (a1 - (l0_1.length : Int))) then (if (wrap64 (a1 - (l0_1.length : Int))) < (l0_2.length : Int) then (some ((rd_T109 l0_2 (wrap64 (a1 - (l0_1.length : Int)))).f0)) else (none)) else (none)) else (some (-1)))) = some r := by rw [if_neg (show ¬ (false = true) by decide)] at H; exact H
  clear H
  have H := H1
  clear H1
  replace H := bs_ H
  obtain ⟨t374, A11, H⟩ := H
  by_cases c12 : t374 = true
  ·subst c12
   rw [if_pos rfl] at H
   obtain ⟨ji13, hji13⟩ : ∃ j_ : Int, (wrap64 (a1 - (l0_1.length : Int))) = j_ := ⟨_, rfl⟩
   replace H : (if 0 ≤ (ji13) then (if (ji13) < (l0_2.length : Int) then (some ((rd_T109 l0_2 (ji13)).f0)) else (none)) else (none)) = some r := by first | (rw [hji13] at H; exact H) | (simp only [hji13] at H ⊢; exact H)
   (try rw [hji13] at A3)
   (try rw [hji13] at A11)
   have hji13w : (IntKind.i64.wrap (a1 - (l0_1.length : Int))) = ji13 := (i64_w _).trans hji13
   replace H := ifn_ H
   obtain ⟨c14, H⟩ := H
   have c14b0 := decide_eq_true c14
   clear c14
   replace H := ifn_ H
   obtain ⟨c15, H⟩ := H
   have c15b0 := decide_eq_true c15
   clear c15
   obtain rfl := Option.some.inj H
   go_enter Try.func128, Try.ntmps128
   go_wp2_with (first | ((with_reducible refine gd_ 2 ?_); refine bx_ 2 34 #[.int .i64 a0_0, .slice A0_1 l0_1.length c0_1, .slice A0_2 l0_2.length c0_2, .int .i64 a0_3, .int .i64 a0_4, .int .i64 a0_5, .int .i64 a0_6, .int .i64 a0_7, .slice A0_8 l0_8.length c0_8, .int .i64 a0_9] ?_; intro gb371 hg w16 hbox hb; refine sh3_ (below_step (bl_ HB) hb) hbox (ge_ hg (bl_ HB)) ?_; clear HB hb hbox hg; intro HB BK371 GE371; have hcz17 := cf10_ BK371) | ((with_reducible refine gate_callee (f := 105) rfl ?_); refine gl_ 8 Try.func105 (impl_isSatellite.calls a0_0 _ _ l0_1 _ _ l0_2 a0_3 a0_4 a0_5 a0_6 a0_7 _ _ l0_8 a0_9 a1 false _ (ck_ HR0_1 HB) HC0_1.out (ck_ HR0_2 HB) HC0_2.out (ck_ HR0_8 HB) HC0_8.out A3.out) ?_; rintro e w18 ⟨rfl, hb⟩; refine ⟨_, rfl, sh2_ (blk_below (bk_ BK371) hb) (below_step (bl1_ HB GE371) hb) ?_⟩; clear BK371 HB hb; intro BK371 HB; have hcz19 := cf10_ BK371) | ((with_reducible refine gate_callee (f := 122) rfl ?_); refine gl_ 18 Try.func122 (impl_IsSite.calls a0_0 _ _ l0_1 _ _ l0_2 a0_3 a0_4 a0_5 a0_6 a0_7 _ _ l0_8 a0_9 a1 true _ (ck_ HR0_1 HB) HC0_1.out (ck_ HR0_2 HB) HC0_2.out (ck_ HR0_8 HB) HC0_8.out A11.out) ?_; rintro e w20 ⟨rfl, hb⟩; refine ⟨_, rfl, sh2_ (blk_below (bk_ BK371) hb) (below_step (bl1_ HB GE371) hb) ?_⟩; clear BK371 HB hb; intro BK371 HB; have hcz21 := cf10_ BK371; have p375 : 0 ≤ ((ji13) : Int) := od_; have q375 : (ji13) < (l0_2.length : Int) := od_; obtain ⟨ad375, e375, hx375_0, hx375_1, hx375_2⟩ := at_T109 HR0_2.out (ji13) p375 q375; cases e375; replace hx375_0 := hbc_ HB hx375_0; replace hx375_1 := hbc_ HB hx375_1; replace hx375_2 := hbc_ HB hx375_2; replace p375 := eq_true p375; replace q375 := eq_true q375))
   go_ret
   exact ⟨by first | rfl | (simp [errW_none, errW_some] <;> rfl) | (simp only [← hji13]; first | rfl | (simp [errW_none, errW_some] <;> rfl)) | (simp [*, errW_none, errW_some] <;> rfl), bl1_ HB GE371⟩
  ·replace c12 := Bool.eq_false_iff.mpr c12
   subst c12
   have H1 : (some (-1)) = some r := by rw [if_neg (show ¬ (false = true) by decide)] at H; exact H
   clear H
   have H := H1
   clear H1
   obtain rfl := Option.some.inj H
   go_enter Try.func128, Try.ntmps128
   go_wp2_with (first | ((with_reducible refine gd_ 2 ?_); refine bx_ 2 34 #[.int .i64 a0_0, .slice A0_1 l0_1.length c0_1, .slice A0_2 l0_2.length c0_2, .int .i64 a0_3, .int .i64 a0_4, .int .i64 a0_5, .int .i64 a0_6, .int .i64 a0_7, .slice A0_8 l0_8.length c0_8, .int .i64 a0_9] ?_; intro gb371 hg w22 hbox hb; refine sh3_ (below_step (bl_ HB) hb) hbox (ge_ hg (bl_ HB)) ?_; clear HB hb hbox hg; intro HB BK371 GE371; have hcz23 := cf10_ BK371) | ((with_reducible refine gate_callee (f := 105) rfl ?_); refine gl_ 8 Try.func105 (impl_isSatellite.calls a0_0 _ _ l0_1 _ _ l0_2 a0_3 a0_4 a0_5 a0_6 a0_7 _ _ l0_8 a0_9 a1 false _ (ck_ HR0_1 HB) HC0_1.out (ck_ HR0_2 HB) HC0_2.out (ck_ HR0_8 HB) HC0_8.out A3.out) ?_; rintro e w24 ⟨rfl, hb⟩; refine ⟨_, rfl, sh2_ (blk_below (bk_ BK371) hb) (below_step (bl1_ HB GE371) hb) ?_⟩; clear BK371 HB hb; intro BK371 HB; have hcz25 := cf10_ BK371) | ((with_reducible refine gate_callee (f := 122) rfl ?_); refine gl_ 18 Try.func122 (impl_IsSite.calls a0_0 _ _ l0_1 _ _ l0_2 a0_3 a0_4 a0_5 a0_6 a0_7 _ _ l0_8 a0_9 a1 false _ (ck_ HR0_1 HB) HC0_1.out (ck_ HR0_2 HB) HC0_2.out (ck_ HR0_8 HB) HC0_8.out A11.out) ?_; rintro e w26 ⟨rfl, hb⟩; refine ⟨_, rfl, sh2_ (blk_below (bk_ BK371) hb) (below_step (bl1_ HB GE371) hb) ?_⟩; clear BK371 HB hb; intro BK371 HB))
   go_ret
   exact ⟨er_, bl1_ HB GE371⟩

/-! ### impl_areNeighbors: function 129 -/
def impl_areNeighbors.f (a0_0 : Int) (l0_1 : List (S105)) (l0_2 : List (S109)) (a0_3 : Int) (a0_4 : Int) (a0_5 : Int) (a0_6 : Int) (a0_7 : Int) (l0_8 : List (S115)) (a0_9 : Int) (a1 : Int) (a2 : Int) : Option (Bool) := if a1 > a2 then (if a2 ≥ 0 then (if (wrap64 (a1 - a2)) = 1 then (some true) else (if a2 = 0 then (if a1 = (wrap64 (a0_0 - 1)) then ((impl_InRange.f a1 1 4).bind fun t377 => (some t377)) else (some false)) else (some false))) else (if a2 = 0 then (if a1 = (wrap64 (a0_0 - 1)) then ((impl_InRange.f a1 1 4).bind fun t378 => (some t378)) else (some false)) else (some false))) else (if a1 ≥ 0 then (if (wrap64 (a2 - a1)) = 1 then (some true) else (if a1 = 0 then (if a2 = (wrap64 (a0_0 - 1)) then ((impl_InRange.f a2 1 4).bind fun t379 => (some t379)) else (some false)) else (some false))) else (if a1 = 0 then (if a2 = (wrap64 (a0_0 - 1)) then ((impl_InRange.f a2 1 4).bind fun t380 => (some t380)) else (some false)) else (some false)))
set_option maxHeartbeats 8000000 in
set_option maxRecDepth 100000 in
theorem impl_areNeighbors.calls (a0_0 : Int) (A0_1 : Option Addr) (c0_1 : Nat) (l0_1 : List (S105)) (A0_2 : Option Addr) (c0_2 : Nat) (l0_2 : List (S109)) (a0_3 : Int) (a0_4 : Int) (a0_5 : Int) (a0_6 : Int) (a0_7 : Int) (A0_8 : Option Addr) (c0_8 : Nat) (l0_8 : List (S115)) (a0_9 : Int) (a1 : Int) (a2 : Int) (r : Bool) (w : World) (hr0_1 : Kd.C k105 w A0_1 l0_1.length l0_1) (hc0_1 : l0_1.length ≤ c0_1) (hr0_2 : Kd.C k109 w A0_2 l0_2.length l0_2) (hc0_2 : l0_2.length ≤ c0_2) (hr0_8 : Kd.C k115 w A0_8 l0_8.length l0_8) (hc0_8 : l0_8.length ≤ c0_8) (h : impl_areNeighbors.f a0_0 l0_1 l0_2 a0_3 a0_4 a0_5 a0_6 a0_7 l0_8 a0_9 a1 a2 = some r) :
  Calls Try.prog 129 #[.agg #[.int .i64 a0_0, .slice A0_1 l0_1.length c0_1, .slice A0_2 l0_2.length c0_2, .int .i64 a0_3, .int .i64 a0_4, .int .i64 a0_5, .int .i64 a0_6, .int .i64 a0_7, .slice A0_8 l0_8.length c0_8, .int .i64 a0_9], .int .i64 a1, .int .i64 a2] w fun e w' => e = .returned (.bool r) ∧ Below w.heap.size w w' := by
 have hu34 := Try.underlying34
 have HR0_1 := Aside0.mk hr0_1
 have HC0_1 := Aside0.mk hc0_1
 clear hr0_1 hc0_1
 have HR0_2 := Aside0.mk hr0_2
 have HC0_2 := Aside0.mk hc0_2
 clear hr0_2 hc0_2
 have HR0_8 := Aside0.mk hr0_8
 have HC0_8 := Aside0.mk hc0_8
 clear hr0_8 hc0_8
 have HB := Aside0.mk (Below.refl w.heap.size w)
 have H := h
 clear h
 unfold impl_areNeighbors.f at H
 by_cases c4 : a1 > a2
 ·rw [if_pos c4] at H
  have c4b0 : decide (a2 < a1) = true := decide_eq_true c4
  clear c4
  by_cases c5 : a2 ≥ 0
  ·rw [if_pos c5] at H
   have c5b0 : decide (0 ≤ a2) = true := decide_eq_true c5
   clear c5
   by_cases c6 : (wrap64 (a1 - a2)) = 1
   ·rw [if_pos c6] at H
    obtain ⟨c6b0, c6b1⟩ := bt_ c6
    clear c6
    obtain rfl := Option.some.inj H
    go_enter Try.func129, Try.ntmps129
    go_wp2_with (first | ((with_reducible refine gd_ 3 ?_); refine bx_ 3 34 #[.int .i64 a0_0, .slice A0_1 l0_1.length c0_1, .slice A0_2 l0_2.length c0_2, .int .i64 a0_3, .int .i64 a0_4, .int .i64 a0_5, .int .i64 a0_6, .int .i64 a0_7, .slice A0_8 l0_8.length c0_8, .int .i64 a0_9] ?_; intro gb376 hg w7 hbox hb; refine sh3_ (below_step (bl_ HB) hb) hbox (ge_ hg (bl_ HB)) ?_; clear HB hb hbox hg; intro HB BK376 GE376))
    go_ret
    exact ⟨er_, bl1_ HB GE376⟩
   ·rw [if_neg c6] at H
    obtain ⟨c6b0, c6b1⟩ := bn_ c6
    by_cases c8 : a2 = 0
    ·rw [if_pos c8] at H
     obtain ⟨c8b0, c8b1⟩ := bt_ c8
     clear c8
     by_cases c9 : a1 = (wrap64 (a0_0 - 1))
     ·rw [if_pos c9] at H
      obtain ⟨c9b0, c9b1⟩ := bt_ c9
      clear c9
      replace H := bs_ H
      obtain ⟨t377, A10, H⟩ := H
      obtain rfl := Option.some.inj H
      go_enter Try.func129, Try.ntmps129
      go_wp2_with (first | ((with_reducible refine gd_ 3 ?_); refine bx_ 3 34 #[.int .i64 a0_0, .slice A0_1 l0_1.length c0_1, .slice A0_2 l0_2.length c0_2, .int .i64 a0_3, .int .i64 a0_4, .int .i64 a0_5, .int .i64 a0_6, .int .i64 a0_7, .slice A0_8 l0_8.length c0_8, .int .i64 a0_9] ?_; intro gb376 hg w11 hbox hb; refine sh3_ (below_step (bl_ HB) hb) hbox (ge_ hg (bl_ HB)) ?_; clear HB hb hbox hg; intro HB BK376 GE376; have hcz12 := cf10_ BK376) | (go_at_call 120; (with_reducible refine (impl_InRange.calls a1 1 4 t377 _ A10.out).mono ?_); rintro e w' ⟨rfl, ⟨nd, rfl⟩⟩))
      go_ret
      exact ⟨er_, bl1_ HB GE376⟩
     ·rw [if_neg c9] at H
      obtain ⟨c9b0, c9b1⟩ := bn_ c9
      obtain rfl := Option.some.inj H
      go_enter Try.func129, Try.ntmps129
      go_wp2_with (first | ((with_reducible refine gd_ 3 ?_); refine bx_ 3 34 #[.int .i64 a0_0, .slice A0_1 l0_1.length c0_1, .slice A0_2 l0_2.length c0_2, .int .i64 a0_3, .int .i64 a0_4, .int .i64 a0_5, .int .i64 a0_6, .int .i64 a0_7, .slice A0_8 l0_8.length c0_8, .int .i64 a0_9] ?_; intro gb376 hg w13 hbox hb; refine sh3_ (below_step (bl_ HB) hb) hbox (ge_ hg (bl_ HB)) ?_; clear HB hb hbox hg; intro HB BK376 GE376; have hcz14 := cf10_ BK376))
      go_ret
      exact ⟨er_, bl1_ HB GE376⟩
    ·rw [if_neg c8] at H
     obtain ⟨c8b0, c8b1⟩ := bn_ c8
     obtain rfl := Option.some.inj H
     go_enter Try.func129, Try.ntmps129
     go_wp2_with (first | ((with_reducible refine gd_ 3 ?_); refine bx_ 3 34 #[.int .i64 a0_0, .slice A0_1 l0_1.length c0_1, .slice A0_2 l0_2.length c0_2, .int .i64 a0_3, .int .i64 a0_4, .int .i64 a0_5, .int .i64 a0_6, .int .i64 a0_7, .slice A0_8 l0_8.length c0_8, .int .i64 a0_9] ?_; intro gb376 hg w15 hbox hb; refine sh3_ (below_step (bl_ HB) hb) hbox (ge_ hg (bl_ HB)) ?_; clear HB hb hbox hg; intro HB BK376 GE376))
     go_ret
     exact ⟨er_, bl1_ HB GE376⟩
  ·rw [if_neg c5] at H
   have c5b0 : decide (0 ≤ a2) = false := decide_eq_false c5
   clear c5
   by_cases c16 : a2 = 0
   ·rw [if_pos c16] at H
    obtain ⟨c16b0, c16b1⟩ := bt_ c16
    clear c16
    by_cases c17 : a1 = (wrap64 (a0_0 - 1))
    ·rw [if_pos c17] at H
     obtain ⟨c17b0, c17b1⟩ := bt_ c17
     clear c17
     replace H := bs_ H
     obtain ⟨t378, A18, H⟩ := H
     obtain rfl := Option.some.inj H
     go_enter Try.func129, Try.ntmps129
     go_wp2_with (first | ((with_reducible refine gd_ 3 ?_); refine bx_ 3 34 #[.int .i64 a0_0, .slice A0_1 l0_1.length c0_1, .slice A0_2 l0_2.length c0_2, .int .i64 a0_3, .int .i64 a0_4, .int .i64 a0_5, .int .i64 a0_6, .int .i64 a0_7, .slice A0_8 l0_8.length c0_8, .int .i64 a0_9] ?_; intro gb376 hg w19 hbox hb; refine sh3_ (below_step (bl_ HB) hb) hbox (ge_ hg (bl_ HB)) ?_; clear HB hb hbox hg; intro HB BK376 GE376; have hcz20 := cf10_ BK376) | (go_at_call 120; (with_reducible refine (impl_InRange.calls a1 1 4 t378 _ A18.out).mono ?_); rintro e w' ⟨rfl, ⟨nd, rfl⟩⟩))
     go_ret
     exact ⟨er_, bl1_ HB GE376⟩
    ·rw [if_neg c17] at H
     obtain ⟨c17b0, c17b1⟩ := bn_ c17
     obtain rfl := Option.some.inj H
     go_enter Try.func129, Try.ntmps129
     go_wp2_with (first | ((with_reducible refine gd_ 3 ?_); refine bx_ 3 34 #[.int .i64 a0_0, .slice A0_1 l0_1.length c0_1, .slice A0_2 l0_2.length c0_2, .int .i64 a0_3, .int .i64 a0_4, .int .i64 a0_5, .int .i64 a0_6, .int .i64 a0_7, .slice A0_8 l0_8.length c0_8, .int .i64 a0_9] ?_; intro gb376 hg w21 hbox hb; refine sh3_ (below_step (bl_ HB) hb) hbox (ge_ hg (bl_ HB)) ?_; clear HB hb hbox hg; intro HB BK376 GE376; have hcz22 := cf10_ BK376))
     go_ret
     exact ⟨er_, bl1_ HB GE376⟩
   ·rw [if_neg c16] at H
    obtain ⟨c16b0, c16b1⟩ := bn_ c16
    obtain rfl := Option.some.inj H
    go_enter Try.func129, Try.ntmps129
    go_wp2_with (first | ((with_reducible refine gd_ 3 ?_); refine bx_ 3 34 #[.int .i64 a0_0, .slice A0_1 l0_1.length c0_1, .slice A0_2 l0_2.length c0_2, .int .i64 a0_3, .int .i64 a0_4, .int .i64 a0_5, .int .i64 a0_6, .int .i64 a0_7, .slice A0_8 l0_8.length c0_8, .int .i64 a0_9] ?_; intro gb376 hg w23 hbox hb; refine sh3_ (below_step (bl_ HB) hb) hbox (ge_ hg (bl_ HB)) ?_; clear HB hb hbox hg; intro HB BK376 GE376))
    go_ret
    exact ⟨er_, bl1_ HB GE376⟩
 ·rw [if_neg c4] at H
  have c4b0 : decide (a2 < a1) = false := decide_eq_false c4
  clear c4
  by_cases c24 : a1 ≥ 0
  ·rw [if_pos c24] at H
   have c24b0 : decide (0 ≤ a1) = true := decide_eq_true c24
   clear c24
   by_cases c25 : (wrap64 (a2 - a1)) = 1
   ·rw [if_pos c25] at H
    obtain ⟨c25b0, c25b1⟩ := bt_ c25
    clear c25
    obtain rfl := Option.some.inj H
    go_enter Try.func129, Try.ntmps129
    go_wp2_with (first | ((with_reducible refine gd_ 3 ?_); refine bx_ 3 34 #[.int .i64 a0_0, .slice A0_1 l0_1.length c0_1, .slice A0_2 l0_2.length c0_2, .int .i64 a0_3, .int .i64 a0_4, .int .i64 a0_5, .int .i64 a0_6, .int .i64 a0_7, .slice A0_8 l0_8.length c0_8, .int .i64 a0_9] ?_; intro gb376 hg w26 hbox hb; refine sh3_ (below_step (bl_ HB) hb) hbox (ge_ hg (bl_ HB)) ?_; clear HB hb hbox hg; intro HB BK376 GE376))
    go_ret
    exact ⟨er_, bl1_ HB GE376⟩
   ·rw [if_neg c25] at H
    obtain ⟨c25b0, c25b1⟩ := bn_ c25
    by_cases c27 : a1 = 0
    ·rw [if_pos c27] at H
     obtain ⟨c27b0, c27b1⟩ := bt_ c27
     clear c27
     by_cases c28 : a2 = (wrap64 (a0_0 - 1))
     ·rw [if_pos c28] at H
      obtain ⟨c28b0, c28b1⟩ := bt_ c28
      clear c28
      replace H := bs_ H
      obtain ⟨t379, A29, H⟩ := H
      obtain rfl := Option.some.inj H
      go_enter Try.func129, Try.ntmps129
      go_wp2_with (first | ((with_reducible refine gd_ 3 ?_); refine bx_ 3 34 #[.int .i64 a0_0, .slice A0_1 l0_1.length c0_1, .slice A0_2 l0_2.length c0_2, .int .i64 a0_3, .int .i64 a0_4, .int .i64 a0_5, .int .i64 a0_6, .int .i64 a0_7, .slice A0_8 l0_8.length c0_8, .int .i64 a0_9] ?_; intro gb376 hg w30 hbox hb; refine sh3_ (below_step (bl_ HB) hb) hbox (ge_ hg (bl_ HB)) ?_; clear HB hb hbox hg; intro HB BK376 GE376; have hcz31 := cf10_ BK376) | (go_at_call 120; (with_reducible refine (impl_InRange.calls a2 1 4 t379 _ A29.out).mono ?_); rintro e w' ⟨rfl, ⟨nd, rfl⟩⟩))
      go_ret
      exact ⟨er_, bl1_ HB GE376⟩
     ·rw [if_neg c28] at H
      obtain ⟨c28b0, c28b1⟩ := bn_ c28
      obtain rfl := Option.some.inj H
      go_enter Try.func129, Try.ntmps129
      go_wp2_with (first | ((with_reducible refine gd_ 3 ?_); refine bx_ 3 34 #[.int .i64 a0_0, .slice A0_1 l0_1.length c0_1, .slice A0_2 l0_2.length c0_2, .int .i64 a0_3, .int .i64 a0_4, .int .i64 a0_5, .int .i64 a0_6, .int .i64 a0_7, .slice A0_8 l0_8.length c0_8, .int .i64 a0_9] ?_; intro gb376 hg w32 hbox hb; refine sh3_ (below_step (bl_ HB) hb) hbox (ge_ hg (bl_ HB)) ?_; clear HB hb hbox hg; intro HB BK376 GE376; have hcz33 := cf10_ BK376))
      go_ret
      exact ⟨er_, bl1_ HB GE376⟩
    ·rw [if_neg c27] at H
     obtain ⟨c27b0, c27b1⟩ := bn_ c27
     obtain rfl := Option.some.inj H
     go_enter Try.func129, Try.ntmps129
     go_wp2_with (first | ((with_reducible refine gd_ 3 ?_); refine bx_ 3 34 #[.int .i64 a0_0, .slice A0_1 l0_1.length c0_1, .slice A0_2 l0_2.length c0_2, .int .i64 a0_3, .int .i64 a0_4, .int .i64 a0_5, .int .i64 a0_6, .int .i64 a0_7, .slice A0_8 l0_8.length c0_8, .int .i64 a0_9] ?_; intro gb376 hg w34 hbox hb; refine sh3_ (below_step (bl_ HB) hb) hbox (ge_ hg (bl_ HB)) ?_; clear HB hb hbox hg; intro HB BK376 GE376))
     go_ret
     exact ⟨er_, bl1_ HB GE376⟩
  ·rw [if_neg c24] at H
   have c24b0 : decide (0 ≤ a1) = false := decide_eq_false c24
   clear c24
   by_cases c35 : a1 = 0
   ·rw [if_pos c35] at H
    obtain ⟨c35b0, c35b1⟩ := bt_ c35
    clear c35
    by_cases c36 : a2 = (wrap64 (a0_0 - 1))
    ·rw [if_pos c36] at H
     obtain ⟨c36b0, c36b1⟩ := bt_ c36
     clear c36
     replace H := bs_ H
     obtain ⟨t380, A37, H⟩ := H
     obtain rfl := Option.some.inj H
     go_enter Try.func129, Try.ntmps129
     go_wp2_with (first | ((with_reducible refine gd_ 3 ?_); refine bx_ 3 34 #[.int .i64 a0_0, .slice A0_1 l0_1.length c0_1, .slice A0_2 l0_2.length c0_2, .int .i64 a0_3, .int .i64 a0_4, .int .i64 a0_5, .int .i64 a0_6, .int .i64 a0_7, .slice A0_8 l0_8.length c0_8, .int .i64 a0_9] ?_; intro gb376 hg w38 hbox hb; refine sh3_ (below_step (bl_ HB) hb) hbox (ge_ hg (bl_ HB)) ?_; clear HB hb hbox hg; intro HB BK376 GE376; have hcz39 := cf10_ BK376) | (go_at_call 120; (with_reducible refine (impl_InRange.calls a2 1 4 t380 _ A37.out).mono ?_); rintro e w' ⟨rfl, ⟨nd, rfl⟩⟩))
     go_ret
     exact ⟨er_, bl1_ HB GE376⟩
    ·rw [if_neg c36] at H
     obtain ⟨c36b0, c36b1⟩ := bn_ c36
     obtain rfl := Option.some.inj H
     go_enter Try.func129, Try.ntmps129
     go_wp2_with (first | ((with_reducible refine gd_ 3 ?_); refine bx_ 3 34 #[.int .i64 a0_0, .slice A0_1 l0_1.length c0_1, .slice A0_2 l0_2.length c0_2, .int .i64 a0_3, .int .i64 a0_4, .int .i64 a0_5, .int .i64 a0_6, .int .i64 a0_7, .slice A0_8 l0_8.length c0_8, .int .i64 a0_9] ?_; intro gb376 hg w40 hbox hb; refine sh3_ (below_step (bl_ HB) hb) hbox (ge_ hg (bl_ HB)) ?_; clear HB hb hbox hg; intro HB BK376 GE376; have hcz41 := cf10_ BK376))
     go_ret
     exact ⟨er_, bl1_ HB GE376⟩
   ·rw [if_neg c35] at H
    obtain ⟨c35b0, c35b1⟩ := bn_ c35
    obtain rfl := Option.some.inj H
    go_enter Try.func129, Try.ntmps129
    go_wp2_with (first | ((with_reducible refine gd_ 3 ?_); refine bx_ 3 34 #[.int .i64 a0_0, .slice A0_1 l0_1.length c0_1, .slice A0_2 l0_2.length c0_2, .int .i64 a0_3, .int .i64 a0_4, .int .i64 a0_5, .int .i64 a0_6, .int .i64 a0_7, .slice A0_8 l0_8.length c0_8, .int .i64 a0_9] ?_; intro gb376 hg w42 hbox hb; refine sh3_ (below_step (bl_ HB) hb) hbox (ge_ hg (bl_ HB)) ?_; clear HB hb hbox hg; intro HB BK376 GE376))
    go_ret
    exact ⟨er_, bl1_ HB GE376⟩

end Go.Proofs.Ytcjfalmhohcifaa.PFnExactSpeakingSpans
