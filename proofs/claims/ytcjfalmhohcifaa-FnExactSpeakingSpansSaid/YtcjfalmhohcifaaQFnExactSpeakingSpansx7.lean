-- Written by a program of this session for this claim (the kit's printer with changes).
import Derived.Test.YtcjfalmhohcifaaQFnExactSpeakingSpansx0
import Derived.Test.YtcjfalmhohcifaaQFnExactSpeakingSpansx5
import Derived.Test.YtcjfalmhohcifaaQFnExactSpeakingSpansx6
namespace Go.Proofs.Ytcjfalmhohcifaa.PFnExactSpeakingSpans
open Go.RowKit Go.Proofs.YtcjfalmhohcifaaW.PrintWords Go.Proofs.YtcjfalmhohcifaaW.PrintLast Go.Proofs.YtcjfalmhohcifaaW.PrintMore
attribute [local go_sem] max2_int min2_int max_two min_two max_three min_three max_four min_four   -- for this text's walks alone
set_option linter.unusedVariables false
set_option linter.unusedSimpArgs false

/-! ### impl_LimitOf: function 113 -/
mutual
def impl_LimitOf.j0 : Nat → Int → Int → Bool → Bool → Bool → Int → List (S105) → List (S109) → Int → Int → Int → Int → Int → List (S115) → Int → Option (Int)
 | 0, _, _, _, _, _, _, _, _, _, _, _, _, _, _, _ => none
 | k + 1, x7, x8, x9, x10, x45, x382000, x382001, x382002, x382003, x382004, x382005, x382006, x382007, x382008, x382009 => if x45 = true then (some (-1)) else (if x9 = true then (if x10 = true then (impl_LimitOf.j1 k x7 x8 x9 x10 (x7 == x8) x382000 x382001 x382002 x382003 x382004 x382005 x382006 x382007 x382008 x382009) else (impl_LimitOf.j1 k x7 x8 x9 x10 false x382000 x382001 x382002 x382003 x382004 x382005 x382006 x382007 x382008 x382009)) else (impl_LimitOf.j1 k x7 x8 x9 x10 false x382000 x382001 x382002 x382003 x382004 x382005 x382006 x382007 x382008 x382009))
def impl_LimitOf.j1 : Nat → Int → Int → Bool → Bool → Bool → Int → List (S105) → List (S109) → Int → Int → Int → Int → Int → List (S115) → Int → Option (Int)
 | 0, _, _, _, _, _, _, _, _, _, _, _, _, _, _, _ => none
 | k + 1, x7, x8, x9, x10, x46, x382000, x382001, x382002, x382003, x382004, x382005, x382006, x382007, x382008, x382009 => if x46 = true then (some x382003) else (if x9 = true then (if x10 = true then ((impl_areNeighbors.f x382000 x382001 x382002 x382003 x382004 x382005 x382006 x382007 x382008 x382009 x7 x8).bind fun t389 => (impl_LimitOf.j2 k x7 x8 x9 x10 t389 x382000 x382001 x382002 x382003 x382004 x382005 x382006 x382007 x382008 x382009)) else (impl_LimitOf.j2 k x7 x8 x9 x10 false x382000 x382001 x382002 x382003 x382004 x382005 x382006 x382007 x382008 x382009)) else (impl_LimitOf.j2 k x7 x8 x9 x10 false x382000 x382001 x382002 x382003 x382004 x382005 x382006 x382007 x382008 x382009))
def impl_LimitOf.j2 : Nat → Int → Int → Bool → Bool → Bool → Int → List (S105) → List (S109) → Int → Int → Int → Int → Int → List (S115) → Int → Option (Int)
 | 0, _, _, _, _, _, _, _, _, _, _, _, _, _, _, _ => none
 | k + 1, x7, x8, x9, x10, x58, x382000, x382001, x382002, x382003, x382004, x382005, x382006, x382007, x382008, x382009 => if x58 = true then (some x382004) else (if (x9 != x10) = true then (if x7 = x8 then (some x382005) else ((impl_areNeighbors.f x382000 x382001 x382002 x382003 x382004 x382005 x382006 x382007 x382008 x382009 x7 x8).bind fun t390 => (if t390 = true then (some x382005) else (some (-1))))) else (some (-1)))
end
def impl_LimitOf.f (k : Nat) (a0_0 : Int) (l0_1 : List (S105)) (l0_2 : List (S109)) (a0_3 : Int) (a0_4 : Int) (a0_5 : Int) (a0_6 : Int) (a0_7 : Int) (l0_8 : List (S115)) (a0_9 : Int) (a1 : Int) (a2 : Int) : Option (Int) := (impl_PlaneOf.f a0_0 l0_1 l0_2 a0_3 a0_4 a0_5 a0_6 a0_7 l0_8 a0_9 a1).bind fun t382 => ((impl_PlaneOf.f a0_0 l0_1 l0_2 a0_3 a0_4 a0_5 a0_6 a0_7 l0_8 a0_9 a2).bind fun t383 => ((impl_isSatellite.f a0_0 l0_1 l0_2 a0_3 a0_4 a0_5 a0_6 a0_7 l0_8 a0_9 a1).bind fun t384 => ((impl_isSatellite.f a0_0 l0_1 l0_2 a0_3 a0_4 a0_5 a0_6 a0_7 l0_8 a0_9 a2).bind fun t385 => (if a1 = a2 then (impl_LimitOf.j0 k t382 t383 t384 t385 true a0_0 l0_1 l0_2 a0_3 a0_4 a0_5 a0_6 a0_7 l0_8 a0_9) else (if t384 = true then (if t385 = true then (impl_LimitOf.j0 k t382 t383 t384 t385 false a0_0 l0_1 l0_2 a0_3 a0_4 a0_5 a0_6 a0_7 l0_8 a0_9) else ((impl_IsSite.f a0_0 l0_1 l0_2 a0_3 a0_4 a0_5 a0_6 a0_7 l0_8 a0_9 a2).bind fun t386 => (impl_LimitOf.j0 k t382 t383 t384 t385 (!t386) a0_0 l0_1 l0_2 a0_3 a0_4 a0_5 a0_6 a0_7 l0_8 a0_9))) else ((impl_IsSite.f a0_0 l0_1 l0_2 a0_3 a0_4 a0_5 a0_6 a0_7 l0_8 a0_9 a1).bind fun t387 => (if t387 = true then (if t385 = true then (impl_LimitOf.j0 k t382 t383 t384 t385 false a0_0 l0_1 l0_2 a0_3 a0_4 a0_5 a0_6 a0_7 l0_8 a0_9) else ((impl_IsSite.f a0_0 l0_1 l0_2 a0_3 a0_4 a0_5 a0_6 a0_7 l0_8 a0_9 a2).bind fun t388 => (impl_LimitOf.j0 k t382 t383 t384 t385 (!t388) a0_0 l0_1 l0_2 a0_3 a0_4 a0_5 a0_6 a0_7 l0_8 a0_9))) else (impl_LimitOf.j0 k t382 t383 t384 t385 true a0_0 l0_1 l0_2 a0_3 a0_4 a0_5 a0_6 a0_7 l0_8 a0_9))))))))
theorem impl_LimitOf.mono_l : ∀ k, (∀ y0 y1 y2 y3 y4 y5 y6 y7 y8 y9 y10 y11 y12 y13 y14, LeO (impl_LimitOf.j0 k y0 y1 y2 y3 y4 y5 y6 y7 y8 y9 y10 y11 y12 y13 y14) (impl_LimitOf.j0 (k + 1) y0 y1 y2 y3 y4 y5 y6 y7 y8 y9 y10 y11 y12 y13 y14)) ∧ (∀ y0 y1 y2 y3 y4 y5 y6 y7 y8 y9 y10 y11 y12 y13 y14, LeO (impl_LimitOf.j1 k y0 y1 y2 y3 y4 y5 y6 y7 y8 y9 y10 y11 y12 y13 y14) (impl_LimitOf.j1 (k + 1) y0 y1 y2 y3 y4 y5 y6 y7 y8 y9 y10 y11 y12 y13 y14)) ∧ (∀ y0 y1 y2 y3 y4 y5 y6 y7 y8 y9 y10 y11 y12 y13 y14, LeO (impl_LimitOf.j2 k y0 y1 y2 y3 y4 y5 y6 y7 y8 y9 y10 y11 y12 y13 y14) (impl_LimitOf.j2 (k + 1) y0 y1 y2 y3 y4 y5 y6 y7 y8 y9 y10 y11 y12 y13 y14))
 | 0 => ⟨fun _ _ _ _ _ _ _ _ _ _ _ _ _ _ _ r h => by simp [impl_LimitOf.j0] at h, fun _ _ _ _ _ _ _ _ _ _ _ _ _ _ _ r h => by simp [impl_LimitOf.j1] at h, fun _ _ _ _ _ _ _ _ _ _ _ _ _ _ _ r h => by simp [impl_LimitOf.j2] at h⟩
 | k + 1 => by
  obtain ⟨ih0, ih1, ih2⟩ := impl_LimitOf.mono_l k
  refine ⟨?_, ?_, ?_⟩
  ·intro y0 y1 y2 y3 y4 y5 y6 y7 y8 y9 y10 y11 y12 y13 y14
   unfold impl_LimitOf.j0
   repeat' first | (with_reducible first | exact ih0 _ _ _ _ _ _ _ _ _ _ _ _ _ _ _ | exact ih1 _ _ _ _ _ _ _ _ _ _ _ _ _ _ _ | exact ih2 _ _ _ _ _ _ _ _ _ _ _ _ _ _ _ | exact LeO.refl _ | exact LeO.none _ | refine LeO.ite ?_ ?_ | refine LeO.bind ?_ (fun _ => ?_)) | exact LeO.none _ | refine LeO.ite ?_ ?_ | refine LeO.bind ?_ (fun _ => ?_)
  ·intro y0 y1 y2 y3 y4 y5 y6 y7 y8 y9 y10 y11 y12 y13 y14
   unfold impl_LimitOf.j1
   repeat' first | (with_reducible first | exact ih0 _ _ _ _ _ _ _ _ _ _ _ _ _ _ _ | exact ih1 _ _ _ _ _ _ _ _ _ _ _ _ _ _ _ | exact ih2 _ _ _ _ _ _ _ _ _ _ _ _ _ _ _ | exact LeO.refl _ | exact LeO.none _ | refine LeO.ite ?_ ?_ | refine LeO.bind ?_ (fun _ => ?_)) | exact LeO.none _ | refine LeO.ite ?_ ?_ | refine LeO.bind ?_ (fun _ => ?_)
  ·intro y0 y1 y2 y3 y4 y5 y6 y7 y8 y9 y10 y11 y12 y13 y14
   unfold impl_LimitOf.j2
   repeat' first | (with_reducible first | exact ih0 _ _ _ _ _ _ _ _ _ _ _ _ _ _ _ | exact ih1 _ _ _ _ _ _ _ _ _ _ _ _ _ _ _ | exact ih2 _ _ _ _ _ _ _ _ _ _ _ _ _ _ _ | exact LeO.refl _ | exact LeO.none _ | refine LeO.ite ?_ ?_ | refine LeO.bind ?_ (fun _ => ?_)) | exact LeO.none _ | refine LeO.ite ?_ ?_ | refine LeO.bind ?_ (fun _ => ?_)
theorem impl_LimitOf.mono : ∀ a0 a1 a2 a3 a4 a5 a6 a7 a8 a9 a10 a11 k, LeO (impl_LimitOf.f k a0 a1 a2 a3 a4 a5 a6 a7 a8 a9 a10 a11) (impl_LimitOf.f (k + 1) a0 a1 a2 a3 a4 a5 a6 a7 a8 a9 a10 a11) := by
 intro a0 a1 a2 a3 a4 a5 a6 a7 a8 a9 a10 a11 k
 obtain ⟨ih0, ih1, ih2⟩ := impl_LimitOf.mono_l k
 unfold impl_LimitOf.f
 repeat' first | (with_reducible first | exact ih0 _ _ _ _ _ _ _ _ _ _ _ _ _ _ _ | exact ih1 _ _ _ _ _ _ _ _ _ _ _ _ _ _ _ | exact ih2 _ _ _ _ _ _ _ _ _ _ _ _ _ _ _ | exact LeO.refl _ | exact LeO.none _ | refine LeO.ite ?_ ?_ | refine LeO.bind ?_ (fun _ => ?_)) | exact LeO.none _ | refine LeO.ite ?_ ?_ | refine LeO.bind ?_ (fun _ => ?_)
def impl_LimitOf.T1 : Bool × List (List Nat × List Nat) := (true, [([], []), ([], []), ([0, 1], [0, 1]), ([], []), ([], []), ([3, 4, 2], [3, 4]), ([2, 5, 0, 1, 2], [2]), ([5, 6, 0, 1, 2, 3, 4, 5, 6], [5])])
def impl_LimitOf.B1 : List Nat := [0, 0, 3, 0, 0, 31, 63, 127]
theorem impl_LimitOf.tab1 : rtab .any (opsOf Try.f113 1) = impl_LimitOf.T1 := by kernel_rfl
theorem impl_LimitOf.bits1 : waitsOk impl_LimitOf.T1.2 impl_LimitOf.B1 = true := by kernel_rfl
def impl_LimitOf.T2 : Bool × List (List Nat × List Nat) := (true, [([], []), ([], []), ([0, 1], [0, 1]), ([], []), ([], []), ([3, 4, 2], [3, 4]), ([2, 5, 0, 1, 2], [2]), ([5, 6, 0, 1, 2, 3, 4, 5, 6], [5])])
def impl_LimitOf.B2 : List Nat := [0, 0, 3, 0, 0, 31, 63, 127]
theorem impl_LimitOf.tab2 : rtab .any (opsOf Try.f113 2) = impl_LimitOf.T2 := by kernel_rfl
theorem impl_LimitOf.bits2 : waitsOk impl_LimitOf.T2.2 impl_LimitOf.B2 = true := by kernel_rfl
set_option maxHeartbeats 8000000 in
set_option maxRecDepth 100000 in
theorem impl_LimitOf.calls (k : Nat) (a0_0 : Int) (A0_1 : Option Addr) (c0_1 : Nat) (l0_1 : List (S105)) (A0_2 : Option Addr) (c0_2 : Nat) (l0_2 : List (S109)) (a0_3 : Int) (a0_4 : Int) (a0_5 : Int) (a0_6 : Int) (a0_7 : Int) (A0_8 : Option Addr) (c0_8 : Nat) (l0_8 : List (S115)) (a0_9 : Int) (a1 : Int) (a2 : Int) (r : Int) (w : World) (hr0_1 : Kd.C k105 w A0_1 l0_1.length l0_1) (hc0_1 : l0_1.length ≤ c0_1) (hr0_2 : Kd.C k109 w A0_2 l0_2.length l0_2) (hc0_2 : l0_2.length ≤ c0_2) (hr0_8 : Kd.C k115 w A0_8 l0_8.length l0_8) (hc0_8 : l0_8.length ≤ c0_8) (h : impl_LimitOf.f k a0_0 l0_1 l0_2 a0_3 a0_4 a0_5 a0_6 a0_7 l0_8 a0_9 a1 a2 = some r) :
  Calls Try.prog 113 #[.agg #[.int .i64 a0_0, .slice A0_1 l0_1.length c0_1, .slice A0_2 l0_2.length c0_2, .int .i64 a0_3, .int .i64 a0_4, .int .i64 a0_5, .int .i64 a0_6, .int .i64 a0_7, .slice A0_8 l0_8.length c0_8, .int .i64 a0_9], .int .i64 a1, .int .i64 a2] w fun e w' => e = .returned (.int .i64 r) ∧ Below w.heap.size w w' := by
 have hu34 := Try.underlying34
 have HR0_1 := Aside0.mk hr0_1
 have HC0_1 := Aside0.mk hc0_1
 clear hr0_1 hc0_1
 have HR0_2 := Aside0.mk hr0_2
 have HC0_2 := Aside0.mk hc0_2
 clear hr0_2 hc0_2
 have HR0_8 := Aside0.mk hr0_8
 have HC0_8 := Aside0.mk hc0_8
 clear hr0_8 hc0_8
 have HB := Aside0.mk (Below.refl w.heap.size w)
 have H := h
 clear h
 unfold impl_LimitOf.f at H
 replace H := bs_ H
 obtain ⟨t382, A4, H⟩ := H
 replace H := bs_ H
 obtain ⟨t383, A5, H⟩ := H
 replace H := bs_ H
 obtain ⟨t384, A6, H⟩ := H
 replace H := bs_ H
 obtain ⟨t385, A7, H⟩ := H
 have HC8 := Aside0.mk H
 clear H
 go_enter Try.func113, Try.ntmps113
 try go_wp2_with (first | ((with_reducible refine gd_ 3 ?_); refine bx_ 3 34 #[.int .i64 a0_0, .slice A0_1 l0_1.length c0_1, .slice A0_2 l0_2.length c0_2, .int .i64 a0_3, .int .i64 a0_4, .int .i64 a0_5, .int .i64 a0_6, .int .i64 a0_7, .slice A0_8 l0_8.length c0_8, .int .i64 a0_9] ?_; intro gb381 hg w9 hbox hb; refine sh3_ (below_step (bl_ HB) hb) hbox (ge_ hg (bl_ HB)) ?_; clear HB hb hbox hg; intro HB BK381 GE381))
 refine sh2_ (blk_drew BK381.out) (below_drew1 HB.out) ?_
 clear BK381 HB
 intro BK381 HB
 refine start_ (n := 8) (S := fun w' => Cz10 w' gb381 (.int .i64 a0_0) (.slice A0_1 l0_1.length c0_1) (.slice A0_2 l0_2.length c0_2) (.int .i64 a0_3) (.int .i64 a0_4) (.int .i64 a0_5) (.int .i64 a0_6) (.int .i64 a0_7) (.slice A0_8 l0_8.length c0_8) (.int .i64 a0_9)) (ds := []) #[false, false, false, false, false, false, false, false] (by kernel_rfl) rfl rfl (cz10_ BK381) (fun hHeld => ?_); refine with_tabW impl_LimitOf.tab1 impl_LimitOf.bits1 (fun HT_ HW_ => ?_)
 generalize w9.drew = w10 at BK381 HB hHeld ⊢
 refine pur_ 1 #[false, true, false, false, false, false, false, false] (some 12) HT_ ?_
 refine pur_ 4 #[false, true, false, false, true, false, false, false] (some 15) HT_ ?_
 refine tak_ 0 #[true, true, false, false, true, false, false, false] (some 11) HT_ HW_ hHeld ?_
 refine tak_ 3 #[true, true, false, true, true, false, false, false] (some 14) HT_ HW_ hHeld ?_
 refine onc_ 2 #[true, true, true, true, true, false, false, false] (some 13) HT_ Try.func128 (impl_PlaneOf.calls a0_0 _ _ l0_1 _ _ l0_2 a0_3 a0_4 a0_5 a0_6 a0_7 _ _ l0_8 a0_9 a1 t382 _ (ck_ HR0_1 HB) HC0_1.out (ck_ HR0_2 HB) HC0_2.out (ck_ HR0_8 HB) HC0_8.out A4.out) ?_
 rintro e w11 ⟨rfl, hb⟩
 refine sh2_ (blk_below (bk_ BK381) hb) (below_step (bl1_ HB GE381) hb) ?_
 clear BK381 HB hb
 intro BK381 HB
 refine ⟨_, _, rfl, (cz10_ BK381), pt_, fun hHeld => ?_⟩
 refine onc_ 5 #[true, true, true, true, true, true, false, false] (some 16) HT_ Try.func128 (impl_PlaneOf.calls a0_0 _ _ l0_1 _ _ l0_2 a0_3 a0_4 a0_5 a0_6 a0_7 _ _ l0_8 a0_9 a2 t383 _ (ck_ HR0_1 HB) HC0_1.out (ck_ HR0_2 HB) HC0_2.out (ck_ HR0_8 HB) HC0_8.out A5.out) ?_
 rintro e w12 ⟨rfl, hb⟩
 refine sh2_ (blk_below (bk_ BK381) hb) (below_step (bl1_ HB GE381) hb) ?_
 clear BK381 HB hb
 intro BK381 HB
 refine ⟨_, _, rfl, (cz10_ BK381), pt_, fun hHeld => ?_⟩
 refine pur_ 6 #[true, true, true, true, true, true, true, false] (some 7) HT_ ?_
 refine pur_ 7 #[true, true, true, true, true, true, true, true] (some 8) HT_ ?_
 refine done_ (done_of HT_.out (by kernel_rfl)) ?_
 try go_wp2
 refine sh2_ (blk_drew BK381.out) (below_drew1 HB.out) ?_
 clear BK381 HB
 intro BK381 HB
 refine start_ (n := 8) (S := fun w' => Cz10 w' gb381 (.int .i64 a0_0) (.slice A0_1 l0_1.length c0_1) (.slice A0_2 l0_2.length c0_2) (.int .i64 a0_3) (.int .i64 a0_4) (.int .i64 a0_5) (.int .i64 a0_6) (.int .i64 a0_7) (.slice A0_8 l0_8.length c0_8) (.int .i64 a0_9)) (ds := []) #[false, false, false, false, false, false, false, false] (by kernel_rfl) rfl rfl (cz10_ BK381) (fun hHeld => ?_); refine with_tabW impl_LimitOf.tab2 impl_LimitOf.bits2 (fun HT_ HW_ => ?_)
 generalize w12.drew = w13 at BK381 HB hHeld ⊢
 refine pur_ 1 #[false, true, false, false, false, false, false, false] (some 18) HT_ ?_
 refine pur_ 4 #[false, true, false, false, true, false, false, false] (some 21) HT_ ?_
 refine tak_ 0 #[true, true, false, false, true, false, false, false] (some 17) HT_ HW_ hHeld ?_
 refine tak_ 3 #[true, true, false, true, true, false, false, false] (some 20) HT_ HW_ hHeld ?_
 refine onc_ 2 #[true, true, true, true, true, false, false, false] (some 19) HT_ Try.func105 (impl_isSatellite.calls a0_0 _ _ l0_1 _ _ l0_2 a0_3 a0_4 a0_5 a0_6 a0_7 _ _ l0_8 a0_9 a1 t384 _ (ck_ HR0_1 HB) HC0_1.out (ck_ HR0_2 HB) HC0_2.out (ck_ HR0_8 HB) HC0_8.out A6.out) ?_
 rintro e w14 ⟨rfl, hb⟩
 refine sh2_ (blk_below (bk_ BK381) hb) (below_step (bl1_ HB GE381) hb) ?_
 clear BK381 HB hb
 intro BK381 HB
 refine ⟨_, _, rfl, (cz10_ BK381), pt_, fun hHeld => ?_⟩
 refine onc_ 5 #[true, true, true, true, true, true, false, false] (some 22) HT_ Try.func105 (impl_isSatellite.calls a0_0 _ _ l0_1 _ _ l0_2 a0_3 a0_4 a0_5 a0_6 a0_7 _ _ l0_8 a0_9 a2 t385 _ (ck_ HR0_1 HB) HC0_1.out (ck_ HR0_2 HB) HC0_2.out (ck_ HR0_8 HB) HC0_8.out A7.out) ?_
 rintro e w15 ⟨rfl, hb⟩
 refine sh2_ (blk_below (bk_ BK381) hb) (below_step (bl1_ HB GE381) hb) ?_
 clear BK381 HB hb
 intro BK381 HB
 refine ⟨_, _, rfl, (cz10_ BK381), pt_, fun hHeld => ?_⟩
 refine pur_ 6 #[true, true, true, true, true, true, true, false] (some 9) HT_ ?_
 refine pur_ 7 #[true, true, true, true, true, true, true, true] (some 10) HT_ ?_
 refine done_ (done_of HT_.out (by kernel_rfl)) ?_
 go_upto_region 3 with (fail)
 go_cut [45] (fun v45 wc => ∃ (kq : Nat) (x45_7 : Bool), v45 = .bool x45_7 ∧ Aside0 (impl_LimitOf.j0 kq t382 t383 t384 t385 x45_7 a0_0 l0_1 l0_2 a0_3 a0_4 a0_5 a0_6 a0_7 l0_8 a0_9 = some r) ∧ Aside0 (kq ≤ k) ∧ Aside0 (wc.heap[gb381]? = some (.cells #[.int .i64 a0_0, (.slice A0_1 l0_1.length c0_1), (.slice A0_2 l0_2.length c0_2), .int .i64 a0_3, .int .i64 a0_4, .int .i64 a0_5, .int .i64 a0_6, .int .i64 a0_7, (.slice A0_8 l0_8.length c0_8), .int .i64 a0_9] 34 (0, 0))) ∧ Aside0 (Below w.heap.size w wc))
 case first =>
  have H := HC8.out
  clear HC8
  by_cases c16 : a1 = a2
  ·rw [if_pos c16] at H
   obtain ⟨c16b0, c16b1⟩ := bt_ c16
   clear c16
   (first | rw [c16b0] | (simp only [i64_w, i32_w]; rw [c16b0]) | skip)
   have H' := Aside0.mk H
   clear H
   go_wp2
   go_meet
   case rel => exact ⟨_, (true), (by first | rfl | (simp; done) | (simp [*]; done)), H', ⟨by first | omega | exact Nat.le_refl _⟩, ⟨by (with_reducible repeat (first | refine blk_drewN ?_ _ | refine blk_drew ?_ | refine blk_alloc ?_ _)); exact BK381.out⟩, ⟨bl1_ HB GE381⟩⟩
  ·rw [if_neg c16] at H
   obtain ⟨c16b0, c16b1⟩ := bn_ c16
   (first | rw [c16b0] | (simp only [i64_w, i32_w]; rw [c16b0]) | skip)
   by_cases c17 : t384 = true
   ·subst c17
    rw [if_pos rfl] at H
    by_cases c18 : t385 = true
    ·subst c18
     rw [if_pos rfl] at H
     have H' := Aside0.mk H
     clear H
     go_wp2
     go_meet
     case rel => exact ⟨_, (false), (by first | rfl | (simp; done) | (simp [*]; done)), H', ⟨by first | omega | exact Nat.le_refl _⟩, ⟨by (with_reducible repeat (first | refine blk_drewN ?_ _ | refine blk_drew ?_ | refine blk_alloc ?_ _)); exact BK381.out⟩, ⟨bl1_ HB GE381⟩⟩
    ·replace c18 := Bool.eq_false_iff.mpr c18
     subst c18
     have H1 : ((impl_IsSite.f a0_0 l0_1 l0_2 a0_3 a0_4 a0_5 a0_6 a0_7 l0_8 a0_9 a2).bind fun t386 => (impl_LimitOf.j0 k t382 t383 true false (!t386) a0_0 l0_1 l0_2 a0_3 a0_4 a0_5 a0_6 a0_7 l0_8 a0_9)) = some r := by rw [if_neg (show ¬ (false = true) by decide)] at H; exact H
     clear H
     have H := H1
     clear H1
     replace H := bs_ H
     obtain ⟨t386, A19, H⟩ := H
     have H' := Aside0.mk H
     clear H
     have hcz20 := cf10_ BK381
     go_wp2_with (first | (go_at_call 122; (with_reducible refine (impl_IsSite.calls a0_0 _ _ l0_1 _ _ l0_2 a0_3 a0_4 a0_5 a0_6 a0_7 _ _ l0_8 a0_9 a2 t386 _ ?side1 ?side2 ?side3 ?side4 ?side5 ?side6 A19.out).mono ?_); (case side1 => exact ck_ HR0_1 HB); (case side2 => exact HC0_1.out); (case side3 => exact ck_ HR0_2 HB); (case side4 => exact HC0_2.out); (case side5 => exact ck_ HR0_8 HB); (case side6 => exact HC0_8.out); rintro e w21 ⟨rfl, hb⟩; refine sh2_ (blk_below (bk_ BK381) hb) (below_step (bl1_ HB GE381) hb) ?_; clear BK381 HB hb; intro BK381 HB))
     go_meet
     case rel => exact ⟨_, (!t386), (by first | rfl | (simp; done) | (simp [*]; done)), H', ⟨by first | omega | exact Nat.le_refl _⟩, ⟨by (with_reducible repeat (first | refine blk_drewN ?_ _ | refine blk_drew ?_ | refine blk_alloc ?_ _)); exact BK381.out⟩, ⟨bl1_ HB GE381⟩⟩
   ·replace c17 := Bool.eq_false_iff.mpr c17
    subst c17
    have H1 : ((impl_IsSite.f a0_0 l0_1 l0_2 a0_3 a0_4 a0_5 a0_6 a0_7 l0_8 a0_9 a1).bind fun t387 => (if t387 = true then (if t385 = true then (impl_LimitOf.j0 k t382 t383 false t385 false a0_0 l0_1 l0_2 a0_3 a0_4 a0_5 a0_6 a0_7 l0_8 a0_9) else ((impl_IsSite.f a0_0 l0_1 l0_2 a0_3 a0_4 a0_5 a0_6 a0_7 l0_8 a0_9 a2).bind fun t388 => (impl_LimitOf.j0 k t382 t383 false t385 (!t388) a0_0 l0_1 l0_2 a0_3 a0_4 a0_5 a0_6 a0_7 l0_8 a0_9))) else (impl_LimitOf.j0 k t382 t383 false t385 true a0_0 l0_1 l0_2 a0_3 a0_4 a0_5 a0_6 a0_7 l0_8 a0_9))) = some r := by rw [if_neg (show ¬ (false = true) by decide)] at H; exact H
    clear H
    have H := H1
    clear H1
    replace H := bs_ H
    obtain ⟨t387, A22, H⟩ := H
    by_cases c23 : t387 = true
    ·subst c23
     rw [if_pos rfl] at H
     by_cases c24 : t385 = true
     ·subst c24
      rw [if_pos rfl] at H
      have H' := Aside0.mk H
      clear H
      have hcz25 := cf10_ BK381
      go_wp2_with (first | (go_at_call 122; (with_reducible refine (impl_IsSite.calls a0_0 _ _ l0_1 _ _ l0_2 a0_3 a0_4 a0_5 a0_6 a0_7 _ _ l0_8 a0_9 a1 true _ ?side1 ?side2 ?side3 ?side4 ?side5 ?side6 A22.out).mono ?_); (case side1 => exact ck_ HR0_1 HB); (case side2 => exact HC0_1.out); (case side3 => exact ck_ HR0_2 HB); (case side4 => exact HC0_2.out); (case side5 => exact ck_ HR0_8 HB); (case side6 => exact HC0_8.out); rintro e w26 ⟨rfl, hb⟩; refine sh2_ (blk_below (bk_ BK381) hb) (below_step (bl1_ HB GE381) hb) ?_; clear BK381 HB hb; intro BK381 HB))
      go_meet
      case rel => exact ⟨_, (false), (by first | rfl | (simp; done) | (simp [*]; done)), H', ⟨by first | omega | exact Nat.le_refl _⟩, ⟨by (with_reducible repeat (first | refine blk_drewN ?_ _ | refine blk_drew ?_ | refine blk_alloc ?_ _)); exact BK381.out⟩, ⟨bl1_ HB GE381⟩⟩
     ·replace c24 := Bool.eq_false_iff.mpr c24
      subst c24
      have H1 : ((impl_IsSite.f a0_0 l0_1 l0_2 a0_3 a0_4 a0_5 a0_6 a0_7 l0_8 a0_9 a2).bind fun t388 => (impl_LimitOf.j0 k t382 t383 false false (!t388) a0_0 l0_1 l0_2 a0_3 a0_4 a0_5 a0_6 a0_7 l0_8 a0_9)) = some r := by rw [if_neg (show ¬ (false = true) by decide)] at H; exact H
      clear H
      have H := H1
      clear H1
      replace H := bs_ H
      obtain ⟨t388, A27, H⟩ := H
      have H' := Aside0.mk H
      clear H
      have hcz28 := cf10_ BK381
      go_wp2_with (first | (go_at_call 122; (with_reducible refine (impl_IsSite.calls a0_0 _ _ l0_1 _ _ l0_2 a0_3 a0_4 a0_5 a0_6 a0_7 _ _ l0_8 a0_9 a1 true _ ?side1 ?side2 ?side3 ?side4 ?side5 ?side6 A22.out).mono ?_); (case side1 => exact ck_ HR0_1 HB); (case side2 => exact HC0_1.out); (case side3 => exact ck_ HR0_2 HB); (case side4 => exact HC0_2.out); (case side5 => exact ck_ HR0_8 HB); (case side6 => exact HC0_8.out); rintro e w29 ⟨rfl, hb⟩; refine sh2_ (blk_below (bk_ BK381) hb) (below_step (bl1_ HB GE381) hb) ?_; clear BK381 HB hb; intro BK381 HB; have hcz30 := cf10_ BK381) | (go_at_call 122; (with_reducible refine (impl_IsSite.calls a0_0 _ _ l0_1 _ _ l0_2 a0_3 a0_4 a0_5 a0_6 a0_7 _ _ l0_8 a0_9 a2 t388 _ ?side1 ?side2 ?side3 ?side4 ?side5 ?side6 A27.out).mono ?_); (case side1 => exact ck_ HR0_1 HB); (case side2 => exact HC0_1.out); (case side3 => exact ck_ HR0_2 HB); (case side4 => exact HC0_2.out); (case side5 => exact ck_ HR0_8 HB); (case side6 => exact HC0_8.out); rintro e w31 ⟨rfl, hb⟩; refine sh2_ (blk_below (bk_ BK381) hb) (below_step (bl1_ HB GE381) hb) ?_; clear BK381 HB hb; intro BK381 HB))
      go_meet
      case rel => exact ⟨_, (!t388), (by first | rfl | (simp; done) | (simp [*]; done)), H', ⟨by first | omega | exact Nat.le_refl _⟩, ⟨by (with_reducible repeat (first | refine blk_drewN ?_ _ | refine blk_drew ?_ | refine blk_alloc ?_ _)); exact BK381.out⟩, ⟨bl1_ HB GE381⟩⟩
    ·replace c23 := Bool.eq_false_iff.mpr c23
     subst c23
     have H1 : (impl_LimitOf.j0 k t382 t383 false t385 true a0_0 l0_1 l0_2 a0_3 a0_4 a0_5 a0_6 a0_7 l0_8 a0_9) = some r := by rw [if_neg (show ¬ (false = true) by decide)] at H; exact H
     clear H
     have H := H1
     clear H1
     have H' := Aside0.mk H
     clear H
     have hcz32 := cf10_ BK381
     go_wp2_with (first | (go_at_call 122; (with_reducible refine (impl_IsSite.calls a0_0 _ _ l0_1 _ _ l0_2 a0_3 a0_4 a0_5 a0_6 a0_7 _ _ l0_8 a0_9 a1 false _ ?side1 ?side2 ?side3 ?side4 ?side5 ?side6 A22.out).mono ?_); (case side1 => exact ck_ HR0_1 HB); (case side2 => exact HC0_1.out); (case side3 => exact ck_ HR0_2 HB); (case side4 => exact HC0_2.out); (case side5 => exact ck_ HR0_8 HB); (case side6 => exact HC0_8.out); rintro e w33 ⟨rfl, hb⟩; refine sh2_ (blk_below (bk_ BK381) hb) (below_step (bl1_ HB GE381) hb) ?_; clear BK381 HB hb; intro BK381 HB))
     go_meet
     case rel => exact ⟨_, (true), (by first | rfl | (simp; done) | (simp [*]; done)), H', ⟨by first | omega | exact Nat.le_refl _⟩, ⟨by (with_reducible repeat (first | refine blk_drewN ?_ _ | refine blk_drew ?_ | refine blk_alloc ?_ _)); exact BK381.out⟩, ⟨bl1_ HB GE381⟩⟩
 case rest =>
  clear HC8
  try clear c1
  try clear c2
  try clear p2
  try clear c10
  try clear c11
  try clear c12
  try clear c16
  try clear c16b0
  try clear c16b1
  try clear c17
  try clear c18
  try clear c23
  try clear c24
  try clear hcz20
  try clear hcz25
  try clear hcz28
  try clear hcz30
  try clear hcz32
  obtain ⟨kq, x45_7, rfl, HA, HJ7, BK381, HB⟩ := hcut
  cases kq with
  | zero => exact absurd HA.out (by simp [impl_LimitOf.j0])
  | succ kj7 =>
   have H := HA.out
   clear HA
   simp only [impl_LimitOf.j0] at H
   by_cases c34 : x45_7 = true
   ·subst c34
    rw [if_pos rfl] at H
    obtain rfl := Option.some.inj H
    go_wp2
    go_ret
    exact ⟨er_, bl1_ HB GE381⟩
   ·replace c34 := Bool.eq_false_iff.mpr c34
    subst c34
    have H1 : (if t384 = true then (if t385 = true then (impl_LimitOf.j1 kj7 t382 t383 t384 t385 (t382 == t383) a0_0 l0_1 l0_2 a0_3 a0_4 a0_5 a0_6 a0_7 l0_8 a0_9) else (impl_LimitOf.j1 kj7 t382 t383 t384 t385 false a0_0 l0_1 l0_2 a0_3 a0_4 a0_5 a0_6 a0_7 l0_8 a0_9)) else (impl_LimitOf.j1 kj7 t382 t383 t384 t385 false a0_0 l0_1 l0_2 a0_3 a0_4 a0_5 a0_6 a0_7 l0_8 a0_9)) = some r := by rw [if_neg (show ¬ (false = true) by decide)] at H; exact H
    clear H
    have H := H1
    clear H1
    have HC35 := Aside0.mk H
    clear H
    go_upto_region 5 with (fail)
    go_cut [46] (fun v46 wc => ∃ (kq : Nat) (x46_34 : Bool), v46 = .bool x46_34 ∧ Aside0 (impl_LimitOf.j1 kq t382 t383 t384 t385 x46_34 a0_0 l0_1 l0_2 a0_3 a0_4 a0_5 a0_6 a0_7 l0_8 a0_9 = some r) ∧ Aside0 (kq ≤ kj7) ∧ Aside0 (wc.heap[gb381]? = some (.cells #[.int .i64 a0_0, (.slice A0_1 l0_1.length c0_1), (.slice A0_2 l0_2.length c0_2), .int .i64 a0_3, .int .i64 a0_4, .int .i64 a0_5, .int .i64 a0_6, .int .i64 a0_7, (.slice A0_8 l0_8.length c0_8), .int .i64 a0_9] 34 (0, 0))) ∧ Aside0 (Below w.heap.size w wc))
    case first =>
     have H := HC35.out
     clear HC35
     by_cases c36 : t384 = true
     ·subst c36
      rw [if_pos rfl] at H
      by_cases c37 : t385 = true
      ·subst c37
       rw [if_pos rfl] at H
       have H' := Aside0.mk H
       clear H
       go_wp2
       go_meet
       case rel => exact ⟨_, ((t382 == t383)), (by first | rfl | (simp; done) | (simp [*]; done)), H', ⟨by have := HJ7.out; first | omega | exact Nat.le_refl _⟩, ⟨by (with_reducible repeat (first | refine blk_drewN ?_ _ | refine blk_drew ?_ | refine blk_alloc ?_ _)); exact BK381.out⟩, ⟨bl1_ HB GE381⟩⟩
      ·replace c37 := Bool.eq_false_iff.mpr c37
       subst c37
       have H1 : (impl_LimitOf.j1 kj7 t382 t383 true false false a0_0 l0_1 l0_2 a0_3 a0_4 a0_5 a0_6 a0_7 l0_8 a0_9) = some r := by rw [if_neg (show ¬ (false = true) by decide)] at H; exact H
       clear H
       have H := H1
       clear H1
       have H' := Aside0.mk H
       clear H
       go_wp2
       go_meet
       case rel => exact ⟨_, (false), (by first | rfl | (simp; done) | (simp [*]; done)), H', ⟨by have := HJ7.out; first | omega | exact Nat.le_refl _⟩, ⟨by (with_reducible repeat (first | refine blk_drewN ?_ _ | refine blk_drew ?_ | refine blk_alloc ?_ _)); exact BK381.out⟩, ⟨bl1_ HB GE381⟩⟩
     ·replace c36 := Bool.eq_false_iff.mpr c36
      subst c36
      have H1 : (impl_LimitOf.j1 kj7 t382 t383 false t385 false a0_0 l0_1 l0_2 a0_3 a0_4 a0_5 a0_6 a0_7 l0_8 a0_9) = some r := by rw [if_neg (show ¬ (false = true) by decide)] at H; exact H
      clear H
      have H := H1
      clear H1
      have H' := Aside0.mk H
      clear H
      go_wp2
      go_meet
      case rel => exact ⟨_, (false), (by first | rfl | (simp; done) | (simp [*]; done)), H', ⟨by have := HJ7.out; first | omega | exact Nat.le_refl _⟩, ⟨by (with_reducible repeat (first | refine blk_drewN ?_ _ | refine blk_drew ?_ | refine blk_alloc ?_ _)); exact BK381.out⟩, ⟨bl1_ HB GE381⟩⟩
    case rest =>
     clear HC35
     try clear c1
     try clear c2
     try clear p2
     try clear c3
     try clear c10
     try clear c11
     try clear c12
     try clear c16
     try clear c16b0
     try clear c16b1
     try clear c17
     try clear c18
     try clear c23
     try clear c24
     try clear c34
     try clear c36
     try clear c37
     try clear hcz20
     try clear hcz25
     try clear hcz28
     try clear hcz30
     try clear hcz32
     try clear p2
     obtain ⟨kq, x46_34, rfl, HA, HJ34, BK381, HB⟩ := hcut
     cases kq with
     | zero => exact absurd HA.out (by simp [impl_LimitOf.j1])
     | succ kj34 =>
      have H := HA.out
      clear HA
      simp only [impl_LimitOf.j1] at H
      by_cases c38 : x46_34 = true
      ·subst c38
       rw [if_pos rfl] at H
       obtain rfl := Option.some.inj H
       have hcz39 := cf10_ BK381
       go_wp2
       go_ret
       exact ⟨er_, bl1_ HB GE381⟩
      ·replace c38 := Bool.eq_false_iff.mpr c38
       subst c38
       have H1 : (if t384 = true then (if t385 = true then ((impl_areNeighbors.f a0_0 l0_1 l0_2 a0_3 a0_4 a0_5 a0_6 a0_7 l0_8 a0_9 t382 t383).bind fun t389 => (impl_LimitOf.j2 kj34 t382 t383 t384 t385 t389 a0_0 l0_1 l0_2 a0_3 a0_4 a0_5 a0_6 a0_7 l0_8 a0_9)) else (impl_LimitOf.j2 kj34 t382 t383 t384 t385 false a0_0 l0_1 l0_2 a0_3 a0_4 a0_5 a0_6 a0_7 l0_8 a0_9)) else (impl_LimitOf.j2 kj34 t382 t383 t384 t385 false a0_0 l0_1 l0_2 a0_3 a0_4 a0_5 a0_6 a0_7 l0_8 a0_9)) = some r := by rw [if_neg (show ¬ (false = true) by decide)] at H; exact H
       clear H
       have H := H1
       clear H1
       have HC40 := Aside0.mk H
       clear H
       go_upto_region 7 with (fail)
       go_cut [58] (fun v58 wc => ∃ (kq : Nat) (x58_39 : Bool), v58 = .bool x58_39 ∧ Aside0 (impl_LimitOf.j2 kq t382 t383 t384 t385 x58_39 a0_0 l0_1 l0_2 a0_3 a0_4 a0_5 a0_6 a0_7 l0_8 a0_9 = some r) ∧ Aside0 (kq ≤ kj34) ∧ Aside0 (wc.heap[gb381]? = some (.cells #[.int .i64 a0_0, (.slice A0_1 l0_1.length c0_1), (.slice A0_2 l0_2.length c0_2), .int .i64 a0_3, .int .i64 a0_4, .int .i64 a0_5, .int .i64 a0_6, .int .i64 a0_7, (.slice A0_8 l0_8.length c0_8), .int .i64 a0_9] 34 (0, 0))) ∧ Aside0 (Below w.heap.size w wc))
       case first =>
        have H := HC40.out
        clear HC40
        by_cases c41 : t384 = true
        ·subst c41
         rw [if_pos rfl] at H
         by_cases c42 : t385 = true
         ·subst c42
          rw [if_pos rfl] at H
          replace H := bs_ H
          obtain ⟨t389, A43, H⟩ := H
          have H' := Aside0.mk H
          clear H
          have hcz44 := cf10_ BK381
          go_wp2_with (first | (go_at_call 129; (with_reducible refine (impl_areNeighbors.calls a0_0 _ _ l0_1 _ _ l0_2 a0_3 a0_4 a0_5 a0_6 a0_7 _ _ l0_8 a0_9 t382 t383 t389 _ ?side1 ?side2 ?side3 ?side4 ?side5 ?side6 A43.out).mono ?_); (case side1 => exact ck_ HR0_1 HB); (case side2 => exact HC0_1.out); (case side3 => exact ck_ HR0_2 HB); (case side4 => exact HC0_2.out); (case side5 => exact ck_ HR0_8 HB); (case side6 => exact HC0_8.out); rintro e w45 ⟨rfl, hb⟩; refine sh2_ (blk_below (bk_ BK381) hb) (below_step (bl1_ HB GE381) hb) ?_; clear BK381 HB hb; intro BK381 HB))
          go_meet
          case rel => exact ⟨_, (t389), (by first | rfl | (simp; done) | (simp [*]; done)), H', ⟨by have := HJ7.out; have := HJ34.out; first | omega | exact Nat.le_refl _⟩, ⟨by (with_reducible repeat (first | refine blk_drewN ?_ _ | refine blk_drew ?_ | refine blk_alloc ?_ _)); exact BK381.out⟩, ⟨bl1_ HB GE381⟩⟩
         ·replace c42 := Bool.eq_false_iff.mpr c42
          subst c42
          have H1 : (impl_LimitOf.j2 kj34 t382 t383 true false false a0_0 l0_1 l0_2 a0_3 a0_4 a0_5 a0_6 a0_7 l0_8 a0_9) = some r := by rw [if_neg (show ¬ (false = true) by decide)] at H; exact H
          clear H
          have H := H1
          clear H1
          have H' := Aside0.mk H
          clear H
          go_wp2
          go_meet
          case rel => exact ⟨_, (false), (by first | rfl | (simp; done) | (simp [*]; done)), H', ⟨by have := HJ7.out; have := HJ34.out; first | omega | exact Nat.le_refl _⟩, ⟨by (with_reducible repeat (first | refine blk_drewN ?_ _ | refine blk_drew ?_ | refine blk_alloc ?_ _)); exact BK381.out⟩, ⟨bl1_ HB GE381⟩⟩
        ·replace c41 := Bool.eq_false_iff.mpr c41
         subst c41
         have H1 : (impl_LimitOf.j2 kj34 t382 t383 false t385 false a0_0 l0_1 l0_2 a0_3 a0_4 a0_5 a0_6 a0_7 l0_8 a0_9) = some r := by rw [if_neg (show ¬ (false = true) by decide)] at H; exact H
         clear H
         have H := H1
         clear H1
         have H' := Aside0.mk H
         clear H
         go_wp2
         go_meet
         case rel => exact ⟨_, (false), (by first | rfl | (simp; done) | (simp [*]; done)), H', ⟨by have := HJ7.out; have := HJ34.out; first | omega | exact Nat.le_refl _⟩, ⟨by (with_reducible repeat (first | refine blk_drewN ?_ _ | refine blk_drew ?_ | refine blk_alloc ?_ _)); exact BK381.out⟩, ⟨bl1_ HB GE381⟩⟩
       case rest =>
        clear HC40
        try clear c1
        try clear c2
        try clear p2
        try clear c3
        try clear c4
        try clear c10
        try clear c11
        try clear c12
        try clear c16
        try clear c16b0
        try clear c16b1
        try clear c17
        try clear c18
        try clear c23
        try clear c24
        try clear c34
        try clear c36
        try clear c37
        try clear c38
        try clear c41
        try clear c42
        try clear hcz20
        try clear hcz25
        try clear hcz28
        try clear hcz30
        try clear hcz32
        try clear hcz39
        try clear hcz44
        try clear p2
        obtain ⟨kq, x58_39, rfl, HA, HJ39, BK381, HB⟩ := hcut
        cases kq with
        | zero => exact absurd HA.out (by simp [impl_LimitOf.j2])
        | succ kj39 =>
         have H := HA.out
         clear HA
         simp only [impl_LimitOf.j2] at H
         by_cases c46 : x58_39 = true
         ·subst c46
          rw [if_pos rfl] at H
          obtain rfl := Option.some.inj H
          have hcz47 := cf10_ BK381
          go_wp2
          go_ret
          exact ⟨er_, bl1_ HB GE381⟩
         ·replace c46 := Bool.eq_false_iff.mpr c46
          subst c46
          have H1 : (if (t384 != t385) = true then (if t382 = t383 then (some a0_5) else ((impl_areNeighbors.f a0_0 l0_1 l0_2 a0_3 a0_4 a0_5 a0_6 a0_7 l0_8 a0_9 t382 t383).bind fun t390 => (if t390 = true then (some a0_5) else (some (-1))))) else (some (-1))) = some r := by rw [if_neg (show ¬ (false = true) by decide)] at H; exact H
          clear H
          have H := H1
          clear H1
          by_cases c48 : (t384 != t385) = true
          ·rw [if_pos c48] at H
           have c48b0 : (t384 != t385) = true := c48
           (try (have c48b1 : decide (t384 = t385) = false := by simpa using c48))
           (try (have c48b2 : (t384 == t385) = false := by simpa using c48))
           (try (have c48b3 : ¬ (t384 = t385) := by simpa using c48))
           clear c48
           by_cases c49 : t382 = t383
           ·rw [if_pos c49] at H
            obtain ⟨c49b0, c49b1⟩ := bt_ c49
            clear c49
            obtain rfl := Option.some.inj H
            have hcz50 := cf10_ BK381
            go_wp2
            go_ret
            exact ⟨er_, bl1_ HB GE381⟩
           ·rw [if_neg c49] at H
            obtain ⟨c49b0, c49b1⟩ := bn_ c49
            replace H := bs_ H
            obtain ⟨t390, A51, H⟩ := H
            by_cases c52 : t390 = true
            ·subst c52
             rw [if_pos rfl] at H
             obtain rfl := Option.some.inj H
             have hcz53 := cf10_ BK381
             go_wp2_with (first | (go_at_call 129; (with_reducible refine (impl_areNeighbors.calls a0_0 _ _ l0_1 _ _ l0_2 a0_3 a0_4 a0_5 a0_6 a0_7 _ _ l0_8 a0_9 t382 t383 true _ ?side1 ?side2 ?side3 ?side4 ?side5 ?side6 A51.out).mono ?_); (case side1 => exact ck_ HR0_1 HB); (case side2 => exact HC0_1.out); (case side3 => exact ck_ HR0_2 HB); (case side4 => exact HC0_2.out); (case side5 => exact ck_ HR0_8 HB); (case side6 => exact HC0_8.out); rintro e w54 ⟨rfl, hb⟩; refine sh2_ (blk_below (bk_ BK381) hb) (below_step (bl1_ HB GE381) hb) ?_; clear BK381 HB hb; intro BK381 HB; have hcz55 := cf10_ BK381))
             go_ret
             exact ⟨er_, bl1_ HB GE381⟩
            ·replace c52 := Bool.eq_false_iff.mpr c52
             subst c52
             have H1 : (some (-1)) = some r := by rw [if_neg (show ¬ (false = true) by decide)] at H; exact H
             clear H
             have H := H1
             clear H1
             obtain rfl := Option.some.inj H
             have hcz56 := cf10_ BK381
             go_wp2_with (first | (go_at_call 129; (with_reducible refine (impl_areNeighbors.calls a0_0 _ _ l0_1 _ _ l0_2 a0_3 a0_4 a0_5 a0_6 a0_7 _ _ l0_8 a0_9 t382 t383 false _ ?side1 ?side2 ?side3 ?side4 ?side5 ?side6 A51.out).mono ?_); (case side1 => exact ck_ HR0_1 HB); (case side2 => exact HC0_1.out); (case side3 => exact ck_ HR0_2 HB); (case side4 => exact HC0_2.out); (case side5 => exact ck_ HR0_8 HB); (case side6 => exact HC0_8.out); rintro e w57 ⟨rfl, hb⟩; refine sh2_ (blk_below (bk_ BK381) hb) (below_step (bl1_ HB GE381) hb) ?_; clear BK381 HB hb; intro BK381 HB))
             go_ret
             exact ⟨er_, bl1_ HB GE381⟩
          ·rw [if_neg c48] at H
           have c48b0 : (t384 != t385) = false := by simpa using c48
           (try (have c48b1 : decide (t384 = t385) = true := by simpa using c48))
           (try (have c48b2 : (t384 == t385) = true := by simpa using c48))
           clear c48
           obtain rfl := Option.some.inj H
           go_wp2
           go_ret
           exact ⟨er_, bl1_ HB GE381⟩

/-! ### impl_GapOf: function 114 -/
def impl_GapOf.f (a0 : Int) (a1 : Int) : Option (Int) := (impl_AngleOf.f a0).bind fun t391 => ((impl_AngleOf.f a1).bind fun t392 => ((impl_AngleOf.f (wrap64 (t391 - t392))).bind fun t393 => (some (mn t393 (wrap64 (360 - t393))))))
set_option maxHeartbeats 8000000 in
set_option maxRecDepth 100000 in
theorem impl_GapOf.calls (a0 : Int) (a1 : Int) (r : Int) (w : World) (h : impl_GapOf.f a0 a1 = some r) :
  Calls Try.prog 114 #[.int .i64 a0, .int .i64 a1] w fun e w' => e = .returned (.int .i64 r) ∧ Below w.heap.size w w' := by
 have HB := Aside0.mk (Below.refl w.heap.size w)
 have H := h
 clear h
 unfold impl_GapOf.f at H
 replace H := bs_ H
 obtain ⟨t391, A3, H⟩ := H
 replace H := bs_ H
 obtain ⟨t392, A4, H⟩ := H
 replace H := bs_ H
 obtain ⟨t393, A5, H⟩ := H
 obtain ⟨ji6, hji6⟩ : ∃ j_ : Int, (mn t393 (wrap64 (360 - t393))) = j_ := ⟨_, rfl⟩
 replace H : (some ji6) = some r := by first | (rw [hji6] at H; exact H) | (simp only [hji6] at H ⊢; exact H)
 (try rw [hji6] at A3)
 (try rw [hji6] at A4)
 (try rw [hji6] at A5)
 have hji6_ : (if (wrap64 (360 - t393)) < t393 then (wrap64 (360 - t393)) else t393) = ji6 := hji6
 obtain rfl := Option.some.inj H
 go_enter Try.func114, Try.ntmps114
 go_wp2_with (first | ((with_reducible refine gate_callee (f := 130) rfl ?_); refine gl_ 7 Try.func130 (impl_AngleOf.calls a0 t391 _ A3.out) ?_; rintro e w' ⟨rfl, ⟨nd, rfl⟩⟩; refine ⟨_, rfl, ?_⟩) | ((with_reducible refine gate_callee (f := 130) rfl ?_); refine gl_ 9 Try.func130 (impl_AngleOf.calls a1 t392 _ A4.out) ?_; rintro e w' ⟨rfl, ⟨nd, rfl⟩⟩; refine ⟨_, rfl, ?_⟩) | ((with_reducible refine gate_callee (f := 130) rfl ?_); refine gl_ 11 Try.func130 (impl_AngleOf.calls (wrap64 (t391 - t392)) t393 _ A5.out) ?_; rintro e w' ⟨rfl, ⟨nd, rfl⟩⟩; refine ⟨_, rfl, ?_⟩))
 go_ret
 exact ⟨by first | rfl | (simp [errW_none, errW_some] <;> rfl) | (simp only [← hji6]; first | rfl | (simp [errW_none, errW_some] <;> rfl)) | (simp [*, errW_none, errW_some] <;> rfl), bl_ HB⟩

/-! ### impl_MiddleOf: function 115 -/
def impl_MiddleOf.f (a0_0 : Int) (a0_1 : Int) : Option (Int) := (impl_isWidth.f a0_1).bind fun t395 => (if t395 = true then ((impl_AngleOf.f a0_0).bind fun t396 => ((impl_AngleOf.f (wrap64 (t396 + (wrap64 (Int.tdiv a0_1 2))))).bind fun t397 => (some t397))) else ((impl_AngleOf.f a0_0).bind fun t398 => (some t398)))
set_option maxHeartbeats 8000000 in
set_option maxRecDepth 100000 in
theorem impl_MiddleOf.calls (a0_0 : Int) (a0_1 : Int) (r : Int) (w : World) (h : impl_MiddleOf.f a0_0 a0_1 = some r) :
  Calls Try.prog 115 #[.agg #[.int .i64 a0_0, .int .i64 a0_1]] w fun e w' => e = .returned (.int .i64 r) ∧ Below w.heap.size w w' := by
 have hu113 := Try.underlying113
 have HB := Aside0.mk (Below.refl w.heap.size w)
 have H := h
 clear h
 unfold impl_MiddleOf.f at H
 replace H := bs_ H
 obtain ⟨t395, A2, H⟩ := H
 by_cases c3 : t395 = true
 ·subst c3
  rw [if_pos rfl] at H
  replace H := bs_ H
  obtain ⟨t396, A4, H⟩ := H
  replace H := bs_ H
  obtain ⟨t397, A5, H⟩ := H
  obtain rfl := Option.some.inj H
  go_enter Try.func115, Try.ntmps115
  go_wp2_with (first | ((with_reducible refine gd_ 1 ?_); refine bx_ 1 113 #[.int .i64 a0_0, .int .i64 a0_1] ?_; intro gb394 hg w6 hbox hb; refine sh3_ (below_step (bl_ HB) hb) hbox (ge_ hg (bl_ HB)) ?_; clear HB hb hbox hg; intro HB BK394 GE394; have hcz7 := cf2_ BK394) | (go_at_call 131; (with_reducible refine (impl_isWidth.calls a0_1 true _ A2.out).mono ?_); rintro e w' ⟨rfl, ⟨nd, rfl⟩⟩; (try exact dd_)) | (go_at_call 130; (with_reducible refine (impl_AngleOf.calls a0_0 t396 _ A4.out).mono ?_); rintro e w' ⟨rfl, ⟨nd, rfl⟩⟩; (try exact dd_)) | (go_at_call 130; (with_reducible refine (impl_AngleOf.calls (wrap64 (t396 + (wrap64 (Int.tdiv a0_1 2)))) t397 _ A5.out).mono ?_); rintro e w' ⟨rfl, ⟨nd, rfl⟩⟩; (try exact dd_)))
  repeat (go_quiet (first | ((with_reducible refine gd_ 1 ?_); refine bx_ 1 113 #[.int .i64 a0_0, .int .i64 a0_1] ?_; intro gb394 hg w6 hbox hb; refine sh3_ (below_step (bl_ HB) hb) hbox (ge_ hg (bl_ HB)) ?_; clear HB hb hbox hg; intro HB BK394 GE394; have hcz7 := cf2_ BK394) | (go_at_call 131; (with_reducible refine (impl_isWidth.calls a0_1 true _ A2.out).mono ?_); rintro e w' ⟨rfl, ⟨nd, rfl⟩⟩; (try exact dd_)) | (go_at_call 130; (with_reducible refine (impl_AngleOf.calls a0_0 t396 _ A4.out).mono ?_); rintro e w' ⟨rfl, ⟨nd, rfl⟩⟩; (try exact dd_)) | (go_at_call 130; (with_reducible refine (impl_AngleOf.calls (wrap64 (t396 + (wrap64 (Int.tdiv a0_1 2)))) t397 _ A5.out).mono ?_); rintro e w' ⟨rfl, ⟨nd, rfl⟩⟩; (try exact dd_))); try go_wp2_with (first | ((with_reducible refine gd_ 1 ?_); refine bx_ 1 113 #[.int .i64 a0_0, .int .i64 a0_1] ?_; intro gb394 hg w6 hbox hb; refine sh3_ (below_step (bl_ HB) hb) hbox (ge_ hg (bl_ HB)) ?_; clear HB hb hbox hg; intro HB BK394 GE394; have hcz7 := cf2_ BK394) | (go_at_call 131; (with_reducible refine (impl_isWidth.calls a0_1 true _ A2.out).mono ?_); rintro e w' ⟨rfl, ⟨nd, rfl⟩⟩; (try exact dd_)) | (go_at_call 130; (with_reducible refine (impl_AngleOf.calls a0_0 t396 _ A4.out).mono ?_); rintro e w' ⟨rfl, ⟨nd, rfl⟩⟩; (try exact dd_)) | (go_at_call 130; (with_reducible refine (impl_AngleOf.calls (wrap64 (t396 + (wrap64 (Int.tdiv a0_1 2)))) t397 _ A5.out).mono ?_); rintro e w' ⟨rfl, ⟨nd, rfl⟩⟩; (try exact dd_))))
  go_ret
  exact ⟨er_, bl1_ HB GE394⟩
 ·replace c3 := Bool.eq_false_iff.mpr c3
  subst c3
  have H1 : ((impl_AngleOf.f a0_0).bind fun t398 => (some t398)) = some r := by rw [if_neg (show ¬ (false = true) by decide)] at H; exact H
  clear H
  have H := H1
  clear H1
  replace H := bs_ H
  obtain ⟨t398, A8, H⟩ := H
  obtain rfl := Option.some.inj H
  go_enter Try.func115, Try.ntmps115
  go_wp2_with (first | ((with_reducible refine gd_ 1 ?_); refine bx_ 1 113 #[.int .i64 a0_0, .int .i64 a0_1] ?_; intro gb394 hg w9 hbox hb; refine sh3_ (below_step (bl_ HB) hb) hbox (ge_ hg (bl_ HB)) ?_; clear HB hb hbox hg; intro HB BK394 GE394; have hcz10 := cf2_ BK394) | (go_at_call 131; (with_reducible refine (impl_isWidth.calls a0_1 false _ A2.out).mono ?_); rintro e w' ⟨rfl, ⟨nd, rfl⟩⟩; (try exact dd_)) | (go_at_call 130; (with_reducible refine (impl_AngleOf.calls a0_0 t398 _ A8.out).mono ?_); rintro e w' ⟨rfl, ⟨nd, rfl⟩⟩; (try exact dd_)))
  repeat (go_quiet (first | ((with_reducible refine gd_ 1 ?_); refine bx_ 1 113 #[.int .i64 a0_0, .int .i64 a0_1] ?_; intro gb394 hg w9 hbox hb; refine sh3_ (below_step (bl_ HB) hb) hbox (ge_ hg (bl_ HB)) ?_; clear HB hb hbox hg; intro HB BK394 GE394; have hcz10 := cf2_ BK394) | (go_at_call 131; (with_reducible refine (impl_isWidth.calls a0_1 false _ A2.out).mono ?_); rintro e w' ⟨rfl, ⟨nd, rfl⟩⟩; (try exact dd_)) | (go_at_call 130; (with_reducible refine (impl_AngleOf.calls a0_0 t398 _ A8.out).mono ?_); rintro e w' ⟨rfl, ⟨nd, rfl⟩⟩; (try exact dd_))); try go_wp2_with (first | ((with_reducible refine gd_ 1 ?_); refine bx_ 1 113 #[.int .i64 a0_0, .int .i64 a0_1] ?_; intro gb394 hg w9 hbox hb; refine sh3_ (below_step (bl_ HB) hb) hbox (ge_ hg (bl_ HB)) ?_; clear HB hb hbox hg; intro HB BK394 GE394; have hcz10 := cf2_ BK394) | (go_at_call 131; (with_reducible refine (impl_isWidth.calls a0_1 false _ A2.out).mono ?_); rintro e w' ⟨rfl, ⟨nd, rfl⟩⟩; (try exact dd_)) | (go_at_call 130; (with_reducible refine (impl_AngleOf.calls a0_0 t398 _ A8.out).mono ?_); rintro e w' ⟨rfl, ⟨nd, rfl⟩⟩; (try exact dd_))))
  go_ret
  exact ⟨er_, bl1_ HB GE394⟩

end Go.Proofs.Ytcjfalmhohcifaa.PFnExactSpeakingSpans
