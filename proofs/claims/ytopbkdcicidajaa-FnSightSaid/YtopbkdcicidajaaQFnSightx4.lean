-- Written by a program of this session for this claim (the kit's printer with changes).
import Derived.Test.YtopbkdcicidajaaQFnSightx0
import Derived.Test.YtopbkdcicidajaaQFnSightx3
namespace Go.Proofs.Ytopbkdcicidajaa.PFnSight
open Go.RowKit Go.Proofs.YtopbkdcicidajaaW.PrintWords Go.Proofs.YtopbkdcicidajaaW.PrintLast Go.Proofs.YtopbkdcicidajaaW.PrintMore
attribute [local go_sem] max2_int min2_int max_two min_two max_three min_three max_four min_four   -- for this text's walks alone
set_option linter.unusedVariables false
set_option linter.unusedSimpArgs false

/-! ### impl_LimitOf: function 11 -/
mutual
def impl_LimitOf.j0 : Nat → Int → Int → Bool → Bool → Bool → Int → List (S72) → List (S74) → Int → Int → Int → Int → Int → List (S88) → Int → Option (Int)
 | 0, _, _, _, _, _, _, _, _, _, _, _, _, _, _, _ => none
 | k + 1, x7, x8, x9, x10, x45, x414000, x414001, x414002, x414003, x414004, x414005, x414006, x414007, x414008, x414009 => if x45 = true then (some (-1)) else (if x9 = true then (if x10 = true then (impl_LimitOf.j1 k x7 x8 x9 x10 (x7 == x8) x414000 x414001 x414002 x414003 x414004 x414005 x414006 x414007 x414008 x414009) else (impl_LimitOf.j1 k x7 x8 x9 x10 false x414000 x414001 x414002 x414003 x414004 x414005 x414006 x414007 x414008 x414009)) else (impl_LimitOf.j1 k x7 x8 x9 x10 false x414000 x414001 x414002 x414003 x414004 x414005 x414006 x414007 x414008 x414009))
def impl_LimitOf.j1 : Nat → Int → Int → Bool → Bool → Bool → Int → List (S72) → List (S74) → Int → Int → Int → Int → Int → List (S88) → Int → Option (Int)
 | 0, _, _, _, _, _, _, _, _, _, _, _, _, _, _, _ => none
 | k + 1, x7, x8, x9, x10, x46, x414000, x414001, x414002, x414003, x414004, x414005, x414006, x414007, x414008, x414009 => if x46 = true then (some x414003) else (if x9 = true then (if x10 = true then ((impl_areNeighbors.f x414000 x414001 x414002 x414003 x414004 x414005 x414006 x414007 x414008 x414009 x7 x8).bind fun t421 => (impl_LimitOf.j2 k x7 x8 x9 x10 t421 x414000 x414001 x414002 x414003 x414004 x414005 x414006 x414007 x414008 x414009)) else (impl_LimitOf.j2 k x7 x8 x9 x10 false x414000 x414001 x414002 x414003 x414004 x414005 x414006 x414007 x414008 x414009)) else (impl_LimitOf.j2 k x7 x8 x9 x10 false x414000 x414001 x414002 x414003 x414004 x414005 x414006 x414007 x414008 x414009))
def impl_LimitOf.j2 : Nat → Int → Int → Bool → Bool → Bool → Int → List (S72) → List (S74) → Int → Int → Int → Int → Int → List (S88) → Int → Option (Int)
 | 0, _, _, _, _, _, _, _, _, _, _, _, _, _, _, _ => none
 | k + 1, x7, x8, x9, x10, x58, x414000, x414001, x414002, x414003, x414004, x414005, x414006, x414007, x414008, x414009 => if x58 = true then (some x414004) else (if (x9 != x10) = true then (if x7 = x8 then (some x414005) else ((impl_areNeighbors.f x414000 x414001 x414002 x414003 x414004 x414005 x414006 x414007 x414008 x414009 x7 x8).bind fun t422 => (if t422 = true then (some x414005) else (some (-1))))) else (some (-1)))
end
def impl_LimitOf.f (k : Nat) (a0_0 : Int) (l0_1 : List (S72)) (l0_2 : List (S74)) (a0_3 : Int) (a0_4 : Int) (a0_5 : Int) (a0_6 : Int) (a0_7 : Int) (l0_8 : List (S88)) (a0_9 : Int) (a1 : Int) (a2 : Int) : Option (Int) := (impl_PlaneOf.f a0_0 l0_1 l0_2 a0_3 a0_4 a0_5 a0_6 a0_7 l0_8 a0_9 a1).bind fun t414 => ((impl_PlaneOf.f a0_0 l0_1 l0_2 a0_3 a0_4 a0_5 a0_6 a0_7 l0_8 a0_9 a2).bind fun t415 => ((impl_isSatellite.f a0_0 l0_1 l0_2 a0_3 a0_4 a0_5 a0_6 a0_7 l0_8 a0_9 a1).bind fun t416 => ((impl_isSatellite.f a0_0 l0_1 l0_2 a0_3 a0_4 a0_5 a0_6 a0_7 l0_8 a0_9 a2).bind fun t417 => (if a1 = a2 then (impl_LimitOf.j0 k t414 t415 t416 t417 true a0_0 l0_1 l0_2 a0_3 a0_4 a0_5 a0_6 a0_7 l0_8 a0_9) else (if t416 = true then (if t417 = true then (impl_LimitOf.j0 k t414 t415 t416 t417 false a0_0 l0_1 l0_2 a0_3 a0_4 a0_5 a0_6 a0_7 l0_8 a0_9) else ((impl_IsSite.f a0_0 l0_1 l0_2 a0_3 a0_4 a0_5 a0_6 a0_7 l0_8 a0_9 a2).bind fun t418 => (impl_LimitOf.j0 k t414 t415 t416 t417 (!t418) a0_0 l0_1 l0_2 a0_3 a0_4 a0_5 a0_6 a0_7 l0_8 a0_9))) else ((impl_IsSite.f a0_0 l0_1 l0_2 a0_3 a0_4 a0_5 a0_6 a0_7 l0_8 a0_9 a1).bind fun t419 => (if t419 = true then (if t417 = true then (impl_LimitOf.j0 k t414 t415 t416 t417 false a0_0 l0_1 l0_2 a0_3 a0_4 a0_5 a0_6 a0_7 l0_8 a0_9) else ((impl_IsSite.f a0_0 l0_1 l0_2 a0_3 a0_4 a0_5 a0_6 a0_7 l0_8 a0_9 a2).bind fun t420 => (impl_LimitOf.j0 k t414 t415 t416 t417 (!t420) a0_0 l0_1 l0_2 a0_3 a0_4 a0_5 a0_6 a0_7 l0_8 a0_9))) else (impl_LimitOf.j0 k t414 t415 t416 t417 true a0_0 l0_1 l0_2 a0_3 a0_4 a0_5 a0_6 a0_7 l0_8 a0_9))))))))
theorem impl_LimitOf.mono_l : ∀ k, (∀ y0 y1 y2 y3 y4 y5 y6 y7 y8 y9 y10 y11 y12 y13 y14, LeO (impl_LimitOf.j0 k y0 y1 y2 y3 y4 y5 y6 y7 y8 y9 y10 y11 y12 y13 y14) (impl_LimitOf.j0 (k + 1) y0 y1 y2 y3 y4 y5 y6 y7 y8 y9 y10 y11 y12 y13 y14)) ∧ (∀ y0 y1 y2 y3 y4 y5 y6 y7 y8 y9 y10 y11 y12 y13 y14, LeO (impl_LimitOf.j1 k y0 y1 y2 y3 y4 y5 y6 y7 y8 y9 y10 y11 y12 y13 y14) (impl_LimitOf.j1 (k + 1) y0 y1 y2 y3 y4 y5 y6 y7 y8 y9 y10 y11 y12 y13 y14)) ∧ (∀ y0 y1 y2 y3 y4 y5 y6 y7 y8 y9 y10 y11 y12 y13 y14, LeO (impl_LimitOf.j2 k y0 y1 y2 y3 y4 y5 y6 y7 y8 y9 y10 y11 y12 y13 y14) (impl_LimitOf.j2 (k + 1) y0 y1 y2 y3 y4 y5 y6 y7 y8 y9 y10 y11 y12 y13 y14))
 | 0 => ⟨fun _ _ _ _ _ _ _ _ _ _ _ _ _ _ _ r h => by simp [impl_LimitOf.j0] at h, fun _ _ _ _ _ _ _ _ _ _ _ _ _ _ _ r h => by simp [impl_LimitOf.j1] at h, fun _ _ _ _ _ _ _ _ _ _ _ _ _ _ _ r h => by simp [impl_LimitOf.j2] at h⟩
 | k + 1 => by
  obtain ⟨ih0, ih1, ih2⟩ := impl_LimitOf.mono_l k
  refine ⟨?_, ?_, ?_⟩
  ·intro y0 y1 y2 y3 y4 y5 y6 y7 y8 y9 y10 y11 y12 y13 y14
   unfold impl_LimitOf.j0
   repeat' first | (with_reducible first | exact ih0 _ _ _ _ _ _ _ _ _ _ _ _ _ _ _ | exact ih1 _ _ _ _ _ _ _ _ _ _ _ _ _ _ _ | exact ih2 _ _ _ _ _ _ _ _ _ _ _ _ _ _ _ | exact LeO.refl _ | exact LeO.none _ | refine LeO.ite ?_ ?_ | refine LeO.bind ?_ (fun _ => ?_)) | exact LeO.none _ | refine LeO.ite ?_ ?_ | refine LeO.bind ?_ (fun _ => ?_)
  ·intro y0 y1 y2 y3 y4 y5 y6 y7 y8 y9 y10 y11 y12 y13 y14
   unfold impl_LimitOf.j1
   repeat' first | (with_reducible first | exact ih0 _ _ _ _ _ _ _ _ _ _ _ _ _ _ _ | exact ih1 _ _ _ _ _ _ _ _ _ _ _ _ _ _ _ | exact ih2 _ _ _ _ _ _ _ _ _ _ _ _ _ _ _ | exact LeO.refl _ | exact LeO.none _ | refine LeO.ite ?_ ?_ | refine LeO.bind ?_ (fun _ => ?_)) | exact LeO.none _ | refine LeO.ite ?_ ?_ | refine LeO.bind ?_ (fun _ => ?_)
  ·intro y0 y1 y2 y3 y4 y5 y6 y7 y8 y9 y10 y11 y12 y13 y14
   unfold impl_LimitOf.j2
   repeat' first | (with_reducible first | exact ih0 _ _ _ _ _ _ _ _ _ _ _ _ _ _ _ | exact ih1 _ _ _ _ _ _ _ _ _ _ _ _ _ _ _ | exact ih2 _ _ _ _ _ _ _ _ _ _ _ _ _ _ _ | exact LeO.refl _ | exact LeO.none _ | refine LeO.ite ?_ ?_ | refine LeO.bind ?_ (fun _ => ?_)) | exact LeO.none _ | refine LeO.ite ?_ ?_ | refine LeO.bind ?_ (fun _ => ?_)
theorem impl_LimitOf.mono : ∀ a0 a1 a2 a3 a4 a5 a6 a7 a8 a9 a10 a11 k, LeO (impl_LimitOf.f k a0 a1 a2 a3 a4 a5 a6 a7 a8 a9 a10 a11) (impl_LimitOf.f (k + 1) a0 a1 a2 a3 a4 a5 a6 a7 a8 a9 a10 a11) := by
 intro a0 a1 a2 a3 a4 a5 a6 a7 a8 a9 a10 a11 k
 obtain ⟨ih0, ih1, ih2⟩ := impl_LimitOf.mono_l k
 unfold impl_LimitOf.f
 repeat' first | (with_reducible first | exact ih0 _ _ _ _ _ _ _ _ _ _ _ _ _ _ _ | exact ih1 _ _ _ _ _ _ _ _ _ _ _ _ _ _ _ | exact ih2 _ _ _ _ _ _ _ _ _ _ _ _ _ _ _ | exact LeO.refl _ | exact LeO.none _ | refine LeO.ite ?_ ?_ | refine LeO.bind ?_ (fun _ => ?_)) | exact LeO.none _ | refine LeO.ite ?_ ?_ | refine LeO.bind ?_ (fun _ => ?_)
def impl_LimitOf.T1 : Bool × List (List Nat × List Nat) := (true, [([], []), ([], []), ([0, 1], [0, 1]), ([], []), ([], []), ([3, 4, 2], [3, 4]), ([2, 5, 0, 1, 2], [2]), ([5, 6, 0, 1, 2, 3, 4, 5, 6], [5])])
def impl_LimitOf.B1 : List Nat := [0, 0, 3, 0, 0, 31, 63, 127]
theorem impl_LimitOf.tab1 : rtab .any (opsOf Try.f11 1) = impl_LimitOf.T1 := by kernel_rfl
theorem impl_LimitOf.bits1 : waitsOk impl_LimitOf.T1.2 impl_LimitOf.B1 = true := by kernel_rfl
def impl_LimitOf.T2 : Bool × List (List Nat × List Nat) := (true, [([], []), ([], []), ([0, 1], [0, 1]), ([], []), ([], []), ([3, 4, 2], [3, 4]), ([2, 5, 0, 1, 2], [2]), ([5, 6, 0, 1, 2, 3, 4, 5, 6], [5])])
def impl_LimitOf.B2 : List Nat := [0, 0, 3, 0, 0, 31, 63, 127]
theorem impl_LimitOf.tab2 : rtab .any (opsOf Try.f11 2) = impl_LimitOf.T2 := by kernel_rfl
theorem impl_LimitOf.bits2 : waitsOk impl_LimitOf.T2.2 impl_LimitOf.B2 = true := by kernel_rfl
set_option maxHeartbeats 8000000 in
set_option maxRecDepth 100000 in
theorem impl_LimitOf.calls (k : Nat) (a0_0 : Int) (A0_1 : Option Addr) (c0_1 : Nat) (l0_1 : List (S72)) (A0_2 : Option Addr) (c0_2 : Nat) (l0_2 : List (S74)) (a0_3 : Int) (a0_4 : Int) (a0_5 : Int) (a0_6 : Int) (a0_7 : Int) (A0_8 : Option Addr) (c0_8 : Nat) (l0_8 : List (S88)) (a0_9 : Int) (a1 : Int) (a2 : Int) (r : Int) (w : World) (hr0_1 : Kd.C k72 w A0_1 l0_1.length l0_1) (hc0_1 : l0_1.length ≤ c0_1) (hr0_2 : Kd.C k74 w A0_2 l0_2.length l0_2) (hc0_2 : l0_2.length ≤ c0_2) (hr0_8 : Kd.C k88 w A0_8 l0_8.length l0_8) (hc0_8 : l0_8.length ≤ c0_8) (h : impl_LimitOf.f k a0_0 l0_1 l0_2 a0_3 a0_4 a0_5 a0_6 a0_7 l0_8 a0_9 a1 a2 = some r) :
  Calls Try.prog 11 #[.agg #[iv_ a0_0, .slice A0_1 l0_1.length c0_1, .slice A0_2 l0_2.length c0_2, iv_ a0_3, iv_ a0_4, iv_ a0_5, iv_ a0_6, iv_ a0_7, .slice A0_8 l0_8.length c0_8, iv_ a0_9], iv_ a1, iv_ a2] w fun e w' => e = .returned (iv_ r) ∧ Below w.heap.size w w' := by
 have hu28 := Try.underlying28
 have HR0_1 := Aside0.mk hr0_1
 have HC0_1 := Aside0.mk hc0_1
 clear hr0_1 hc0_1
 have HR0_2 := Aside0.mk hr0_2
 have HC0_2 := Aside0.mk hc0_2
 clear hr0_2 hc0_2
 have HR0_8 := Aside0.mk hr0_8
 have HC0_8 := Aside0.mk hc0_8
 clear hr0_8 hc0_8
 have HB := Aside0.mk (Below.refl w.heap.size w)
 have H := h
 clear h
 unfold impl_LimitOf.f at H
 replace H := bs_ H
 obtain ⟨t414, A4, H⟩ := H
 replace H := bs_ H
 obtain ⟨t415, A5, H⟩ := H
 replace H := bs_ H
 obtain ⟨t416, A6, H⟩ := H
 replace H := bs_ H
 obtain ⟨t417, A7, H⟩ := H
 have HC8 := Aside0.mk H
 clear H
 go_enter Try.func11, Try.ntmps11
 try go_wp2_with (first | ((with_reducible refine gd_ 3 ?_); refine bx_ 3 28 #[iv_ a0_0, .slice A0_1 l0_1.length c0_1, .slice A0_2 l0_2.length c0_2, iv_ a0_3, iv_ a0_4, iv_ a0_5, iv_ a0_6, iv_ a0_7, .slice A0_8 l0_8.length c0_8, iv_ a0_9] ?_; intro gb413 hg w9 hbox hb; refine sh3_ (below_step (bl_ HB) hb) hbox (ge_ hg (bl_ HB)) ?_; clear HB hb hbox hg; intro HB BK413 GE413))
 refine sh2_ (blk_drew BK413.out) (below_drew1 HB.out) ?_
 clear BK413 HB
 intro BK413 HB
 refine start_ (n := 8) (S := fun w' => Cz10 w' gb413 (iv_ a0_0) (.slice A0_1 l0_1.length c0_1) (.slice A0_2 l0_2.length c0_2) (iv_ a0_3) (iv_ a0_4) (iv_ a0_5) (iv_ a0_6) (iv_ a0_7) (.slice A0_8 l0_8.length c0_8) (iv_ a0_9)) (ds := []) (bo_ 8 0) (by kernel_rfl) rfl rfl (cz10_ BK413) (fun hHeld => ?_); refine with_tabW impl_LimitOf.tab1 impl_LimitOf.bits1 (fun HT_ HW_ => ?_)
 generalize w9.drew = w10 at BK413 HB hHeld ⊢
 refine pur_ 1 (bo_ 8 2) (some 12) HT_ ?_
 refine pur_ 4 (bo_ 8 18) (some 15) HT_ ?_
 refine tak_ 0 (bo_ 8 19) (some 11) HT_ HW_ hHeld ?_
 refine tak_ 3 (bo_ 8 27) (some 14) HT_ HW_ hHeld ?_
 refine onc_ 2 (bo_ 8 31) (some 13) HT_ Try.func52 (impl_PlaneOf.calls a0_0 _ _ l0_1 _ _ l0_2 a0_3 a0_4 a0_5 a0_6 a0_7 _ _ l0_8 a0_9 a1 t414 _ (ck_ HR0_1 HB) HC0_1.out (ck_ HR0_2 HB) HC0_2.out (ck_ HR0_8 HB) HC0_8.out A4.out) ?_
 rintro e w11 ⟨rfl, hb⟩
 refine sh2_ (blk_below (bk_ BK413) hb) (below_step (bl1_ HB GE413) hb) ?_
 clear BK413 HB hb
 intro BK413 HB
 refine ⟨_, _, rfl, (cz10_ BK413), pt_, fun hHeld => ?_⟩
 refine onc_ 5 (bo_ 8 63) (some 16) HT_ Try.func52 (impl_PlaneOf.calls a0_0 _ _ l0_1 _ _ l0_2 a0_3 a0_4 a0_5 a0_6 a0_7 _ _ l0_8 a0_9 a2 t415 _ (ck_ HR0_1 HB) HC0_1.out (ck_ HR0_2 HB) HC0_2.out (ck_ HR0_8 HB) HC0_8.out A5.out) ?_
 rintro e w12 ⟨rfl, hb⟩
 refine sh2_ (blk_below (bk_ BK413) hb) (below_step (bl1_ HB GE413) hb) ?_
 clear BK413 HB hb
 intro BK413 HB
 refine ⟨_, _, rfl, (cz10_ BK413), pt_, fun hHeld => ?_⟩
 refine pur_ 6 (bo_ 8 127) (some 7) HT_ ?_
 refine pur_ 7 (bo_ 8 255) (some 8) HT_ ?_
 refine done_ (done_of HT_.out (by kernel_rfl)) ?_
 try go_wp2
 refine sh2_ (blk_drew BK413.out) (below_drew1 HB.out) ?_
 clear BK413 HB
 intro BK413 HB
 refine start_ (n := 8) (S := fun w' => Cz10 w' gb413 (iv_ a0_0) (.slice A0_1 l0_1.length c0_1) (.slice A0_2 l0_2.length c0_2) (iv_ a0_3) (iv_ a0_4) (iv_ a0_5) (iv_ a0_6) (iv_ a0_7) (.slice A0_8 l0_8.length c0_8) (iv_ a0_9)) (ds := []) (bo_ 8 0) (by kernel_rfl) rfl rfl (cz10_ BK413) (fun hHeld => ?_); refine with_tabW impl_LimitOf.tab2 impl_LimitOf.bits2 (fun HT_ HW_ => ?_)
 generalize w12.drew = w13 at BK413 HB hHeld ⊢
 refine pur_ 1 (bo_ 8 2) (some 18) HT_ ?_
 refine pur_ 4 (bo_ 8 18) (some 21) HT_ ?_
 refine tak_ 0 (bo_ 8 19) (some 17) HT_ HW_ hHeld ?_
 refine tak_ 3 (bo_ 8 27) (some 20) HT_ HW_ hHeld ?_
 refine onc_ 2 (bo_ 8 31) (some 19) HT_ Try.func53 (impl_isSatellite.calls a0_0 _ _ l0_1 _ _ l0_2 a0_3 a0_4 a0_5 a0_6 a0_7 _ _ l0_8 a0_9 a1 t416 _ (ck_ HR0_1 HB) HC0_1.out (ck_ HR0_2 HB) HC0_2.out (ck_ HR0_8 HB) HC0_8.out A6.out) ?_
 rintro e w14 ⟨rfl, hb⟩
 refine sh2_ (blk_below (bk_ BK413) hb) (below_step (bl1_ HB GE413) hb) ?_
 clear BK413 HB hb
 intro BK413 HB
 refine ⟨_, _, rfl, (cz10_ BK413), pt_, fun hHeld => ?_⟩
 refine onc_ 5 (bo_ 8 63) (some 22) HT_ Try.func53 (impl_isSatellite.calls a0_0 _ _ l0_1 _ _ l0_2 a0_3 a0_4 a0_5 a0_6 a0_7 _ _ l0_8 a0_9 a2 t417 _ (ck_ HR0_1 HB) HC0_1.out (ck_ HR0_2 HB) HC0_2.out (ck_ HR0_8 HB) HC0_8.out A7.out) ?_
 rintro e w15 ⟨rfl, hb⟩
 refine sh2_ (blk_below (bk_ BK413) hb) (below_step (bl1_ HB GE413) hb) ?_
 clear BK413 HB hb
 intro BK413 HB
 refine ⟨_, _, rfl, (cz10_ BK413), pt_, fun hHeld => ?_⟩
 refine pur_ 6 (bo_ 8 127) (some 9) HT_ ?_
 refine pur_ 7 (bo_ 8 255) (some 10) HT_ ?_
 refine done_ (done_of HT_.out (by kernel_rfl)) ?_
 go_upto_region 3 with (fail)
 go_cut [45] (fun v45 wc => ∃ (kq : Nat) (x45_7 : Bool), v45 = .bool x45_7 ∧ Aside0 (impl_LimitOf.j0 kq t414 t415 t416 t417 x45_7 a0_0 l0_1 l0_2 a0_3 a0_4 a0_5 a0_6 a0_7 l0_8 a0_9 = some r) ∧ Aside0 (kq ≤ k) ∧ Aside0 (wc.heap[gb413]? = some (.cells #[iv_ a0_0, (.slice A0_1 l0_1.length c0_1), (.slice A0_2 l0_2.length c0_2), iv_ a0_3, iv_ a0_4, iv_ a0_5, iv_ a0_6, iv_ a0_7, (.slice A0_8 l0_8.length c0_8), iv_ a0_9] 28 (0, 0))) ∧ Aside0 (Below w.heap.size w wc))
 case first =>
  have H := HC8.out
  clear HC8
  by_cases c16 : a1 = a2
  ·rw [if_pos c16] at H
   obtain ⟨c16b0, c16b1⟩ := bt_ c16
   clear c16
   (first | rw [c16b0] | (simp only [i64_w, i32_w]; rw [c16b0]) | skip)
   have H' := Aside0.mk H
   clear H
   go_wp2
   go_meet
   case rel => exact ⟨_, (true), (by first | rfl | (simp; done) | (simp [*]; done)), H', ⟨by first | omega | exact Nat.le_refl _⟩, ⟨by (with_reducible repeat (first | refine blk_drewN ?_ _ | refine blk_drew ?_ | refine blk_alloc ?_ _)); exact BK413.out⟩, ⟨bl1_ HB GE413⟩⟩
  ·rw [if_neg c16] at H
   obtain ⟨c16b0, c16b1⟩ := bn_ c16
   (first | rw [c16b0] | (simp only [i64_w, i32_w]; rw [c16b0]) | skip)
   by_cases c17 : t416 = true
   ·subst c17
    rw [if_pos rfl] at H
    by_cases c18 : t417 = true
    ·subst c18
     rw [if_pos rfl] at H
     have H' := Aside0.mk H
     clear H
     go_wp2
     go_meet
     case rel => exact ⟨_, (false), (by first | rfl | (simp; done) | (simp [*]; done)), H', ⟨by first | omega | exact Nat.le_refl _⟩, ⟨by (with_reducible repeat (first | refine blk_drewN ?_ _ | refine blk_drew ?_ | refine blk_alloc ?_ _)); exact BK413.out⟩, ⟨bl1_ HB GE413⟩⟩
    ·replace c18 := Bool.eq_false_iff.mpr c18
     subst c18
     have H1 : ((impl_IsSite.f a0_0 l0_1 l0_2 a0_3 a0_4 a0_5 a0_6 a0_7 l0_8 a0_9 a2).bind fun t418 => (impl_LimitOf.j0 k t414 t415 true false (!t418) a0_0 l0_1 l0_2 a0_3 a0_4 a0_5 a0_6 a0_7 l0_8 a0_9)) = some r := by rw [if_neg (show ¬ (false = true) by decide)] at H; exact H
     clear H
     have H := H1
     clear H1
     replace H := bs_ H
     obtain ⟨t418, A19, H⟩ := H
     have H' := Aside0.mk H
     clear H
     have hcz20 := cf10_ BK413
     go_wp2_with (first | (go_at_call 54; (with_reducible refine (impl_IsSite.calls a0_0 _ _ l0_1 _ _ l0_2 a0_3 a0_4 a0_5 a0_6 a0_7 _ _ l0_8 a0_9 a2 t418 _ ?side1 ?side2 ?side3 ?side4 ?side5 ?side6 A19.out).mono ?_); (case side1 => exact ck_ HR0_1 HB); (case side2 => exact HC0_1.out); (case side3 => exact ck_ HR0_2 HB); (case side4 => exact HC0_2.out); (case side5 => exact ck_ HR0_8 HB); (case side6 => exact HC0_8.out); rintro e w21 ⟨rfl, hb⟩; refine sh2_ (blk_below (bk_ BK413) hb) (below_step (bl1_ HB GE413) hb) ?_; clear BK413 HB hb; intro BK413 HB))
     go_meet
     case rel => exact ⟨_, (!t418), (by first | rfl | (simp; done) | (simp [*]; done)), H', ⟨by first | omega | exact Nat.le_refl _⟩, ⟨by (with_reducible repeat (first | refine blk_drewN ?_ _ | refine blk_drew ?_ | refine blk_alloc ?_ _)); exact BK413.out⟩, ⟨bl1_ HB GE413⟩⟩
   ·replace c17 := Bool.eq_false_iff.mpr c17
    subst c17
    have H1 : ((impl_IsSite.f a0_0 l0_1 l0_2 a0_3 a0_4 a0_5 a0_6 a0_7 l0_8 a0_9 a1).bind fun t419 => (if t419 = true then (if t417 = true then (impl_LimitOf.j0 k t414 t415 false t417 false a0_0 l0_1 l0_2 a0_3 a0_4 a0_5 a0_6 a0_7 l0_8 a0_9) else ((impl_IsSite.f a0_0 l0_1 l0_2 a0_3 a0_4 a0_5 a0_6 a0_7 l0_8 a0_9 a2).bind fun t420 => (impl_LimitOf.j0 k t414 t415 false t417 (!t420) a0_0 l0_1 l0_2 a0_3 a0_4 a0_5 a0_6 a0_7 l0_8 a0_9))) else (impl_LimitOf.j0 k t414 t415 false t417 true a0_0 l0_1 l0_2 a0_3 a0_4 a0_5 a0_6 a0_7 l0_8 a0_9))) = some r := by rw [if_neg (show ¬ (false = true) by decide)] at H; exact H
    clear H
    have H := H1
    clear H1
    replace H := bs_ H
    obtain ⟨t419, A22, H⟩ := H
    by_cases c23 : t419 = true
    ·subst c23
     rw [if_pos rfl] at H
     by_cases c24 : t417 = true
     ·subst c24
      rw [if_pos rfl] at H
      have H' := Aside0.mk H
      clear H
      have hcz25 := cf10_ BK413
      go_wp2_with (first | (go_at_call 54; (with_reducible refine (impl_IsSite.calls a0_0 _ _ l0_1 _ _ l0_2 a0_3 a0_4 a0_5 a0_6 a0_7 _ _ l0_8 a0_9 a1 true _ ?side1 ?side2 ?side3 ?side4 ?side5 ?side6 A22.out).mono ?_); (case side1 => exact ck_ HR0_1 HB); (case side2 => exact HC0_1.out); (case side3 => exact ck_ HR0_2 HB); (case side4 => exact HC0_2.out); (case side5 => exact ck_ HR0_8 HB); (case side6 => exact HC0_8.out); rintro e w26 ⟨rfl, hb⟩; refine sh2_ (blk_below (bk_ BK413) hb) (below_step (bl1_ HB GE413) hb) ?_; clear BK413 HB hb; intro BK413 HB))
      go_meet
      case rel => exact ⟨_, (false), (by first | rfl | (simp; done) | (simp [*]; done)), H', ⟨by first | omega | exact Nat.le_refl _⟩, ⟨by (with_reducible repeat (first | refine blk_drewN ?_ _ | refine blk_drew ?_ | refine blk_alloc ?_ _)); exact BK413.out⟩, ⟨bl1_ HB GE413⟩⟩
     ·replace c24 := Bool.eq_false_iff.mpr c24
      subst c24
      have H1 : ((impl_IsSite.f a0_0 l0_1 l0_2 a0_3 a0_4 a0_5 a0_6 a0_7 l0_8 a0_9 a2).bind fun t420 => (impl_LimitOf.j0 k t414 t415 false false (!t420) a0_0 l0_1 l0_2 a0_3 a0_4 a0_5 a0_6 a0_7 l0_8 a0_9)) = some r := by rw [if_neg (show ¬ (false = true) by decide)] at H; exact H
      clear H
      have H := H1
      clear H1
      replace H := bs_ H
      obtain ⟨t420, A27, H⟩ := H
      have H' := Aside0.mk H
      clear H
      have hcz28 := cf10_ BK413
      go_wp2_with (first | (go_at_call 54; (with_reducible refine (impl_IsSite.calls a0_0 _ _ l0_1 _ _ l0_2 a0_3 a0_4 a0_5 a0_6 a0_7 _ _ l0_8 a0_9 a1 true _ ?side1 ?side2 ?side3 ?side4 ?side5 ?side6 A22.out).mono ?_); (case side1 => exact ck_ HR0_1 HB); (case side2 => exact HC0_1.out); (case side3 => exact ck_ HR0_2 HB); (case side4 => exact HC0_2.out); (case side5 => exact ck_ HR0_8 HB); (case side6 => exact HC0_8.out); rintro e w29 ⟨rfl, hb⟩; refine sh2_ (blk_below (bk_ BK413) hb) (below_step (bl1_ HB GE413) hb) ?_; clear BK413 HB hb; intro BK413 HB; have hcz30 := cf10_ BK413) | (go_at_call 54; (with_reducible refine (impl_IsSite.calls a0_0 _ _ l0_1 _ _ l0_2 a0_3 a0_4 a0_5 a0_6 a0_7 _ _ l0_8 a0_9 a2 t420 _ ?side1 ?side2 ?side3 ?side4 ?side5 ?side6 A27.out).mono ?_); (case side1 => exact ck_ HR0_1 HB); (case side2 => exact HC0_1.out); (case side3 => exact ck_ HR0_2 HB); (case side4 => exact HC0_2.out); (case side5 => exact ck_ HR0_8 HB); (case side6 => exact HC0_8.out); rintro e w31 ⟨rfl, hb⟩; refine sh2_ (blk_below (bk_ BK413) hb) (below_step (bl1_ HB GE413) hb) ?_; clear BK413 HB hb; intro BK413 HB))
      go_meet
      case rel => exact ⟨_, (!t420), (by first | rfl | (simp; done) | (simp [*]; done)), H', ⟨by first | omega | exact Nat.le_refl _⟩, ⟨by (with_reducible repeat (first | refine blk_drewN ?_ _ | refine blk_drew ?_ | refine blk_alloc ?_ _)); exact BK413.out⟩, ⟨bl1_ HB GE413⟩⟩
    ·replace c23 := Bool.eq_false_iff.mpr c23
     subst c23
     have H1 : (impl_LimitOf.j0 k t414 t415 false t417 true a0_0 l0_1 l0_2 a0_3 a0_4 a0_5 a0_6 a0_7 l0_8 a0_9) = some r := by rw [if_neg (show ¬ (false = true) by decide)] at H; exact H
     clear H
     have H := H1
     clear H1
     have H' := Aside0.mk H
     clear H
     have hcz32 := cf10_ BK413
     go_wp2_with (first | (go_at_call 54; (with_reducible refine (impl_IsSite.calls a0_0 _ _ l0_1 _ _ l0_2 a0_3 a0_4 a0_5 a0_6 a0_7 _ _ l0_8 a0_9 a1 false _ ?side1 ?side2 ?side3 ?side4 ?side5 ?side6 A22.out).mono ?_); (case side1 => exact ck_ HR0_1 HB); (case side2 => exact HC0_1.out); (case side3 => exact ck_ HR0_2 HB); (case side4 => exact HC0_2.out); (case side5 => exact ck_ HR0_8 HB); (case side6 => exact HC0_8.out); rintro e w33 ⟨rfl, hb⟩; refine sh2_ (blk_below (bk_ BK413) hb) (below_step (bl1_ HB GE413) hb) ?_; clear BK413 HB hb; intro BK413 HB))
     go_meet
     case rel => exact ⟨_, (true), (by first | rfl | (simp; done) | (simp [*]; done)), H', ⟨by first | omega | exact Nat.le_refl _⟩, ⟨by (with_reducible repeat (first | refine blk_drewN ?_ _ | refine blk_drew ?_ | refine blk_alloc ?_ _)); exact BK413.out⟩, ⟨bl1_ HB GE413⟩⟩
 case rest =>
  clear HC8
  obtain ⟨kq, x45_7, rfl, HA, HJ7, BK413, HB⟩ := hcut
  cases kq with
  | zero => exact absurd HA.out (by simp [impl_LimitOf.j0])
  | succ kj7 =>
   have H := HA.out
   clear HA
   simp only [impl_LimitOf.j0] at H
   by_cases c34 : x45_7 = true
   ·subst c34
    rw [if_pos rfl] at H
    obtain rfl := Option.some.inj H
    go_wp2
    go_ret
    exact ⟨by first | (rw [hRT_.out]; rfl) | exact er_, bl1_ HB GE413⟩
   ·replace c34 := Bool.eq_false_iff.mpr c34
    subst c34
    have H1 : (if t416 = true then (if t417 = true then (impl_LimitOf.j1 kj7 t414 t415 t416 t417 (t414 == t415) a0_0 l0_1 l0_2 a0_3 a0_4 a0_5 a0_6 a0_7 l0_8 a0_9) else (impl_LimitOf.j1 kj7 t414 t415 t416 t417 false a0_0 l0_1 l0_2 a0_3 a0_4 a0_5 a0_6 a0_7 l0_8 a0_9)) else (impl_LimitOf.j1 kj7 t414 t415 t416 t417 false a0_0 l0_1 l0_2 a0_3 a0_4 a0_5 a0_6 a0_7 l0_8 a0_9)) = some r := by rw [if_neg (show ¬ (false = true) by decide)] at H; exact H
    clear H
    have H := H1
    clear H1
    have HC35 := Aside0.mk H
    clear H
    go_upto_region 5 with (fail)
    go_cut [46] (fun v46 wc => ∃ (kq : Nat) (x46_34 : Bool), v46 = .bool x46_34 ∧ Aside0 (impl_LimitOf.j1 kq t414 t415 t416 t417 x46_34 a0_0 l0_1 l0_2 a0_3 a0_4 a0_5 a0_6 a0_7 l0_8 a0_9 = some r) ∧ Aside0 (kq ≤ kj7) ∧ Aside0 (wc.heap[gb413]? = some (.cells #[iv_ a0_0, (.slice A0_1 l0_1.length c0_1), (.slice A0_2 l0_2.length c0_2), iv_ a0_3, iv_ a0_4, iv_ a0_5, iv_ a0_6, iv_ a0_7, (.slice A0_8 l0_8.length c0_8), iv_ a0_9] 28 (0, 0))) ∧ Aside0 (Below w.heap.size w wc))
    case first =>
     have H := HC35.out
     clear HC35
     by_cases c36 : t416 = true
     ·subst c36
      rw [if_pos rfl] at H
      by_cases c37 : t417 = true
      ·subst c37
       rw [if_pos rfl] at H
       have H' := Aside0.mk H
       clear H
       go_wp2
       go_meet
       case rel => exact ⟨_, ((t414 == t415)), (by first | rfl | (simp; done) | (simp [*]; done)), H', ⟨by have := HJ7.out; first | omega | exact Nat.le_refl _⟩, ⟨by (with_reducible repeat (first | refine blk_drewN ?_ _ | refine blk_drew ?_ | refine blk_alloc ?_ _)); exact BK413.out⟩, ⟨bl1_ HB GE413⟩⟩
      ·replace c37 := Bool.eq_false_iff.mpr c37
       subst c37
       have H1 : (impl_LimitOf.j1 kj7 t414 t415 true false false a0_0 l0_1 l0_2 a0_3 a0_4 a0_5 a0_6 a0_7 l0_8 a0_9) = some r := by rw [if_neg (show ¬ (false = true) by decide)] at H; exact H
       clear H
       have H := H1
       clear H1
       have H' := Aside0.mk H
       clear H
       go_wp2
       go_meet
       case rel => exact ⟨_, (false), (by first | rfl | (simp; done) | (simp [*]; done)), H', ⟨by have := HJ7.out; first | omega | exact Nat.le_refl _⟩, ⟨by (with_reducible repeat (first | refine blk_drewN ?_ _ | refine blk_drew ?_ | refine blk_alloc ?_ _)); exact BK413.out⟩, ⟨bl1_ HB GE413⟩⟩
     ·replace c36 := Bool.eq_false_iff.mpr c36
      subst c36
      have H1 : (impl_LimitOf.j1 kj7 t414 t415 false t417 false a0_0 l0_1 l0_2 a0_3 a0_4 a0_5 a0_6 a0_7 l0_8 a0_9) = some r := by rw [if_neg (show ¬ (false = true) by decide)] at H; exact H
      clear H
      have H := H1
      clear H1
      have H' := Aside0.mk H
      clear H
      go_wp2
      go_meet
      case rel => exact ⟨_, (false), (by first | rfl | (simp; done) | (simp [*]; done)), H', ⟨by have := HJ7.out; first | omega | exact Nat.le_refl _⟩, ⟨by (with_reducible repeat (first | refine blk_drewN ?_ _ | refine blk_drew ?_ | refine blk_alloc ?_ _)); exact BK413.out⟩, ⟨bl1_ HB GE413⟩⟩
    case rest =>
     clear HC35
     obtain ⟨kq, x46_34, rfl, HA, HJ34, BK413, HB⟩ := hcut
     cases kq with
     | zero => exact absurd HA.out (by simp [impl_LimitOf.j1])
     | succ kj34 =>
      have H := HA.out
      clear HA
      simp only [impl_LimitOf.j1] at H
      by_cases c38 : x46_34 = true
      ·subst c38
       rw [if_pos rfl] at H
       obtain rfl := Option.some.inj H
       have hcz39 := cf10_ BK413
       go_wp2
       go_ret
       exact ⟨by first | (rw [hRT_.out]; rfl) | exact er_, bl1_ HB GE413⟩
      ·replace c38 := Bool.eq_false_iff.mpr c38
       subst c38
       have H1 : (if t416 = true then (if t417 = true then ((impl_areNeighbors.f a0_0 l0_1 l0_2 a0_3 a0_4 a0_5 a0_6 a0_7 l0_8 a0_9 t414 t415).bind fun t421 => (impl_LimitOf.j2 kj34 t414 t415 t416 t417 t421 a0_0 l0_1 l0_2 a0_3 a0_4 a0_5 a0_6 a0_7 l0_8 a0_9)) else (impl_LimitOf.j2 kj34 t414 t415 t416 t417 false a0_0 l0_1 l0_2 a0_3 a0_4 a0_5 a0_6 a0_7 l0_8 a0_9)) else (impl_LimitOf.j2 kj34 t414 t415 t416 t417 false a0_0 l0_1 l0_2 a0_3 a0_4 a0_5 a0_6 a0_7 l0_8 a0_9)) = some r := by rw [if_neg (show ¬ (false = true) by decide)] at H; exact H
       clear H
       have H := H1
       clear H1
       have HC40 := Aside0.mk H
       clear H
       go_upto_region 7 with (fail)
       go_cut [58] (fun v58 wc => ∃ (kq : Nat) (x58_39 : Bool), v58 = .bool x58_39 ∧ Aside0 (impl_LimitOf.j2 kq t414 t415 t416 t417 x58_39 a0_0 l0_1 l0_2 a0_3 a0_4 a0_5 a0_6 a0_7 l0_8 a0_9 = some r) ∧ Aside0 (kq ≤ kj34) ∧ Aside0 (wc.heap[gb413]? = some (.cells #[iv_ a0_0, (.slice A0_1 l0_1.length c0_1), (.slice A0_2 l0_2.length c0_2), iv_ a0_3, iv_ a0_4, iv_ a0_5, iv_ a0_6, iv_ a0_7, (.slice A0_8 l0_8.length c0_8), iv_ a0_9] 28 (0, 0))) ∧ Aside0 (Below w.heap.size w wc))
       case first =>
        have H := HC40.out
        clear HC40
        by_cases c41 : t416 = true
        ·subst c41
         rw [if_pos rfl] at H
         by_cases c42 : t417 = true
         ·subst c42
          rw [if_pos rfl] at H
          replace H := bs_ H
          obtain ⟨t421, A43, H⟩ := H
          have H' := Aside0.mk H
          clear H
          have hcz44 := cf10_ BK413
          go_wp2_with (first | (go_at_call 55; (with_reducible refine (impl_areNeighbors.calls a0_0 _ _ l0_1 _ _ l0_2 a0_3 a0_4 a0_5 a0_6 a0_7 _ _ l0_8 a0_9 t414 t415 t421 _ ?side1 ?side2 ?side3 ?side4 ?side5 ?side6 A43.out).mono ?_); (case side1 => exact ck_ HR0_1 HB); (case side2 => exact HC0_1.out); (case side3 => exact ck_ HR0_2 HB); (case side4 => exact HC0_2.out); (case side5 => exact ck_ HR0_8 HB); (case side6 => exact HC0_8.out); rintro e w45 ⟨rfl, hb⟩; refine sh2_ (blk_below (bk_ BK413) hb) (below_step (bl1_ HB GE413) hb) ?_; clear BK413 HB hb; intro BK413 HB))
          go_meet
          case rel => exact ⟨_, (t421), (by first | rfl | (simp; done) | (simp [*]; done)), H', ⟨by have := HJ7.out; have := HJ34.out; first | omega | exact Nat.le_refl _⟩, ⟨by (with_reducible repeat (first | refine blk_drewN ?_ _ | refine blk_drew ?_ | refine blk_alloc ?_ _)); exact BK413.out⟩, ⟨bl1_ HB GE413⟩⟩
         ·replace c42 := Bool.eq_false_iff.mpr c42
          subst c42
          have H1 : (impl_LimitOf.j2 kj34 t414 t415 true false false a0_0 l0_1 l0_2 a0_3 a0_4 a0_5 a0_6 a0_7 l0_8 a0_9) = some r := by rw [if_neg (show ¬ (false = true) by decide)] at H; exact H
          clear H
          have H := H1
          clear H1
          have H' := Aside0.mk H
          clear H
          go_wp2
          go_meet
          case rel => exact ⟨_, (false), (by first | rfl | (simp; done) | (simp [*]; done)), H', ⟨by have := HJ7.out; have := HJ34.out; first | omega | exact Nat.le_refl _⟩, ⟨by (with_reducible repeat (first | refine blk_drewN ?_ _ | refine blk_drew ?_ | refine blk_alloc ?_ _)); exact BK413.out⟩, ⟨bl1_ HB GE413⟩⟩
        ·replace c41 := Bool.eq_false_iff.mpr c41
         subst c41
         have H1 : (impl_LimitOf.j2 kj34 t414 t415 false t417 false a0_0 l0_1 l0_2 a0_3 a0_4 a0_5 a0_6 a0_7 l0_8 a0_9) = some r := by rw [if_neg (show ¬ (false = true) by decide)] at H; exact H
         clear H
         have H := H1
         clear H1
         have H' := Aside0.mk H
         clear H
         go_wp2
         go_meet
         case rel => exact ⟨_, (false), (by first | rfl | (simp; done) | (simp [*]; done)), H', ⟨by have := HJ7.out; have := HJ34.out; first | omega | exact Nat.le_refl _⟩, ⟨by (with_reducible repeat (first | refine blk_drewN ?_ _ | refine blk_drew ?_ | refine blk_alloc ?_ _)); exact BK413.out⟩, ⟨bl1_ HB GE413⟩⟩
       case rest =>
        clear HC40
        obtain ⟨kq, x58_39, rfl, HA, HJ39, BK413, HB⟩ := hcut
        cases kq with
        | zero => exact absurd HA.out (by simp [impl_LimitOf.j2])
        | succ kj39 =>
         have H := HA.out
         clear HA
         simp only [impl_LimitOf.j2] at H
         by_cases c46 : x58_39 = true
         ·subst c46
          rw [if_pos rfl] at H
          obtain rfl := Option.some.inj H
          have hcz47 := cf10_ BK413
          go_wp2
          go_ret
          exact ⟨by first | (rw [hRT_.out]; rfl) | exact er_, bl1_ HB GE413⟩
         ·replace c46 := Bool.eq_false_iff.mpr c46
          subst c46
          have H1 : (if (t416 != t417) = true then (if t414 = t415 then (some a0_5) else ((impl_areNeighbors.f a0_0 l0_1 l0_2 a0_3 a0_4 a0_5 a0_6 a0_7 l0_8 a0_9 t414 t415).bind fun t422 => (if t422 = true then (some a0_5) else (some (-1))))) else (some (-1))) = some r := by rw [if_neg (show ¬ (false = true) by decide)] at H; exact H
          clear H
          have H := H1
          clear H1
          by_cases c48 : (t416 != t417) = true
          ·rw [if_pos c48] at H
           have c48b0 : (t416 != t417) = true := c48
           (try (have c48b1 : decide (t416 = t417) = false := by simpa using c48))
           (try (have c48b2 : (t416 == t417) = false := by simpa using c48))
           (try (have c48b3 : ¬ (t416 = t417) := by simpa using c48))
           clear c48
           by_cases c49 : t414 = t415
           ·rw [if_pos c49] at H
            obtain ⟨c49b0, c49b1⟩ := bt_ c49
            clear c49
            obtain rfl := Option.some.inj H
            have hcz50 := cf10_ BK413
            go_wp2
            go_ret
            exact ⟨by first | (rw [hRT_.out]; rfl) | exact er_, bl1_ HB GE413⟩
           ·rw [if_neg c49] at H
            obtain ⟨c49b0, c49b1⟩ := bn_ c49
            replace H := bs_ H
            obtain ⟨t422, A51, H⟩ := H
            by_cases c52 : t422 = true
            ·subst c52
             rw [if_pos rfl] at H
             obtain rfl := Option.some.inj H
             have hcz53 := cf10_ BK413
             go_wp2_with (first | (go_at_call 55; (with_reducible refine (impl_areNeighbors.calls a0_0 _ _ l0_1 _ _ l0_2 a0_3 a0_4 a0_5 a0_6 a0_7 _ _ l0_8 a0_9 t414 t415 true _ ?side1 ?side2 ?side3 ?side4 ?side5 ?side6 A51.out).mono ?_); (case side1 => exact ck_ HR0_1 HB); (case side2 => exact HC0_1.out); (case side3 => exact ck_ HR0_2 HB); (case side4 => exact HC0_2.out); (case side5 => exact ck_ HR0_8 HB); (case side6 => exact HC0_8.out); rintro e w54 ⟨rfl, hb⟩; refine sh2_ (blk_below (bk_ BK413) hb) (below_step (bl1_ HB GE413) hb) ?_; clear BK413 HB hb; intro BK413 HB; have hcz55 := cf10_ BK413))
             go_ret
             exact ⟨by first | (rw [hRT_.out]; rfl) | exact er_, bl1_ HB GE413⟩
            ·replace c52 := Bool.eq_false_iff.mpr c52
             subst c52
             have H1 : (some (-1)) = some r := by rw [if_neg (show ¬ (false = true) by decide)] at H; exact H
             clear H
             have H := H1
             clear H1
             obtain rfl := Option.some.inj H
             have hcz56 := cf10_ BK413
             go_wp2_with (first | (go_at_call 55; (with_reducible refine (impl_areNeighbors.calls a0_0 _ _ l0_1 _ _ l0_2 a0_3 a0_4 a0_5 a0_6 a0_7 _ _ l0_8 a0_9 t414 t415 false _ ?side1 ?side2 ?side3 ?side4 ?side5 ?side6 A51.out).mono ?_); (case side1 => exact ck_ HR0_1 HB); (case side2 => exact HC0_1.out); (case side3 => exact ck_ HR0_2 HB); (case side4 => exact HC0_2.out); (case side5 => exact ck_ HR0_8 HB); (case side6 => exact HC0_8.out); rintro e w57 ⟨rfl, hb⟩; refine sh2_ (blk_below (bk_ BK413) hb) (below_step (bl1_ HB GE413) hb) ?_; clear BK413 HB hb; intro BK413 HB))
             go_ret
             exact ⟨by first | (rw [hRT_.out]; rfl) | exact er_, bl1_ HB GE413⟩
          ·rw [if_neg c48] at H
           have c48b0 : (t416 != t417) = false := by simpa using c48
           (try (have c48b1 : decide (t416 = t417) = true := by simpa using c48))
           (try (have c48b2 : (t416 == t417) = true := by simpa using c48))
           clear c48
           obtain rfl := Option.some.inj H
           go_wp2
           go_ret
           exact ⟨by first | (rw [hRT_.out]; rfl) | exact er_, bl1_ HB GE413⟩

/-! ### impl_Mod: function 96 -/
def impl_Mod.f (a0 : Int) (a1 : Int) : Option (Int) := (impl_InRange.f a1 1 1000000000000).bind fun t423 => (if t423 = true then (if a1 = 0 then (none) else (if (Int.tmod a0 a1) < 0 then (some (wrap64 ((Int.tmod a0 a1) + a1))) else (some (Int.tmod a0 a1)))) else (some 0))
set_option maxHeartbeats 8000000 in
set_option maxRecDepth 100000 in
theorem impl_Mod.calls (a0 : Int) (a1 : Int) (r : Int) (w : World) (h : impl_Mod.f a0 a1 = some r) :
  Calls Try.prog 96 #[iv_ a0, iv_ a1] w fun e w' => e = .returned (iv_ r) ∧ Drawn0 w w' := by
 have H := h
 clear h
 unfold impl_Mod.f at H
 replace H := bs_ H
 obtain ⟨t423, A3, H⟩ := H
 by_cases c4 : t423 = true
 ·subst c4
  rw [if_pos rfl] at H
  by_cases c5 : a1 = 0
  ·rw [if_pos c5] at H
   exact absurd H (by simp)
  ·rw [if_neg c5] at H
   obtain ⟨c5b0, c5b1⟩ := bn_ c5
   by_cases c6 : (Int.tmod a0 a1) < 0
   ·rw [if_pos c6] at H
    have c6b0 := decide_eq_true c6
    clear c6
    obtain rfl := Option.some.inj H
    go_enter Try.func96, Try.ntmps96
    go_wp2_with (first | ((with_reducible refine gate_callee (f := 93) rfl ?_); refine gl_ 7 Try.func93 (impl_InRange.calls a1 1 1000000000000 true _ A3.out) ?_; rintro e w' ⟨rfl, ⟨nd, rfl⟩⟩; refine ⟨_, rfl, ?_⟩))
    go_ret
    exact ⟨by first | rfl | (simp; done) | (simp [*]; done), by repeat (first | exact Drawn0.refl _ | apply Drawn0.step)⟩
   ·rw [if_neg c6] at H
    have c6b0 := decide_eq_false c6
    clear c6
    obtain rfl := Option.some.inj H
    go_enter Try.func96, Try.ntmps96
    go_wp2_with (first | ((with_reducible refine gate_callee (f := 93) rfl ?_); refine gl_ 7 Try.func93 (impl_InRange.calls a1 1 1000000000000 true _ A3.out) ?_; rintro e w' ⟨rfl, ⟨nd, rfl⟩⟩; refine ⟨_, rfl, ?_⟩))
    go_ret
    exact ⟨by first | rfl | (simp; done) | (simp [*]; done), by repeat (first | exact Drawn0.refl _ | apply Drawn0.step)⟩
 ·replace c4 := Bool.eq_false_iff.mpr c4
  subst c4
  have H1 : (some 0) = some r := by rw [if_neg (show ¬ (false = true) by decide)] at H; exact H
  clear H
  have H := H1
  clear H1
  obtain rfl := Option.some.inj H
  go_enter Try.func96, Try.ntmps96
  go_wp2_with (first | ((with_reducible refine gate_callee (f := 93) rfl ?_); refine gl_ 7 Try.func93 (impl_InRange.calls a1 1 1000000000000 false _ A3.out) ?_; rintro e w' ⟨rfl, ⟨nd, rfl⟩⟩; refine ⟨_, rfl, ?_⟩))
  go_ret
  exact ⟨by first | rfl | (simp; done) | (simp [*]; done), by repeat (first | exact Drawn0.refl _ | apply Drawn0.step)⟩

/-! ### impl_AngleOf: function 58 -/
def impl_AngleOf.f (a0 : Int) : Option (Int) := (impl_Mod.f a0 360).bind fun t424 => (some t424)
set_option maxHeartbeats 8000000 in
set_option maxRecDepth 100000 in
theorem impl_AngleOf.calls (a0 : Int) (r : Int) (w : World) (h : impl_AngleOf.f a0 = some r) :
  Calls Try.prog 58 #[iv_ a0] w fun e w' => e = .returned (iv_ r) ∧ Drawn0 w w' := by
 have H := h
 clear h
 unfold impl_AngleOf.f at H
 replace H := bs_ H
 obtain ⟨t424, A2, H⟩ := H
 obtain rfl := Option.some.inj H
 go_enter Try.func58, Try.ntmps58
 go_wp2_with (first | ((with_reducible refine gate_callee (f := 96) rfl ?_); refine gl_ 4 Try.func96 (impl_Mod.calls a0 360 t424 _ A2.out) ?_; rintro e w' ⟨rfl, ⟨nd, rfl⟩⟩; refine ⟨_, rfl, ?_⟩))
 go_ret
 exact ⟨by first | rfl | (simp; done) | (simp [*]; done), by repeat (first | exact Drawn0.refl _ | apply Drawn0.step)⟩

/-! ### impl_speedOf: function 95 -/
def impl_speedOf.f (a0_0 : Int) (a0_1 : Int) (a0_2 : Int) (a0_3 : Int) : Option (Int) := (impl_InRange.f a0_2 (-60) 60).bind fun t426 => (if t426 = true then (some a0_2) else (some 0))
set_option maxHeartbeats 8000000 in
set_option maxRecDepth 100000 in
theorem impl_speedOf.calls (a0_0 : Int) (a0_1 : Int) (a0_2 : Int) (a0_3 : Int) (r : Int) (w : World) (h : impl_speedOf.f a0_0 a0_1 a0_2 a0_3 = some r) :
  Calls Try.prog 95 #[.agg #[iv_ a0_0, iv_ a0_1, iv_ a0_2, iv_ a0_3]] w fun e w' => e = .returned (iv_ r) ∧ Below w.heap.size w w' := by
 have hu72 := Try.underlying72
 have HB := Aside0.mk (Below.refl w.heap.size w)
 have H := h
 clear h
 unfold impl_speedOf.f at H
 replace H := bs_ H
 obtain ⟨t426, A2, H⟩ := H
 by_cases c3 : t426 = true
 ·subst c3
  rw [if_pos rfl] at H
  obtain rfl := Option.some.inj H
  go_enter Try.func95, Try.ntmps95
  go_wp2_with (first | ((with_reducible refine gd_ 1 ?_); refine bx_ 1 72 #[iv_ a0_0, iv_ a0_1, iv_ a0_2, iv_ a0_3] ?_; intro gb425 hg w4 hbox hb; refine sh3_ (below_step (bl_ HB) hb) hbox (ge_ hg (bl_ HB)) ?_; clear HB hb hbox hg; intro HB BK425 GE425; have hcz5 := cf4_ BK425) | ((with_reducible refine gate_callee (f := 93) rfl ?_); refine gl_ 5 Try.func93 (impl_InRange.calls a0_2 (-60) 60 true _ A2.out) ?_; rintro e w' ⟨rfl, ⟨nd, rfl⟩⟩; refine ⟨_, rfl, ?_⟩))
  go_ret
  exact ⟨by first | (rw [hRT_.out]; rfl) | exact er_, bl1_ HB GE425⟩
 ·replace c3 := Bool.eq_false_iff.mpr c3
  subst c3
  have H1 : (some 0) = some r := by rw [if_neg (show ¬ (false = true) by decide)] at H; exact H
  clear H
  have H := H1
  clear H1
  obtain rfl := Option.some.inj H
  go_enter Try.func95, Try.ntmps95
  go_wp2_with (first | ((with_reducible refine gd_ 1 ?_); refine bx_ 1 72 #[iv_ a0_0, iv_ a0_1, iv_ a0_2, iv_ a0_3] ?_; intro gb425 hg w6 hbox hb; refine sh3_ (below_step (bl_ HB) hb) hbox (ge_ hg (bl_ HB)) ?_; clear HB hb hbox hg; intro HB BK425 GE425; have hcz7 := cf4_ BK425) | ((with_reducible refine gate_callee (f := 93) rfl ?_); refine gl_ 5 Try.func93 (impl_InRange.calls a0_2 (-60) 60 false _ A2.out) ?_; rintro e w' ⟨rfl, ⟨nd, rfl⟩⟩; refine ⟨_, rfl, ?_⟩))
  go_ret
  exact ⟨by first | (rw [hRT_.out]; rfl) | exact er_, bl1_ HB GE425⟩

end Go.Proofs.Ytopbkdcicidajaa.PFnSight
