-- Written by a program of this session for this claim (the kit's printer with changes).
import Derived.Test.YtopbkdcicidajaaQFnSightx0
import Derived.Test.YtopbkdcicidajaaQFnSightx1
import Derived.Test.YtopbkdcicidajaaQFnSightx3
import Derived.Test.YtopbkdcicidajaaQFnSightx4
import Derived.Test.YtopbkdcicidajaaQFnSightx5
import Derived.Test.YtopbkdcicidajaaQFnSightx6
import Derived.Test.YtopbkdcicidajaaQFnSightx7
namespace Go.Proofs.Ytopbkdcicidajaa.PFnSight
open Go.RowKit Go.Proofs.YtopbkdcicidajaaW.PrintWords Go.Proofs.YtopbkdcicidajaaW.PrintLast Go.Proofs.YtopbkdcicidajaaW.PrintMore
attribute [local go_sem] max2_int min2_int max_two min_two max_three min_three max_four min_four   -- for this text's walks alone
set_option linter.unusedVariables false
set_option linter.unusedSimpArgs false

/-! ### laws_FnSight: function 3 -/
mutual
def laws_FnSight.j0 : Nat → List Int → Int → Int → Int → Int → Int → Bool → Int → List (S72) → List (S74) → Int → Int → Int → Int → Int → List (S88) → Int → Option (Bool)
 | 0, _, _, _, _, _, _, _, _, _, _, _, _, _, _, _, _, _ => none
 | k + 1, x0, x4, x5, x6, x7, x8, x62, x558000, x558001, x558002, x558003, x558004, x558005, x558006, x558007, x558008, x558009 => if x62 = true then (some false) else ((impl_NodeAt.f x558000 x558001 x558002 x558003 x558004 x558005 x558006 x558007 x558008 x558009 x4 x6).bind fun bt563 => ((impl_NodeAt.f x558000 x558001 x558002 x558003 x558004 x558005 x558006 x558007 x558008 x558009 x5 x6).bind fun bt566 => (laws_FnSight.l0 k x0 x7 x8 0 bt563.1 bt563.2 bt566.1 bt566.2)))
def laws_FnSight.l0 : Nat → List Int → Int → Int → Int → Int → Int → Int → Int → Option (Bool)
 | 0, _, _, _, _, _, _, _, _ => none
 | k + 1, x0, x7, x8, x11, x566000, x566001, x569000, x569001 => if x11 ≤ x566001 then (if x8 ≥ 0 then (laws_FnSight.j2 k x0 x7 x8 x11 (x7 != 1) x566000 x566001 x569000 x569001) else (laws_FnSight.j2 k x0 x7 x8 x11 false x566000 x566001 x569000 x569001)) else (laws_FnSight.j2 k x0 x7 x8 x11 false x566000 x566001 x569000 x569001)
def laws_FnSight.j2 : Nat → List Int → Int → Int → Int → Bool → Int → Int → Int → Int → Option (Bool)
 | 0, _, _, _, _, _, _, _, _, _ => none
 | k + 1, x0, x7, x8, x11, x82, x566000, x566001, x569000, x569001 => if x82 = true then (laws_FnSight.l1 k x0 x7 x8 x11 0 x566000 x566001 x569000 x569001) else ((spec_DrawSureWindows.f k x0).bind fun bt570 => ((impl_SureWindows.f k bt570.1 bt570.2.1 bt570.2.2.1 bt570.2.2.2.1 bt570.2.2.2.2.1 bt570.2.2.2.2.2.1 bt570.2.2.2.2.2.2.1 bt570.2.2.2.2.2.2.2.1 bt570.2.2.2.2.2.2.2.2.1 bt570.2.2.2.2.2.2.2.2.2.1 bt570.2.2.2.2.2.2.2.2.2.2.1 bt570.2.2.2.2.2.2.2.2.2.2.2.1 bt570.2.2.2.2.2.2.2.2.2.2.2.2.1 bt570.2.2.2.2.2.2.2.2.2.2.2.2.2).bind fun t591 => (laws_FnSight.l2 k bt570.2.2.2.2.2.2.2.2.2.2.1 bt570.2.2.2.2.2.2.2.2.2.2.2.1 bt570.2.2.2.2.2.2.2.2.2.2.2.2.2 t591 bt570.2.2.2.2.2.2.2.2.2.2.2.2.1 bt570.1 bt570.2.1 bt570.2.2.1 bt570.2.2.2.1 bt570.2.2.2.2.1 bt570.2.2.2.2.2.1 bt570.2.2.2.2.2.2.1 bt570.2.2.2.2.2.2.2.1 bt570.2.2.2.2.2.2.2.2.1 bt570.2.2.2.2.2.2.2.2.2.1)))
def laws_FnSight.l1 : Nat → List Int → Int → Int → Int → Int → Int → Int → Int → Int → Option (Bool)
 | 0, _, _, _, _, _, _, _, _, _ => none
 | k + 1, x0, x7, x8, x11, x12, x566000, x566001, x569000, x569001 => if x12 ≤ x569001 then ((impl_GapOf.f (wrap64 (x566000 + x11)) (wrap64 (x569000 + x12))).bind fun t569 => (if ((decide (t569 ≤ x8)) != (x7 == 2)) = true then (some false) else (laws_FnSight.l1 k x0 x7 x8 x11 (wrap64 (x12 + 1)) x566000 x566001 x569000 x569001))) else (laws_FnSight.l0 k x0 x7 x8 (wrap64 (x11 + 1)) x566000 x566001 x569000 x569001)
def laws_FnSight.l2 : Nat → Int → Int → Int → List (S82) → Int → Int → List (S72) → List (S74) → Int → Int → Int → Int → Int → List (S88) → Int → Option (Bool)
 | 0, _, _, _, _, _, _, _, _, _, _, _, _, _, _, _ => none
 | k + 1, x14, x15, x17, x18, x19, x591000, x591001, x591002, x591003, x591004, x591005, x591006, x591007, x591008, x591009 => if x19 < x17 then ((impl_InSpans.f k x18 x19).bind fun t594 => (if x19 ≥ 0 then (if x19 < 1000 then ((impl_IsSure.f k x591000 x591001 x591002 x591003 x591004 x591005 x591006 x591007 x591008 x591009 x14 x15 x19).bind fun t595 => (if (t594 != t595) = true then (some false) else (laws_FnSight.l2 k x14 x15 x17 x18 (wrap64 (x19 + 1)) x591000 x591001 x591002 x591003 x591004 x591005 x591006 x591007 x591008 x591009))) else (if (t594 != false) = true then (some false) else (laws_FnSight.l2 k x14 x15 x17 x18 (wrap64 (x19 + 1)) x591000 x591001 x591002 x591003 x591004 x591005 x591006 x591007 x591008 x591009))) else (if (t594 != false) = true then (some false) else (laws_FnSight.l2 k x14 x15 x17 x18 (wrap64 (x19 + 1)) x591000 x591001 x591002 x591003 x591004 x591005 x591006 x591007 x591008 x591009)))) else (some true)
end
def laws_FnSight.f (k : Nat) (l0 : List Int) : Option (Bool) := (laws_big.f l0).bind fun t537 => (if t537 = true then (some true) else ((spec_DrawSightAt.f k l0).bind fun bt538 => ((impl_SightAt.f k bt538.1 bt538.2.1 bt538.2.2.1 bt538.2.2.2.1 bt538.2.2.2.2.1 bt538.2.2.2.2.2.1 bt538.2.2.2.2.2.2.1 bt538.2.2.2.2.2.2.2.1 bt538.2.2.2.2.2.2.2.2.1 bt538.2.2.2.2.2.2.2.2.2.1 bt538.2.2.2.2.2.2.2.2.2.2.1 bt538.2.2.2.2.2.2.2.2.2.2.2.1 bt538.2.2.2.2.2.2.2.2.2.2.2.2).bind fun t558 => ((impl_LimitOf.f k bt538.1 bt538.2.1 bt538.2.2.1 bt538.2.2.2.1 bt538.2.2.2.2.1 bt538.2.2.2.2.2.1 bt538.2.2.2.2.2.2.1 bt538.2.2.2.2.2.2.2.1 bt538.2.2.2.2.2.2.2.2.1 bt538.2.2.2.2.2.2.2.2.2.1 bt538.2.2.2.2.2.2.2.2.2.2.1 bt538.2.2.2.2.2.2.2.2.2.2.2.1).bind fun t559 => ((impl_SightAt.f k bt538.1 bt538.2.1 bt538.2.2.1 bt538.2.2.2.1 bt538.2.2.2.2.1 bt538.2.2.2.2.2.1 bt538.2.2.2.2.2.2.1 bt538.2.2.2.2.2.2.2.1 bt538.2.2.2.2.2.2.2.2.1 bt538.2.2.2.2.2.2.2.2.2.1 bt538.2.2.2.2.2.2.2.2.2.2.2.1 bt538.2.2.2.2.2.2.2.2.2.2.1 bt538.2.2.2.2.2.2.2.2.2.2.2.2).bind fun t560 => (if t558 = t560 then (if t559 < 0 then (if t558 = 0 then ((impl_IsSure.f k bt538.1 bt538.2.1 bt538.2.2.1 bt538.2.2.2.1 bt538.2.2.2.2.1 bt538.2.2.2.2.2.1 bt538.2.2.2.2.2.2.1 bt538.2.2.2.2.2.2.2.1 bt538.2.2.2.2.2.2.2.2.1 bt538.2.2.2.2.2.2.2.2.2.1 bt538.2.2.2.2.2.2.2.2.2.2.1 bt538.2.2.2.2.2.2.2.2.2.2.2.1 bt538.2.2.2.2.2.2.2.2.2.2.2.2).bind fun t561 => (laws_FnSight.j0 k l0 bt538.2.2.2.2.2.2.2.2.2.2.1 bt538.2.2.2.2.2.2.2.2.2.2.2.1 bt538.2.2.2.2.2.2.2.2.2.2.2.2 t558 t559 (t561 != (t558 == 2)) bt538.1 bt538.2.1 bt538.2.2.1 bt538.2.2.2.1 bt538.2.2.2.2.1 bt538.2.2.2.2.2.1 bt538.2.2.2.2.2.2.1 bt538.2.2.2.2.2.2.2.1 bt538.2.2.2.2.2.2.2.2.1 bt538.2.2.2.2.2.2.2.2.2.1)) else (laws_FnSight.j0 k l0 bt538.2.2.2.2.2.2.2.2.2.2.1 bt538.2.2.2.2.2.2.2.2.2.2.2.1 bt538.2.2.2.2.2.2.2.2.2.2.2.2 t558 t559 true bt538.1 bt538.2.1 bt538.2.2.1 bt538.2.2.2.1 bt538.2.2.2.2.1 bt538.2.2.2.2.2.1 bt538.2.2.2.2.2.2.1 bt538.2.2.2.2.2.2.2.1 bt538.2.2.2.2.2.2.2.2.1 bt538.2.2.2.2.2.2.2.2.2.1)) else ((impl_IsSure.f k bt538.1 bt538.2.1 bt538.2.2.1 bt538.2.2.2.1 bt538.2.2.2.2.1 bt538.2.2.2.2.2.1 bt538.2.2.2.2.2.2.1 bt538.2.2.2.2.2.2.2.1 bt538.2.2.2.2.2.2.2.2.1 bt538.2.2.2.2.2.2.2.2.2.1 bt538.2.2.2.2.2.2.2.2.2.2.1 bt538.2.2.2.2.2.2.2.2.2.2.2.1 bt538.2.2.2.2.2.2.2.2.2.2.2.2).bind fun t562 => (laws_FnSight.j0 k l0 bt538.2.2.2.2.2.2.2.2.2.2.1 bt538.2.2.2.2.2.2.2.2.2.2.2.1 bt538.2.2.2.2.2.2.2.2.2.2.2.2 t558 t559 (t562 != (t558 == 2)) bt538.1 bt538.2.1 bt538.2.2.1 bt538.2.2.2.1 bt538.2.2.2.2.1 bt538.2.2.2.2.2.1 bt538.2.2.2.2.2.2.1 bt538.2.2.2.2.2.2.2.1 bt538.2.2.2.2.2.2.2.2.1 bt538.2.2.2.2.2.2.2.2.2.1))) else (laws_FnSight.j0 k l0 bt538.2.2.2.2.2.2.2.2.2.2.1 bt538.2.2.2.2.2.2.2.2.2.2.2.1 bt538.2.2.2.2.2.2.2.2.2.2.2.2 t558 t559 true bt538.1 bt538.2.1 bt538.2.2.1 bt538.2.2.2.1 bt538.2.2.2.2.1 bt538.2.2.2.2.2.1 bt538.2.2.2.2.2.2.1 bt538.2.2.2.2.2.2.2.1 bt538.2.2.2.2.2.2.2.2.1 bt538.2.2.2.2.2.2.2.2.2.1)))))))
theorem laws_FnSight.mono_l : ∀ k, (∀ y0 y1 y2 y3 y4 y5 y6 y7 y8 y9 y10 y11 y12 y13 y14 y15 y16, LeO (laws_FnSight.j0 k y0 y1 y2 y3 y4 y5 y6 y7 y8 y9 y10 y11 y12 y13 y14 y15 y16) (laws_FnSight.j0 (k + 1) y0 y1 y2 y3 y4 y5 y6 y7 y8 y9 y10 y11 y12 y13 y14 y15 y16)) ∧ (∀ y0 y1 y2 y3 y4 y5 y6 y7, LeO (laws_FnSight.l0 k y0 y1 y2 y3 y4 y5 y6 y7) (laws_FnSight.l0 (k + 1) y0 y1 y2 y3 y4 y5 y6 y7)) ∧ (∀ y0 y1 y2 y3 y4 y5 y6 y7 y8, LeO (laws_FnSight.j2 k y0 y1 y2 y3 y4 y5 y6 y7 y8) (laws_FnSight.j2 (k + 1) y0 y1 y2 y3 y4 y5 y6 y7 y8)) ∧ (∀ y0 y1 y2 y3 y4 y5 y6 y7 y8, LeO (laws_FnSight.l1 k y0 y1 y2 y3 y4 y5 y6 y7 y8) (laws_FnSight.l1 (k + 1) y0 y1 y2 y3 y4 y5 y6 y7 y8)) ∧ (∀ y0 y1 y2 y3 y4 y5 y6 y7 y8 y9 y10 y11 y12 y13 y14, LeO (laws_FnSight.l2 k y0 y1 y2 y3 y4 y5 y6 y7 y8 y9 y10 y11 y12 y13 y14) (laws_FnSight.l2 (k + 1) y0 y1 y2 y3 y4 y5 y6 y7 y8 y9 y10 y11 y12 y13 y14))
 | 0 => ⟨fun _ _ _ _ _ _ _ _ _ _ _ _ _ _ _ _ _ r h => by simp [laws_FnSight.j0] at h, fun _ _ _ _ _ _ _ _ r h => by simp [laws_FnSight.l0] at h, fun _ _ _ _ _ _ _ _ _ r h => by simp [laws_FnSight.j2] at h, fun _ _ _ _ _ _ _ _ _ r h => by simp [laws_FnSight.l1] at h, fun _ _ _ _ _ _ _ _ _ _ _ _ _ _ _ r h => by simp [laws_FnSight.l2] at h⟩
 | k + 1 => by
  obtain ⟨ih0, ih1, ih2, ih3, ih4⟩ := laws_FnSight.mono_l k
  refine ⟨?_, ?_, ?_, ?_, ?_⟩
  ·intro y0 y1 y2 y3 y4 y5 y6 y7 y8 y9 y10 y11 y12 y13 y14 y15 y16
   unfold laws_FnSight.j0
   repeat' first | (with_reducible first | exact ih0 _ _ _ _ _ _ _ _ _ _ _ _ _ _ _ _ _ | exact ih1 _ _ _ _ _ _ _ _ | exact ih2 _ _ _ _ _ _ _ _ _ | exact ih3 _ _ _ _ _ _ _ _ _ | exact ih4 _ _ _ _ _ _ _ _ _ _ _ _ _ _ _ | exact impl_InSpans.mono _ _ _ | exact impl_IsSure.mono _ _ _ _ _ _ _ _ _ _ _ _ _ _ | exact impl_LimitOf.mono _ _ _ _ _ _ _ _ _ _ _ _ _ | exact impl_SightAt.mono _ _ _ _ _ _ _ _ _ _ _ _ _ _ | exact impl_SureWindows.mono _ _ _ _ _ _ _ _ _ _ _ _ _ _ _ | exact spec_DrawSightAt.mono _ _ | exact spec_DrawSureWindows.mono _ _ | exact LeO.refl _ | exact LeO.none _ | refine LeO.ite ?_ ?_ | refine LeO.bind ?_ (fun _ => ?_)) | exact LeO.none _ | refine LeO.ite ?_ ?_ | refine LeO.bind ?_ (fun _ => ?_)
  ·intro y0 y1 y2 y3 y4 y5 y6 y7
   unfold laws_FnSight.l0
   repeat' first | (with_reducible first | exact ih0 _ _ _ _ _ _ _ _ _ _ _ _ _ _ _ _ _ | exact ih1 _ _ _ _ _ _ _ _ | exact ih2 _ _ _ _ _ _ _ _ _ | exact ih3 _ _ _ _ _ _ _ _ _ | exact ih4 _ _ _ _ _ _ _ _ _ _ _ _ _ _ _ | exact impl_InSpans.mono _ _ _ | exact impl_IsSure.mono _ _ _ _ _ _ _ _ _ _ _ _ _ _ | exact impl_LimitOf.mono _ _ _ _ _ _ _ _ _ _ _ _ _ | exact impl_SightAt.mono _ _ _ _ _ _ _ _ _ _ _ _ _ _ | exact impl_SureWindows.mono _ _ _ _ _ _ _ _ _ _ _ _ _ _ _ | exact spec_DrawSightAt.mono _ _ | exact spec_DrawSureWindows.mono _ _ | exact LeO.refl _ | exact LeO.none _ | refine LeO.ite ?_ ?_ | refine LeO.bind ?_ (fun _ => ?_)) | exact LeO.none _ | refine LeO.ite ?_ ?_ | refine LeO.bind ?_ (fun _ => ?_)
  ·intro y0 y1 y2 y3 y4 y5 y6 y7 y8
   unfold laws_FnSight.j2
   repeat' first | (with_reducible first | exact ih0 _ _ _ _ _ _ _ _ _ _ _ _ _ _ _ _ _ | exact ih1 _ _ _ _ _ _ _ _ | exact ih2 _ _ _ _ _ _ _ _ _ | exact ih3 _ _ _ _ _ _ _ _ _ | exact ih4 _ _ _ _ _ _ _ _ _ _ _ _ _ _ _ | exact impl_InSpans.mono _ _ _ | exact impl_IsSure.mono _ _ _ _ _ _ _ _ _ _ _ _ _ _ | exact impl_LimitOf.mono _ _ _ _ _ _ _ _ _ _ _ _ _ | exact impl_SightAt.mono _ _ _ _ _ _ _ _ _ _ _ _ _ _ | exact impl_SureWindows.mono _ _ _ _ _ _ _ _ _ _ _ _ _ _ _ | exact spec_DrawSightAt.mono _ _ | exact spec_DrawSureWindows.mono _ _ | exact LeO.refl _ | exact LeO.none _ | refine LeO.ite ?_ ?_ | refine LeO.bind ?_ (fun _ => ?_)) | exact LeO.none _ | refine LeO.ite ?_ ?_ | refine LeO.bind ?_ (fun _ => ?_)
  ·intro y0 y1 y2 y3 y4 y5 y6 y7 y8
   unfold laws_FnSight.l1
   repeat' first | (with_reducible first | exact ih0 _ _ _ _ _ _ _ _ _ _ _ _ _ _ _ _ _ | exact ih1 _ _ _ _ _ _ _ _ | exact ih2 _ _ _ _ _ _ _ _ _ | exact ih3 _ _ _ _ _ _ _ _ _ | exact ih4 _ _ _ _ _ _ _ _ _ _ _ _ _ _ _ | exact impl_InSpans.mono _ _ _ | exact impl_IsSure.mono _ _ _ _ _ _ _ _ _ _ _ _ _ _ | exact impl_LimitOf.mono _ _ _ _ _ _ _ _ _ _ _ _ _ | exact impl_SightAt.mono _ _ _ _ _ _ _ _ _ _ _ _ _ _ | exact impl_SureWindows.mono _ _ _ _ _ _ _ _ _ _ _ _ _ _ _ | exact spec_DrawSightAt.mono _ _ | exact spec_DrawSureWindows.mono _ _ | exact LeO.refl _ | exact LeO.none _ | refine LeO.ite ?_ ?_ | refine LeO.bind ?_ (fun _ => ?_)) | exact LeO.none _ | refine LeO.ite ?_ ?_ | refine LeO.bind ?_ (fun _ => ?_)
  ·intro y0 y1 y2 y3 y4 y5 y6 y7 y8 y9 y10 y11 y12 y13 y14
   unfold laws_FnSight.l2
   repeat' first | (with_reducible first | exact ih0 _ _ _ _ _ _ _ _ _ _ _ _ _ _ _ _ _ | exact ih1 _ _ _ _ _ _ _ _ | exact ih2 _ _ _ _ _ _ _ _ _ | exact ih3 _ _ _ _ _ _ _ _ _ | exact ih4 _ _ _ _ _ _ _ _ _ _ _ _ _ _ _ | exact impl_InSpans.mono _ _ _ | exact impl_IsSure.mono _ _ _ _ _ _ _ _ _ _ _ _ _ _ | exact impl_LimitOf.mono _ _ _ _ _ _ _ _ _ _ _ _ _ | exact impl_SightAt.mono _ _ _ _ _ _ _ _ _ _ _ _ _ _ | exact impl_SureWindows.mono _ _ _ _ _ _ _ _ _ _ _ _ _ _ _ | exact spec_DrawSightAt.mono _ _ | exact spec_DrawSureWindows.mono _ _ | exact LeO.refl _ | exact LeO.none _ | refine LeO.ite ?_ ?_ | refine LeO.bind ?_ (fun _ => ?_)) | exact LeO.none _ | refine LeO.ite ?_ ?_ | refine LeO.bind ?_ (fun _ => ?_)
theorem laws_FnSight.mono : ∀ a0 k, LeO (laws_FnSight.f k a0) (laws_FnSight.f (k + 1) a0) := by
 intro a0 k
 obtain ⟨ih0, ih1, ih2, ih3, ih4⟩ := laws_FnSight.mono_l k
 unfold laws_FnSight.f
 repeat' first | (with_reducible first | exact ih0 _ _ _ _ _ _ _ _ _ _ _ _ _ _ _ _ _ | exact ih1 _ _ _ _ _ _ _ _ | exact ih2 _ _ _ _ _ _ _ _ _ | exact ih3 _ _ _ _ _ _ _ _ _ | exact ih4 _ _ _ _ _ _ _ _ _ _ _ _ _ _ _ | exact impl_InSpans.mono _ _ _ | exact impl_IsSure.mono _ _ _ _ _ _ _ _ _ _ _ _ _ _ | exact impl_LimitOf.mono _ _ _ _ _ _ _ _ _ _ _ _ _ | exact impl_SightAt.mono _ _ _ _ _ _ _ _ _ _ _ _ _ _ | exact impl_SureWindows.mono _ _ _ _ _ _ _ _ _ _ _ _ _ _ _ | exact spec_DrawSightAt.mono _ _ | exact spec_DrawSureWindows.mono _ _ | exact LeO.refl _ | exact LeO.none _ | refine LeO.ite ?_ ?_ | refine LeO.bind ?_ (fun _ => ?_)) | exact LeO.none _ | refine LeO.ite ?_ ?_ | refine LeO.bind ?_ (fun _ => ?_)
set_option maxHeartbeats 8000000 in
set_option maxRecDepth 100000 in
theorem laws_FnSight.calls (k : Nat) (A0 : Option Addr) (c0 : Nat) (l0 : List Int) (r : Bool) (w : World) (hr0 : Kd.C (Kd.int .u8) w A0 l0.length l0) (hc0 : l0.length ≤ c0) (h : laws_FnSight.f k l0 = some r) (hT_ : r = true := by rfl) :
  Calls Try.prog 3 #[.slice A0 l0.length c0] w fun e w' => e = .returned (.bool r) ∧ Below w.heap.size w w' := by
 have hu28 := Try.underlying28
 have hu35 := Try.underlying35
 have HR0 := Aside0.mk hr0
 have HC0 := Aside0.mk hc0
 clear hr0 hc0
 have HB := Aside0.mk (Below.refl w.heap.size w)
 subst hT_
 have H := h
 clear h
 unfold laws_FnSight.f at H
 replace H := bs_ H
 obtain ⟨t537, A2, H⟩ := H
 by_cases c3 : t537 = true
 ·subst c3
  try rw [if_pos rfl] at H
  clear H
  go_enter Try.func3, Try.ntmps3
  go_wp2_with (first | ((with_reducible refine gate_callee (f := 8) rfl ?_); refine gl_ 21 Try.func8 (laws_big.calls _ _ l0 true _ (cq_ HR0) HC0.out A2.out) ?_; rintro e w' ⟨rfl, ⟨nd, rfl⟩⟩; refine ⟨_, rfl, ?_⟩))
  go_ret
  exact ⟨by first | (rw [hRT_.out]; rfl) | exact er_, bl_ HB⟩
 ·replace c3 := Bool.eq_false_iff.mpr c3
  subst c3
  have H1 : ((spec_DrawSightAt.f k l0).bind fun bt538 => ((impl_SightAt.f k bt538.1 bt538.2.1 bt538.2.2.1 bt538.2.2.2.1 bt538.2.2.2.2.1 bt538.2.2.2.2.2.1 bt538.2.2.2.2.2.2.1 bt538.2.2.2.2.2.2.2.1 bt538.2.2.2.2.2.2.2.2.1 bt538.2.2.2.2.2.2.2.2.2.1 bt538.2.2.2.2.2.2.2.2.2.2.1 bt538.2.2.2.2.2.2.2.2.2.2.2.1 bt538.2.2.2.2.2.2.2.2.2.2.2.2).bind fun t558 => ((impl_LimitOf.f k bt538.1 bt538.2.1 bt538.2.2.1 bt538.2.2.2.1 bt538.2.2.2.2.1 bt538.2.2.2.2.2.1 bt538.2.2.2.2.2.2.1 bt538.2.2.2.2.2.2.2.1 bt538.2.2.2.2.2.2.2.2.1 bt538.2.2.2.2.2.2.2.2.2.1 bt538.2.2.2.2.2.2.2.2.2.2.1 bt538.2.2.2.2.2.2.2.2.2.2.2.1).bind fun t559 => ((impl_SightAt.f k bt538.1 bt538.2.1 bt538.2.2.1 bt538.2.2.2.1 bt538.2.2.2.2.1 bt538.2.2.2.2.2.1 bt538.2.2.2.2.2.2.1 bt538.2.2.2.2.2.2.2.1 bt538.2.2.2.2.2.2.2.2.1 bt538.2.2.2.2.2.2.2.2.2.1 bt538.2.2.2.2.2.2.2.2.2.2.2.1 bt538.2.2.2.2.2.2.2.2.2.2.1 bt538.2.2.2.2.2.2.2.2.2.2.2.2).bind fun t560 => (if t558 = t560 then (if t559 < 0 then (if t558 = 0 then ((impl_IsSure.f k bt538.1 bt538.2.1 bt538.2.2.1 bt538.2.2.2.1 bt538.2.2.2.2.1 bt538.2.2.2.2.2.1 bt538.2.2.2.2.2.2.1 bt538.2.2.2.2.2.2.2.1 bt538.2.2.2.2.2.2.2.2.1 bt538.2.2.2.2.2.2.2.2.2.1 bt538.2.2.2.2.2.2.2.2.2.2.1 bt538.2.2.2.2.2.2.2.2.2.2.2.1 bt538.2.2.2.2.2.2.2.2.2.2.2.2).bind fun t561 => (laws_FnSight.j0 k l0 bt538.2.2.2.2.2.2.2.2.2.2.1 bt538.2.2.2.2.2.2.2.2.2.2.2.1 bt538.2.2.2.2.2.2.2.2.2.2.2.2 t558 t559 (t561 != (t558 == 2)) bt538.1 bt538.2.1 bt538.2.2.1 bt538.2.2.2.1 bt538.2.2.2.2.1 bt538.2.2.2.2.2.1 bt538.2.2.2.2.2.2.1 bt538.2.2.2.2.2.2.2.1 bt538.2.2.2.2.2.2.2.2.1 bt538.2.2.2.2.2.2.2.2.2.1)) else (laws_FnSight.j0 k l0 bt538.2.2.2.2.2.2.2.2.2.2.1 bt538.2.2.2.2.2.2.2.2.2.2.2.1 bt538.2.2.2.2.2.2.2.2.2.2.2.2 t558 t559 true bt538.1 bt538.2.1 bt538.2.2.1 bt538.2.2.2.1 bt538.2.2.2.2.1 bt538.2.2.2.2.2.1 bt538.2.2.2.2.2.2.1 bt538.2.2.2.2.2.2.2.1 bt538.2.2.2.2.2.2.2.2.1 bt538.2.2.2.2.2.2.2.2.2.1)) else ((impl_IsSure.f k bt538.1 bt538.2.1 bt538.2.2.1 bt538.2.2.2.1 bt538.2.2.2.2.1 bt538.2.2.2.2.2.1 bt538.2.2.2.2.2.2.1 bt538.2.2.2.2.2.2.2.1 bt538.2.2.2.2.2.2.2.2.1 bt538.2.2.2.2.2.2.2.2.2.1 bt538.2.2.2.2.2.2.2.2.2.2.1 bt538.2.2.2.2.2.2.2.2.2.2.2.1 bt538.2.2.2.2.2.2.2.2.2.2.2.2).bind fun t562 => (laws_FnSight.j0 k l0 bt538.2.2.2.2.2.2.2.2.2.2.1 bt538.2.2.2.2.2.2.2.2.2.2.2.1 bt538.2.2.2.2.2.2.2.2.2.2.2.2 t558 t559 (t562 != (t558 == 2)) bt538.1 bt538.2.1 bt538.2.2.1 bt538.2.2.2.1 bt538.2.2.2.2.1 bt538.2.2.2.2.2.1 bt538.2.2.2.2.2.2.1 bt538.2.2.2.2.2.2.2.1 bt538.2.2.2.2.2.2.2.2.1 bt538.2.2.2.2.2.2.2.2.2.1))) else (laws_FnSight.j0 k l0 bt538.2.2.2.2.2.2.2.2.2.2.1 bt538.2.2.2.2.2.2.2.2.2.2.2.1 bt538.2.2.2.2.2.2.2.2.2.2.2.2 t558 t559 true bt538.1 bt538.2.1 bt538.2.2.1 bt538.2.2.2.1 bt538.2.2.2.2.1 bt538.2.2.2.2.2.1 bt538.2.2.2.2.2.2.1 bt538.2.2.2.2.2.2.2.1 bt538.2.2.2.2.2.2.2.2.1 bt538.2.2.2.2.2.2.2.2.2.1)))))) = some true := by first | (rw [if_neg (show ¬ (false = true) by decide)] at H; exact H) | rfl
  clear H
  have H := H1
  clear H1
  replace H := bs_ H
  obtain ⟨⟨t538, t539, t542, t545, t546, t547, t548, t549, t550, t553, t554, t555, t556⟩, A4, H⟩ := H
  dsimp only at H
  replace H := bs_ H
  obtain ⟨t558, A5, H⟩ := H
  replace H := bs_ H
  obtain ⟨t559, A6, H⟩ := H
  have HC7 := Aside0.mk H
  clear H
  go_enter Try.func3, Try.ntmps3
  go_upto_region 6 with (first | ((with_reducible refine gate_callee (f := 8) rfl ?_); refine gl_ 21 Try.func8 (laws_big.calls _ _ l0 false _ (cq_ HR0) HC0.out A2.out) ?_; rintro e w' ⟨rfl, ⟨nd, rfl⟩⟩; refine ⟨_, rfl, ?_⟩) | ((with_reducible refine gate_callee (f := 9) rfl ?_); refine gl_ 24 Try.func9 (spec_DrawSightAt.calls k _ _ l0 t538 t539 t542 t545 t546 t547 t548 t549 t550 t553 t554 t555 t556 _ (cq_ HR0) HC0.out A4.out) ?_; rintro e w8 ⟨v540, v543, v551, rfl, ho0, ho1, ho2, hb⟩; refine ⟨_, rfl, sh4_ (Kd.R_lower ho0 (below_size (bl_ HB))) (Kd.R_lower ho1 (below_size (bl_ HB))) (Kd.R_lower ho2 (below_size (bl_ HB))) (below_step (bl_ HB) hb) ?_⟩; clear HB hb ho0 ho1 ho2; intro HO541 HO544 HO552 HB) | ((with_reducible refine gd_ 3 ?_); refine bx_ 3 28 #[iv_ 0, .slice none 0 0, .slice none 0 0, iv_ 0, iv_ 0, iv_ 0, iv_ 0, iv_ 0, .slice none 0 0, iv_ 0] ?_; intro gb557 hg w9 hbox hb; refine sh6_ (Kd.R_below (ra_ HO541) hb) (Kd.R_below (ra_ HO544) hb) (Kd.R_below (ra_ HO552) hb) (below_step (bl_ HB) hb) hbox (ge_ hg (bl_ HB)) ?_; clear HO541 HO544 HO552 HB hb hbox hg; intro HO541 HO544 HO552 HB BK557 GE557; have hcz10 := cf10_ BK557; obtain ⟨Ao11, co11, eo11⟩ := Kd.R_slice HO541.out; subst eo11; obtain ⟨Ao12, co12, eo12⟩ := Kd.R_slice HO544.out; subst eo12; obtain ⟨Ao13, co13, eo13⟩ := Kd.R_slice HO552.out; subst eo13) | ((with_reducible refine gate_callee (f := 10) rfl ?_); refine goesL_ (some 33) rfl rfl Try.func10 (by kernel_rfl) rfl #[.agg #[iv_ t538, .slice Ao11 t539.length co11, .slice Ao12 t542.length co12, iv_ t545, iv_ t546, iv_ t547, iv_ t548, iv_ t549, .slice Ao13 t550.length co13, iv_ t553], iv_ t554, iv_ t555, iv_ t556] rfl mp_ ?_; (with_reducible refine (impl_SightAt.calls k t538 _ _ t539 _ _ t542 t545 t546 t547 t548 t549 _ _ t550 t553 t554 t555 t556 t558 _ ?side1 ?side2 ?side3 ?side4 ?side5 ?side6 A5.out).mono ?_); (case side1 => refine (Kd.R_reads' (e := 72) (base := w.heap.size) (ok := fun k_ => True) (n := t539.length) (c := co11) ?_).2.2; exact (by (with_reducible repeat (first | apply Kd.R_alloc | apply Kd.R_drewN | apply Kd.R_drew)); exact (Kd.R_mono (Kd.R_far (p := ⟨gb557, 9, none⟩) (Kd.R_far (p := ⟨gb557, 8, none⟩) (Kd.R_far (p := ⟨gb557, 7, none⟩) (Kd.R_far (p := ⟨gb557, 6, none⟩) (Kd.R_far (p := ⟨gb557, 5, none⟩) (Kd.R_far (p := ⟨gb557, 4, none⟩) (Kd.R_far (p := ⟨gb557, 3, none⟩) (Kd.R_far (p := ⟨gb557, 2, none⟩) (Kd.R_far (p := ⟨gb557, 1, none⟩) (Kd.R_far (p := ⟨gb557, 0, none⟩) (Kd.R_types HO541.out BK557.out (by decide)) (fun _ hk => hk.2) (iv_ t538)) (fun _ hk => hk.2) (.slice Ao11 t539.length co11)) (fun _ hk => hk.2) (.slice Ao12 t542.length co12)) (fun _ hk => hk.2) (iv_ t545)) (fun _ hk => hk.2) (iv_ t546)) (fun _ hk => hk.2) (iv_ t547)) (fun _ hk => hk.2) (iv_ t548)) (fun _ hk => hk.2) (iv_ t549)) (fun _ hk => hk.2) (.slice Ao13 t550.length co13)) (fun _ hk => hk.2) (iv_ t553)) (fun _ h_ => h_.1)))); (case side2 => exact (Kd.R_reads' HO541.out).2.1); (case side3 => refine (Kd.R_reads' (e := 74) (base := w.heap.size) (ok := fun k_ => True) (n := t542.length) (c := co12) ?_).2.2; exact (by (with_reducible repeat (first | apply Kd.R_alloc | apply Kd.R_drewN | apply Kd.R_drew)); exact (Kd.R_mono (Kd.R_far (p := ⟨gb557, 9, none⟩) (Kd.R_far (p := ⟨gb557, 8, none⟩) (Kd.R_far (p := ⟨gb557, 7, none⟩) (Kd.R_far (p := ⟨gb557, 6, none⟩) (Kd.R_far (p := ⟨gb557, 5, none⟩) (Kd.R_far (p := ⟨gb557, 4, none⟩) (Kd.R_far (p := ⟨gb557, 3, none⟩) (Kd.R_far (p := ⟨gb557, 2, none⟩) (Kd.R_far (p := ⟨gb557, 1, none⟩) (Kd.R_far (p := ⟨gb557, 0, none⟩) (Kd.R_types HO544.out BK557.out (by decide)) (fun _ hk => hk.2) (iv_ t538)) (fun _ hk => hk.2) (.slice Ao11 t539.length co11)) (fun _ hk => hk.2) (.slice Ao12 t542.length co12)) (fun _ hk => hk.2) (iv_ t545)) (fun _ hk => hk.2) (iv_ t546)) (fun _ hk => hk.2) (iv_ t547)) (fun _ hk => hk.2) (iv_ t548)) (fun _ hk => hk.2) (iv_ t549)) (fun _ hk => hk.2) (.slice Ao13 t550.length co13)) (fun _ hk => hk.2) (iv_ t553)) (fun _ h_ => h_.1)))); (case side4 => exact (Kd.R_reads' HO544.out).2.1); (case side5 => refine (Kd.R_reads' (e := 88) (base := w.heap.size) (ok := fun k_ => True) (n := t550.length) (c := co13) ?_).2.2; exact (by (with_reducible repeat (first | apply Kd.R_alloc | apply Kd.R_drewN | apply Kd.R_drew)); exact (Kd.R_mono (Kd.R_far (p := ⟨gb557, 9, none⟩) (Kd.R_far (p := ⟨gb557, 8, none⟩) (Kd.R_far (p := ⟨gb557, 7, none⟩) (Kd.R_far (p := ⟨gb557, 6, none⟩) (Kd.R_far (p := ⟨gb557, 5, none⟩) (Kd.R_far (p := ⟨gb557, 4, none⟩) (Kd.R_far (p := ⟨gb557, 3, none⟩) (Kd.R_far (p := ⟨gb557, 2, none⟩) (Kd.R_far (p := ⟨gb557, 1, none⟩) (Kd.R_far (p := ⟨gb557, 0, none⟩) (Kd.R_types HO552.out BK557.out (by decide)) (fun _ hk => hk.2) (iv_ t538)) (fun _ hk => hk.2) (.slice Ao11 t539.length co11)) (fun _ hk => hk.2) (.slice Ao12 t542.length co12)) (fun _ hk => hk.2) (iv_ t545)) (fun _ hk => hk.2) (iv_ t546)) (fun _ hk => hk.2) (iv_ t547)) (fun _ hk => hk.2) (iv_ t548)) (fun _ hk => hk.2) (iv_ t549)) (fun _ hk => hk.2) (.slice Ao13 t550.length co13)) (fun _ hk => hk.2) (iv_ t553)) (fun _ h_ => h_.1)))); (case side6 => exact (Kd.R_reads' HO552.out).2.1); rintro e w14 ⟨rfl, hb⟩; refine ⟨_, rfl, sh5_ (Kd.R_below (by (with_reducible repeat (first | apply Kd.R_alloc | apply Kd.R_drewN | apply Kd.R_drew)); exact (Kd.R_mono (Kd.R_far (p := ⟨gb557, 9, none⟩) (Kd.R_far (p := ⟨gb557, 8, none⟩) (Kd.R_far (p := ⟨gb557, 7, none⟩) (Kd.R_far (p := ⟨gb557, 6, none⟩) (Kd.R_far (p := ⟨gb557, 5, none⟩) (Kd.R_far (p := ⟨gb557, 4, none⟩) (Kd.R_far (p := ⟨gb557, 3, none⟩) (Kd.R_far (p := ⟨gb557, 2, none⟩) (Kd.R_far (p := ⟨gb557, 1, none⟩) (Kd.R_far (p := ⟨gb557, 0, none⟩) (Kd.R_types HO541.out BK557.out (by decide)) (fun _ hk => hk.2) (iv_ t538)) (fun _ hk => hk.2) (.slice Ao11 t539.length co11)) (fun _ hk => hk.2) (.slice Ao12 t542.length co12)) (fun _ hk => hk.2) (iv_ t545)) (fun _ hk => hk.2) (iv_ t546)) (fun _ hk => hk.2) (iv_ t547)) (fun _ hk => hk.2) (iv_ t548)) (fun _ hk => hk.2) (iv_ t549)) (fun _ hk => hk.2) (.slice Ao13 t550.length co13)) (fun _ hk => hk.2) (iv_ t553)) (fun _ h_ => h_.1))) hb) (Kd.R_below (by (with_reducible repeat (first | apply Kd.R_alloc | apply Kd.R_drewN | apply Kd.R_drew)); exact (Kd.R_mono (Kd.R_far (p := ⟨gb557, 9, none⟩) (Kd.R_far (p := ⟨gb557, 8, none⟩) (Kd.R_far (p := ⟨gb557, 7, none⟩) (Kd.R_far (p := ⟨gb557, 6, none⟩) (Kd.R_far (p := ⟨gb557, 5, none⟩) (Kd.R_far (p := ⟨gb557, 4, none⟩) (Kd.R_far (p := ⟨gb557, 3, none⟩) (Kd.R_far (p := ⟨gb557, 2, none⟩) (Kd.R_far (p := ⟨gb557, 1, none⟩) (Kd.R_far (p := ⟨gb557, 0, none⟩) (Kd.R_types HO544.out BK557.out (by decide)) (fun _ hk => hk.2) (iv_ t538)) (fun _ hk => hk.2) (.slice Ao11 t539.length co11)) (fun _ hk => hk.2) (.slice Ao12 t542.length co12)) (fun _ hk => hk.2) (iv_ t545)) (fun _ hk => hk.2) (iv_ t546)) (fun _ hk => hk.2) (iv_ t547)) (fun _ hk => hk.2) (iv_ t548)) (fun _ hk => hk.2) (iv_ t549)) (fun _ hk => hk.2) (.slice Ao13 t550.length co13)) (fun _ hk => hk.2) (iv_ t553)) (fun _ h_ => h_.1))) hb) (Kd.R_below (by (with_reducible repeat (first | apply Kd.R_alloc | apply Kd.R_drewN | apply Kd.R_drew)); exact (Kd.R_mono (Kd.R_far (p := ⟨gb557, 9, none⟩) (Kd.R_far (p := ⟨gb557, 8, none⟩) (Kd.R_far (p := ⟨gb557, 7, none⟩) (Kd.R_far (p := ⟨gb557, 6, none⟩) (Kd.R_far (p := ⟨gb557, 5, none⟩) (Kd.R_far (p := ⟨gb557, 4, none⟩) (Kd.R_far (p := ⟨gb557, 3, none⟩) (Kd.R_far (p := ⟨gb557, 2, none⟩) (Kd.R_far (p := ⟨gb557, 1, none⟩) (Kd.R_far (p := ⟨gb557, 0, none⟩) (Kd.R_types HO552.out BK557.out (by decide)) (fun _ hk => hk.2) (iv_ t538)) (fun _ hk => hk.2) (.slice Ao11 t539.length co11)) (fun _ hk => hk.2) (.slice Ao12 t542.length co12)) (fun _ hk => hk.2) (iv_ t545)) (fun _ hk => hk.2) (iv_ t546)) (fun _ hk => hk.2) (iv_ t547)) (fun _ hk => hk.2) (iv_ t548)) (fun _ hk => hk.2) (iv_ t549)) (fun _ hk => hk.2) (.slice Ao13 t550.length co13)) (fun _ hk => hk.2) (iv_ t553)) (fun _ h_ => h_.1))) hb) (blk_below (g := gb557) (o := .cells #[iv_ t538, .slice Ao11 t539.length co11, .slice Ao12 t542.length co12, iv_ t545, iv_ t546, iv_ t547, iv_ t548, iv_ t549, .slice Ao13 t550.length co13, iv_ t553] 28 (0, 0)) (bp_ BK557) hb) (below_step (bl1_ HB GE557) hb) ?_⟩; clear HO541 HO544 HO552 BK557 HB hb; intro HO541 HO544 HO552 BK557 HB; have hcz15 := cf10_ BK557) | ((with_reducible refine gate_callee (f := 11) rfl ?_); refine gl_ 37 Try.func11 (impl_LimitOf.calls k t538 _ _ t539 _ _ t542 t545 t546 t547 t548 t549 _ _ t550 t553 t554 t555 t559 _ (cr_ HO541) (rl_ HO541) (cr_ HO544) (rl_ HO544) (cr_ HO552) (rl_ HO552) A6.out) ?_; rintro e w16 ⟨rfl, hb⟩; refine ⟨_, rfl, sh5_ (Kd.R_below (ra_ HO541) hb) (Kd.R_below (ra_ HO544) hb) (Kd.R_below (ra_ HO552) hb) (blk_below (bk_ BK557) hb) (below_step (bl1_ HB GE557) hb) ?_⟩; clear HO541 HO544 HO552 BK557 HB hb; intro HO541 HO544 HO552 BK557 HB))
  (try simp only [Act.put, List.setIfInBounds_toArray, List.set_cons_zero, List.set_cons_succ])
  go_cut [62] (fun v62 wc => ∃ (kq : Nat) (x62_6 : Bool), v62 = .bool x62_6 ∧ Aside0 (laws_FnSight.j0 kq l0 t554 t555 t556 t558 t559 x62_6 t538 t539 t542 t545 t546 t547 t548 t549 t550 t553 = some true) ∧ Aside0 (kq ≤ k) ∧ Aside0 (Kd.R k72 72 wc w.heap.size (fun _ => True) (.slice Ao11 t539.length co11) t539) ∧ Aside0 (Kd.R k74 74 wc w.heap.size (fun _ => True) (.slice Ao12 t542.length co12) t542) ∧ Aside0 (Kd.R k88 88 wc w.heap.size (fun _ => True) (.slice Ao13 t550.length co13) t550) ∧ Aside0 (wc.heap[gb557]? = some (.cells #[iv_ t538, (.slice Ao11 t539.length co11), (.slice Ao12 t542.length co12), iv_ t545, iv_ t546, iv_ t547, iv_ t548, iv_ t549, (.slice Ao13 t550.length co13), iv_ t553] 28 (0, 0))) ∧ Aside0 (Below w.heap.size w wc))
  case first =>
   have H := HC7.out
   clear HC7
   replace H := bs_ H
   obtain ⟨t560, A17, H⟩ := H
   by_cases c18 : t558 = t560
   ·rw [if_pos c18] at H
    obtain ⟨c18b0, c18b1⟩ := bt_ c18
    clear c18
    (first | rw [c18b0] | (simp only [i64_w, i32_w]; rw [c18b0]) | skip)
    by_cases c19 : t559 < 0
    ·rw [if_pos c19] at H
     have c19b0 := decide_eq_true c19
     clear c19
     by_cases c20 : t558 = 0
     ·rw [if_pos c20] at H
      obtain ⟨c20b0, c20b1⟩ := bt_ c20
      clear c20
      replace H := bs_ H
      obtain ⟨t561, A21, H⟩ := H
      have H' := Aside0.mk H
      clear H
      have hcz22 := cf10_ BK557
      go_wp2_with (first | ((with_reducible refine gate_callee (f := 10) rfl ?_); refine gl_ 43 Try.func10 (impl_SightAt.calls k t538 _ _ t539 _ _ t542 t545 t546 t547 t548 t549 _ _ t550 t553 t555 t554 t556 t560 _ (cr_ HO541) (rl_ HO541) (cr_ HO544) (rl_ HO544) (cr_ HO552) (rl_ HO552) A17.out) ?_; rintro e w23 ⟨rfl, hb⟩; refine ⟨_, rfl, sh5_ (Kd.R_below (ra_ HO541) hb) (Kd.R_below (ra_ HO544) hb) (Kd.R_below (ra_ HO552) hb) (blk_below (bk_ BK557) hb) (below_step (bl1_ HB GE557) hb) ?_⟩; clear HO541 HO544 HO552 BK557 HB hb; intro HO541 HO544 HO552 BK557 HB; have hcz24 := cf10_ BK557) | (go_at_call 12; (with_reducible refine (impl_IsSure.calls k t538 _ _ t539 _ _ t542 t545 t546 t547 t548 t549 _ _ t550 t553 t554 t555 t556 t561 _ ?side1 ?side2 ?side3 ?side4 ?side5 ?side6 A21.out).mono ?_); (case side1 => repeat (first | exact (Kd.R_reads' HO541.out).2.2 | (with_reducible refine Kd.C_alloc ?_ _) | (with_reducible refine Kd.C_drewN ?_ _) | (with_reducible refine Kd.C_drew ?_))); (case side2 => exact (Kd.R_reads' HO541.out).2.1); (case side3 => repeat (first | exact (Kd.R_reads' HO544.out).2.2 | (with_reducible refine Kd.C_alloc ?_ _) | (with_reducible refine Kd.C_drewN ?_ _) | (with_reducible refine Kd.C_drew ?_))); (case side4 => exact (Kd.R_reads' HO544.out).2.1); (case side5 => repeat (first | exact (Kd.R_reads' HO552.out).2.2 | (with_reducible refine Kd.C_alloc ?_ _) | (with_reducible refine Kd.C_drewN ?_ _) | (with_reducible refine Kd.C_drew ?_))); (case side6 => exact (Kd.R_reads' HO552.out).2.1); rintro e w25 ⟨rfl, hb⟩; refine sh5_ (Kd.R_below (ra_ HO541) hb) (Kd.R_below (ra_ HO544) hb) (Kd.R_below (ra_ HO552) hb) (blk_below (bk_ BK557) hb) (below_step (bl1_ HB GE557) hb) ?_; clear HO541 HO544 HO552 BK557 HB hb; intro HO541 HO544 HO552 BK557 HB))
      go_meet
      case rel => exact ⟨_, ((t561 != (t558 == 2))), (by first | rfl | (simp; done) | (simp [*]; done)), H', ⟨by first | omega | exact Nat.le_refl _⟩, ⟨ra_ HO541⟩, ⟨ra_ HO544⟩, ⟨ra_ HO552⟩, ⟨by (with_reducible repeat (first | refine blk_drewN ?_ _ | refine blk_drew ?_ | refine blk_alloc ?_ _)); exact BK557.out⟩, ⟨bl1_ HB GE557⟩⟩
     ·rw [if_neg c20] at H
      obtain ⟨c20b0, c20b1⟩ := bn_ c20
      have H' := Aside0.mk H
      clear H
      have hcz26 := cf10_ BK557
      go_wp2_with (first | ((with_reducible refine gate_callee (f := 10) rfl ?_); refine gl_ 43 Try.func10 (impl_SightAt.calls k t538 _ _ t539 _ _ t542 t545 t546 t547 t548 t549 _ _ t550 t553 t555 t554 t556 t560 _ (cr_ HO541) (rl_ HO541) (cr_ HO544) (rl_ HO544) (cr_ HO552) (rl_ HO552) A17.out) ?_; rintro e w27 ⟨rfl, hb⟩; refine ⟨_, rfl, sh5_ (Kd.R_below (ra_ HO541) hb) (Kd.R_below (ra_ HO544) hb) (Kd.R_below (ra_ HO552) hb) (blk_below (bk_ BK557) hb) (below_step (bl1_ HB GE557) hb) ?_⟩; clear HO541 HO544 HO552 BK557 HB hb; intro HO541 HO544 HO552 BK557 HB))
      go_meet
      case rel => exact ⟨_, (true), (by first | rfl | (simp; done) | (simp [*]; done)), H', ⟨by first | omega | exact Nat.le_refl _⟩, ⟨ra_ HO541⟩, ⟨ra_ HO544⟩, ⟨ra_ HO552⟩, ⟨by (with_reducible repeat (first | refine blk_drewN ?_ _ | refine blk_drew ?_ | refine blk_alloc ?_ _)); exact BK557.out⟩, ⟨bl1_ HB GE557⟩⟩
    ·rw [if_neg c19] at H
     have c19b0 := decide_eq_false c19
     clear c19
     replace H := bs_ H
     obtain ⟨t562, A28, H⟩ := H
     have H' := Aside0.mk H
     clear H
     have hcz29 := cf10_ BK557
     go_wp2_with (first | ((with_reducible refine gate_callee (f := 10) rfl ?_); refine gl_ 43 Try.func10 (impl_SightAt.calls k t538 _ _ t539 _ _ t542 t545 t546 t547 t548 t549 _ _ t550 t553 t555 t554 t556 t560 _ (cr_ HO541) (rl_ HO541) (cr_ HO544) (rl_ HO544) (cr_ HO552) (rl_ HO552) A17.out) ?_; rintro e w30 ⟨rfl, hb⟩; refine ⟨_, rfl, sh5_ (Kd.R_below (ra_ HO541) hb) (Kd.R_below (ra_ HO544) hb) (Kd.R_below (ra_ HO552) hb) (blk_below (bk_ BK557) hb) (below_step (bl1_ HB GE557) hb) ?_⟩; clear HO541 HO544 HO552 BK557 HB hb; intro HO541 HO544 HO552 BK557 HB; have hcz31 := cf10_ BK557) | (go_at_call 12; (with_reducible refine (impl_IsSure.calls k t538 _ _ t539 _ _ t542 t545 t546 t547 t548 t549 _ _ t550 t553 t554 t555 t556 t562 _ ?side1 ?side2 ?side3 ?side4 ?side5 ?side6 A28.out).mono ?_); (case side1 => repeat (first | exact (Kd.R_reads' HO541.out).2.2 | (with_reducible refine Kd.C_alloc ?_ _) | (with_reducible refine Kd.C_drewN ?_ _) | (with_reducible refine Kd.C_drew ?_))); (case side2 => exact (Kd.R_reads' HO541.out).2.1); (case side3 => repeat (first | exact (Kd.R_reads' HO544.out).2.2 | (with_reducible refine Kd.C_alloc ?_ _) | (with_reducible refine Kd.C_drewN ?_ _) | (with_reducible refine Kd.C_drew ?_))); (case side4 => exact (Kd.R_reads' HO544.out).2.1); (case side5 => repeat (first | exact (Kd.R_reads' HO552.out).2.2 | (with_reducible refine Kd.C_alloc ?_ _) | (with_reducible refine Kd.C_drewN ?_ _) | (with_reducible refine Kd.C_drew ?_))); (case side6 => exact (Kd.R_reads' HO552.out).2.1); rintro e w32 ⟨rfl, hb⟩; refine sh5_ (Kd.R_below (ra_ HO541) hb) (Kd.R_below (ra_ HO544) hb) (Kd.R_below (ra_ HO552) hb) (blk_below (bk_ BK557) hb) (below_step (bl1_ HB GE557) hb) ?_; clear HO541 HO544 HO552 BK557 HB hb; intro HO541 HO544 HO552 BK557 HB))
     go_meet
     case rel => exact ⟨_, ((t562 != (t558 == 2))), (by first | rfl | (simp; done) | (simp [*]; done)), H', ⟨by first | omega | exact Nat.le_refl _⟩, ⟨ra_ HO541⟩, ⟨ra_ HO544⟩, ⟨ra_ HO552⟩, ⟨by (with_reducible repeat (first | refine blk_drewN ?_ _ | refine blk_drew ?_ | refine blk_alloc ?_ _)); exact BK557.out⟩, ⟨bl1_ HB GE557⟩⟩
   ·rw [if_neg c18] at H
    obtain ⟨c18b0, c18b1⟩ := bn_ c18
    (first | rw [c18b0] | (simp only [i64_w, i32_w]; rw [c18b0]) | skip)
    have H' := Aside0.mk H
    clear H
    have hcz33 := cf10_ BK557
    go_wp2_with (first | ((with_reducible refine gate_callee (f := 10) rfl ?_); refine gl_ 43 Try.func10 (impl_SightAt.calls k t538 _ _ t539 _ _ t542 t545 t546 t547 t548 t549 _ _ t550 t553 t555 t554 t556 t560 _ (cr_ HO541) (rl_ HO541) (cr_ HO544) (rl_ HO544) (cr_ HO552) (rl_ HO552) A17.out) ?_; rintro e w34 ⟨rfl, hb⟩; refine ⟨_, rfl, sh5_ (Kd.R_below (ra_ HO541) hb) (Kd.R_below (ra_ HO544) hb) (Kd.R_below (ra_ HO552) hb) (blk_below (bk_ BK557) hb) (below_step (bl1_ HB GE557) hb) ?_⟩; clear HO541 HO544 HO552 BK557 HB hb; intro HO541 HO544 HO552 BK557 HB))
    go_meet
    case rel => exact ⟨_, (true), (by first | rfl | (simp; done) | (simp [*]; done)), H', ⟨by first | omega | exact Nat.le_refl _⟩, ⟨ra_ HO541⟩, ⟨ra_ HO544⟩, ⟨ra_ HO552⟩, ⟨by (with_reducible repeat (first | refine blk_drewN ?_ _ | refine blk_drew ?_ | refine blk_alloc ?_ _)); exact BK557.out⟩, ⟨bl1_ HB GE557⟩⟩
  case rest =>
   clear HC7
   obtain ⟨kq, x62_6, rfl, HA, HJ6, HO_558001, HO_558002, HO_558008, BK557, HB⟩ := hcut
   cases kq with
   | zero => exact absurd HA.out (by simp [laws_FnSight.j0])
   | succ kj6 =>
    have H := HA.out
    clear HA
    simp only [laws_FnSight.j0] at H
    by_cases c35 : x62_6 = true
    ·subst c35
     try rw [if_pos rfl] at H
     exact absurd H (by simp)
    ·replace c35 := Bool.eq_false_iff.mpr c35
     subst c35
     have H1 : ((impl_NodeAt.f t538 t539 t542 t545 t546 t547 t548 t549 t550 t553 t554 t556).bind fun bt563 => ((impl_NodeAt.f t538 t539 t542 t545 t546 t547 t548 t549 t550 t553 t555 t556).bind fun bt566 => (laws_FnSight.l0 kj6 l0 t558 t559 0 bt563.1 bt563.2 bt566.1 bt566.2))) = some true := by first | (rw [if_neg (show ¬ (false = true) by decide)] at H; exact H) | rfl
     clear H
     have H := H1
     clear H1
     replace H := bs_ H
     obtain ⟨⟨t563, t564⟩, A36, H⟩ := H
     dsimp only at H
     replace H := bs_ H
     obtain ⟨⟨t566, t567⟩, A37, H⟩ := H
     dsimp only at H
     have H' := Aside0.mk H
     clear H
     have hcz38 := cf10_ BK557
     go_wp2_with (first | ((with_reducible refine gate_callee (f := 13) rfl ?_); refine gl_ 66 Try.func13 (impl_NodeAt.calls t538 _ _ t539 _ _ t542 t545 t546 t547 t548 t549 _ _ t550 t553 t554 t556 t563 t564 _ (cr_ HO_558001) (rl_ HO_558001) (cr_ HO_558002) (rl_ HO_558002) (cr_ HO_558008) (rl_ HO_558008) A36.out) ?_; rintro e w39 ⟨rfl, hb⟩; refine ⟨_, rfl, sh5_ (Kd.R_below (ra_ HO_558001) hb) (Kd.R_below (ra_ HO_558002) hb) (Kd.R_below (ra_ HO_558008) hb) (blk_below (bk_ BK557) hb) (below_step (bl1_ HB GE557) hb) ?_⟩; clear HO_558001 HO_558002 HO_558008 BK557 HB hb; intro HO_558001 HO_558002 HO_558008 BK557 HB) | ((with_reducible refine gd_ 9 ?_); refine bx_ 9 35 #[iv_ 0, iv_ 0] ?_; intro gb565 hg w40 hbox hb; refine sh9_ (Kd.R_below (ra_ HO_558001) hb) (Kd.R_below (ra_ HO_558002) hb) (Kd.R_below (ra_ HO_558008) hb) (blk_below (bk_ BK557) hb) (below_step (bl1_ HB GE557) hb) hbox (ge_ hg (bl1_ HB GE557)) (nl_ hg (bk_ BK557)) (ng_ hg (bk_ BK557)) ?_; clear HO_558001 HO_558002 HO_558008 BK557 HB hb hbox hg; intro HO_558001 HO_558002 HO_558008 BK557 HB BK565 GE565 NB557_565 NB565_557; have hnb41 := NB565_557.out; have hnc41 := NB557_565.out; have hcz42 := cf2_ BK565; have hcz43 := cf10_ BK557) | ((with_reducible refine gate_callee (f := 13) rfl ?_); refine goesL_ (some 70) rfl rfl Try.func13 (by kernel_rfl) rfl #[.agg #[iv_ t538, .slice Ao11 t539.length co11, .slice Ao12 t542.length co12, iv_ t545, iv_ t546, iv_ t547, iv_ t548, iv_ t549, .slice Ao13 t550.length co13, iv_ t553], iv_ t555, iv_ t556] rfl mp_ ?_; (with_reducible refine (impl_NodeAt.calls t538 _ _ t539 _ _ t542 t545 t546 t547 t548 t549 _ _ t550 t553 t555 t556 t566 t567 _ ?side1 ?side2 ?side3 ?side4 ?side5 ?side6 A37.out).mono ?_); (case side1 => refine (Kd.R_reads' (e := 72) (base := w.heap.size) (ok := fun k_ => True) (n := t539.length) (c := co11) ?_).2.2; exact (by (with_reducible repeat (first | apply Kd.R_alloc | apply Kd.R_drewN | apply Kd.R_drew)); exact (Kd.R_mono (Kd.R_far (p := ⟨gb565, 1, none⟩) (Kd.R_far (p := ⟨gb565, 0, none⟩) (Kd.R_types HO_558001.out BK565.out (by decide)) (fun _ hk => hk.2) (iv_ t563)) (fun _ hk => hk.2) (iv_ t564)) (fun _ h_ => h_.1)))); (case side2 => exact (Kd.R_reads' HO_558001.out).2.1); (case side3 => refine (Kd.R_reads' (e := 74) (base := w.heap.size) (ok := fun k_ => True) (n := t542.length) (c := co12) ?_).2.2; exact (by (with_reducible repeat (first | apply Kd.R_alloc | apply Kd.R_drewN | apply Kd.R_drew)); exact (Kd.R_mono (Kd.R_far (p := ⟨gb565, 1, none⟩) (Kd.R_far (p := ⟨gb565, 0, none⟩) (Kd.R_types HO_558002.out BK565.out (by decide)) (fun _ hk => hk.2) (iv_ t563)) (fun _ hk => hk.2) (iv_ t564)) (fun _ h_ => h_.1)))); (case side4 => exact (Kd.R_reads' HO_558002.out).2.1); (case side5 => refine (Kd.R_reads' (e := 88) (base := w.heap.size) (ok := fun k_ => True) (n := t550.length) (c := co13) ?_).2.2; exact (by (with_reducible repeat (first | apply Kd.R_alloc | apply Kd.R_drewN | apply Kd.R_drew)); exact (Kd.R_mono (Kd.R_far (p := ⟨gb565, 1, none⟩) (Kd.R_far (p := ⟨gb565, 0, none⟩) (Kd.R_types HO_558008.out BK565.out (by decide)) (fun _ hk => hk.2) (iv_ t563)) (fun _ hk => hk.2) (iv_ t564)) (fun _ h_ => h_.1)))); (case side6 => exact (Kd.R_reads' HO_558008.out).2.1); rintro e w44 ⟨rfl, hb⟩; refine ⟨_, rfl, sh6_ (Kd.R_below (by (with_reducible repeat (first | apply Kd.R_alloc | apply Kd.R_drewN | apply Kd.R_drew)); exact (Kd.R_mono (Kd.R_far (p := ⟨gb565, 1, none⟩) (Kd.R_far (p := ⟨gb565, 0, none⟩) (Kd.R_types HO_558001.out BK565.out (by decide)) (fun _ hk => hk.2) (iv_ t563)) (fun _ hk => hk.2) (iv_ t564)) (fun _ h_ => h_.1))) hb) (Kd.R_below (by (with_reducible repeat (first | apply Kd.R_alloc | apply Kd.R_drewN | apply Kd.R_drew)); exact (Kd.R_mono (Kd.R_far (p := ⟨gb565, 1, none⟩) (Kd.R_far (p := ⟨gb565, 0, none⟩) (Kd.R_types HO_558002.out BK565.out (by decide)) (fun _ hk => hk.2) (iv_ t563)) (fun _ hk => hk.2) (iv_ t564)) (fun _ h_ => h_.1))) hb) (Kd.R_below (by (with_reducible repeat (first | apply Kd.R_alloc | apply Kd.R_drewN | apply Kd.R_drew)); exact (Kd.R_mono (Kd.R_far (p := ⟨gb565, 1, none⟩) (Kd.R_far (p := ⟨gb565, 0, none⟩) (Kd.R_types HO_558008.out BK565.out (by decide)) (fun _ hk => hk.2) (iv_ t563)) (fun _ hk => hk.2) (iv_ t564)) (fun _ h_ => h_.1))) hb) (blk_below (g := gb557) (o := .cells #[iv_ t538, .slice Ao11 t539.length co11, .slice Ao12 t542.length co12, iv_ t545, iv_ t546, iv_ t547, iv_ t548, iv_ t549, .slice Ao13 t550.length co13, iv_ t553] 28 (0, 0)) (bp_ BK557) hb) (blk_below (g := gb565) (o := .cells #[iv_ t563, iv_ t564] 35 (0, 0)) (bp_ BK565) hb) (below_step (bl2_ HB GE557 GE565) hb) ?_⟩; clear HO_558001 HO_558002 HO_558008 BK557 BK565 HB hb; intro HO_558001 HO_558002 HO_558008 BK557 BK565 HB) | ((with_reducible refine gd_ 10 ?_); refine bx_ 10 35 #[iv_ 0, iv_ 0] ?_; intro gb568 hg w45 hbox hb; refine sh12_ (Kd.R_below (ra_ HO_558001) hb) (Kd.R_below (ra_ HO_558002) hb) (Kd.R_below (ra_ HO_558008) hb) (blk_below (bk_ BK557) hb) (blk_below (bk_ BK565) hb) (below_step (bl2_ HB GE557 GE565) hb) hbox (ge_ hg (bl2_ HB GE557 GE565)) (nl_ hg (bk_ BK557)) (ng_ hg (bk_ BK557)) (nl_ hg (bk_ BK565)) (ng_ hg (bk_ BK565)) ?_; clear HO_558001 HO_558002 HO_558008 BK557 BK565 HB hb hbox hg; intro HO_558001 HO_558002 HO_558008 BK557 BK565 HB BK568 GE568 NB557_568 NB568_557 NB565_568 NB568_565; have hnb46 := NB568_557.out; have hnc46 := NB557_568.out; have hnb47 := NB568_565.out; have hnc47 := NB565_568.out; have hcz48 := cf2_ BK568))
     go_loopg [11] kj6 (fun kq v11 w' => ∃ (x11_2 : Int), v11 = iv_ x11_2 ∧ Aside0 (laws_FnSight.l0 kq l0 t558 t559 x11_2 t563 t564 t566 t567 = some true) ∧ Aside0 (kq ≤ kj6) ∧ Aside0 (Kd.R k72 72 w' w.heap.size (fun _ => True) (.slice Ao11 t539.length co11) t539) ∧ Aside0 (Kd.R k74 74 w' w.heap.size (fun _ => True) (.slice Ao12 t542.length co12) t542) ∧ Aside0 (Kd.R k88 88 w' w.heap.size (fun _ => True) (.slice Ao13 t550.length co13) t550) ∧ Aside0 (w'.heap[gb557]? = some (.cells #[iv_ t538, (.slice Ao11 t539.length co11), (.slice Ao12 t542.length co12), iv_ t545, iv_ t546, iv_ t547, iv_ t548, iv_ t549, (.slice Ao13 t550.length co13), iv_ t553] 28 (0, 0))) ∧ Aside0 (w'.heap[gb565]? = some (.cells #[iv_ t563, iv_ t564] 35 (0, 0))) ∧ Aside0 (w'.heap[gb568]? = some (.cells #[iv_ t566, iv_ t567] 35 (0, 0))) ∧ Aside0 (Below w.heap.size w w'))
     case atStart => exact ⟨(0), (by first | rfl | (simp; done) | (simp [*]; done)), H', ⟨Nat.le_refl _⟩, ⟨by (with_reducible repeat (first | apply Kd.R_alloc | apply Kd.R_drewN | apply Kd.R_drew)); exact Kd.R_mono (Kd.R_far (p := ⟨gb568, 1, none⟩) (Kd.R_far (p := ⟨gb568, 0, none⟩) (Kd.R_types HO_558001.out BK568.out (by decide)) (fun _ hk => hk.2) (iv_ t566)) (fun _ hk => hk.2) (iv_ t567)) (fun _ hk => trivial)⟩, ⟨by (with_reducible repeat (first | apply Kd.R_alloc | apply Kd.R_drewN | apply Kd.R_drew)); exact Kd.R_mono (Kd.R_far (p := ⟨gb568, 1, none⟩) (Kd.R_far (p := ⟨gb568, 0, none⟩) (Kd.R_types HO_558002.out BK568.out (by decide)) (fun _ hk => hk.2) (iv_ t566)) (fun _ hk => hk.2) (iv_ t567)) (fun _ hk => trivial)⟩, ⟨by (with_reducible repeat (first | apply Kd.R_alloc | apply Kd.R_drewN | apply Kd.R_drew)); exact Kd.R_mono (Kd.R_far (p := ⟨gb568, 1, none⟩) (Kd.R_far (p := ⟨gb568, 0, none⟩) (Kd.R_types HO_558008.out BK568.out (by decide)) (fun _ hk => hk.2) (iv_ t566)) (fun _ hk => hk.2) (iv_ t567)) (fun _ hk => trivial)⟩, ⟨by (with_reducible repeat (first | refine blk_drewN ?_ _ | refine blk_drew ?_ | refine blk_alloc ?_ _)); refine blk_far ?_ NB557_568.out _; (with_reducible repeat (first | refine blk_drewN ?_ _ | refine blk_drew ?_ | refine blk_alloc ?_ _)); refine blk_far ?_ NB557_568.out _; (with_reducible repeat (first | refine blk_drewN ?_ _ | refine blk_drew ?_ | refine blk_alloc ?_ _)); exact BK557.out⟩, ⟨by (with_reducible repeat (first | refine blk_drewN ?_ _ | refine blk_drew ?_ | refine blk_alloc ?_ _)); refine blk_far ?_ NB565_568.out _; (with_reducible repeat (first | refine blk_drewN ?_ _ | refine blk_drew ?_ | refine blk_alloc ?_ _)); refine blk_far ?_ NB565_568.out _; (with_reducible repeat (first | refine blk_drewN ?_ _ | refine blk_drew ?_ | refine blk_alloc ?_ _)); exact BK565.out⟩, ⟨by (with_reducible repeat (first | refine blk_drewN ?_ _ | refine blk_drew ?_ | refine blk_alloc ?_ _)); refine blk_put (cs := #[iv_ t566, iv_ 0]) ?_ 1 _ rfl; (with_reducible repeat (first | refine blk_drewN ?_ _ | refine blk_drew ?_ | refine blk_alloc ?_ _)); refine blk_put (cs := #[iv_ 0, iv_ 0]) ?_ 0 _ rfl; (with_reducible repeat (first | refine blk_drewN ?_ _ | refine blk_drew ?_ | refine blk_alloc ?_ _)); exact BK568.out⟩, ⟨bl3_ HB GE557 GE565 GE568⟩⟩
     case round =>
      clear H'
      obtain ⟨x11_2, rfl, HA, HK2, HO_558001, HO_558002, HO_558008, BK557, BK565, BK568, HB⟩ := hrel
      cases gk with
      | zero => exact absurd HA.out (by simp [laws_FnSight.l0])
      | succ k2 =>
       have H := HA.out
       clear HA
       simp only [laws_FnSight.l0] at H
       have HC49 := Aside0.mk H
       clear H
       go_upto_region 11 with (fail)
       go_cut [82] (fun v82 wc => ∃ (kq : Nat) (x82_48 : Bool), v82 = .bool x82_48 ∧ Aside0 (laws_FnSight.j2 kq l0 t558 t559 x11_2 x82_48 t563 t564 t566 t567 = some true) ∧ Aside0 (kq ≤ k2) ∧ Aside0 (Kd.R k72 72 wc w.heap.size (fun _ => True) (.slice Ao11 t539.length co11) t539) ∧ Aside0 (Kd.R k74 74 wc w.heap.size (fun _ => True) (.slice Ao12 t542.length co12) t542) ∧ Aside0 (Kd.R k88 88 wc w.heap.size (fun _ => True) (.slice Ao13 t550.length co13) t550) ∧ Aside0 (wc.heap[gb557]? = some (.cells #[iv_ t538, (.slice Ao11 t539.length co11), (.slice Ao12 t542.length co12), iv_ t545, iv_ t546, iv_ t547, iv_ t548, iv_ t549, (.slice Ao13 t550.length co13), iv_ t553] 28 (0, 0))) ∧ Aside0 (wc.heap[gb565]? = some (.cells #[iv_ t563, iv_ t564] 35 (0, 0))) ∧ Aside0 (wc.heap[gb568]? = some (.cells #[iv_ t566, iv_ t567] 35 (0, 0))) ∧ Aside0 (Below w.heap.size w wc))
       case first =>
        have H := HC49.out
        clear HC49
        by_cases c50 : x11_2 ≤ t564
        ·rw [if_pos c50] at H
         have c50b0 := decide_eq_true c50
         clear c50
         (first | rw [c50b0] | (simp only [i64_w, i32_w]; rw [c50b0]) | skip)
         by_cases c51 : t559 ≥ 0
         ·rw [if_pos c51] at H
          have c51b0 : decide (0 ≤ t559) = true := decide_eq_true c51
          clear c51
          have H' := Aside0.mk H
          clear H
          have hnb52 := NB565_557.out
          have hnc52 := NB557_565.out
          have hnb53 := NB565_568.out
          have hnc53 := NB568_565.out
          have hcz54 := cf2_ BK565
          go_wp2
          go_meet
          case rel => exact ⟨_, ((t558 != 1)), (by first | rfl | (simp; done) | (simp [*]; done)), H', ⟨by have := HJ6.out; have := HK2.out; first | omega | exact Nat.le_refl _⟩, ⟨ra_ HO_558001⟩, ⟨ra_ HO_558002⟩, ⟨ra_ HO_558008⟩, ⟨by (with_reducible repeat (first | refine blk_drewN ?_ _ | refine blk_drew ?_ | refine blk_alloc ?_ _)); exact BK557.out⟩, ⟨by (with_reducible repeat (first | refine blk_drewN ?_ _ | refine blk_drew ?_ | refine blk_alloc ?_ _)); exact BK565.out⟩, ⟨by (with_reducible repeat (first | refine blk_drewN ?_ _ | refine blk_drew ?_ | refine blk_alloc ?_ _)); exact BK568.out⟩, ⟨bl3_ HB GE557 GE565 GE568⟩⟩
         ·rw [if_neg c51] at H
          have c51b0 : decide (0 ≤ t559) = false := decide_eq_false c51
          clear c51
          have H' := Aside0.mk H
          clear H
          have hnb55 := NB565_557.out
          have hnc55 := NB557_565.out
          have hnb56 := NB565_568.out
          have hnc56 := NB568_565.out
          have hcz57 := cf2_ BK565
          go_wp2
          go_meet
          case rel => exact ⟨_, (false), (by first | rfl | (simp; done) | (simp [*]; done)), H', ⟨by have := HJ6.out; have := HK2.out; first | omega | exact Nat.le_refl _⟩, ⟨ra_ HO_558001⟩, ⟨ra_ HO_558002⟩, ⟨ra_ HO_558008⟩, ⟨by (with_reducible repeat (first | refine blk_drewN ?_ _ | refine blk_drew ?_ | refine blk_alloc ?_ _)); exact BK557.out⟩, ⟨by (with_reducible repeat (first | refine blk_drewN ?_ _ | refine blk_drew ?_ | refine blk_alloc ?_ _)); exact BK565.out⟩, ⟨by (with_reducible repeat (first | refine blk_drewN ?_ _ | refine blk_drew ?_ | refine blk_alloc ?_ _)); exact BK568.out⟩, ⟨bl3_ HB GE557 GE565 GE568⟩⟩
        ·rw [if_neg c50] at H
         have c50b0 := decide_eq_false c50
         clear c50
         (first | rw [c50b0] | (simp only [i64_w, i32_w]; rw [c50b0]) | skip)
         have H' := Aside0.mk H
         clear H
         have hnb58 := NB565_557.out
         have hnc58 := NB557_565.out
         have hnb59 := NB565_568.out
         have hnc59 := NB568_565.out
         have hcz60 := cf2_ BK565
         go_wp2
         go_meet
         case rel => exact ⟨_, (false), (by first | rfl | (simp; done) | (simp [*]; done)), H', ⟨by have := HJ6.out; have := HK2.out; first | omega | exact Nat.le_refl _⟩, ⟨ra_ HO_558001⟩, ⟨ra_ HO_558002⟩, ⟨ra_ HO_558008⟩, ⟨by (with_reducible repeat (first | refine blk_drewN ?_ _ | refine blk_drew ?_ | refine blk_alloc ?_ _)); exact BK557.out⟩, ⟨by (with_reducible repeat (first | refine blk_drewN ?_ _ | refine blk_drew ?_ | refine blk_alloc ?_ _)); exact BK565.out⟩, ⟨by (with_reducible repeat (first | refine blk_drewN ?_ _ | refine blk_drew ?_ | refine blk_alloc ?_ _)); exact BK568.out⟩, ⟨bl3_ HB GE557 GE565 GE568⟩⟩
       case rest =>
        clear HC49
        obtain ⟨kq, x82_48, rfl, HA, HJ48, HO_558001, HO_558002, HO_558008, BK557, BK565, BK568, HB⟩ := hcut
        cases kq with
        | zero => exact absurd HA.out (by simp [laws_FnSight.j2])
        | succ kj48 =>
         have H := HA.out
         clear HA
         simp only [laws_FnSight.j2] at H
         by_cases c61 : x82_48 = true
         ·subst c61
          try rw [if_pos rfl] at H
          have H' := Aside0.mk H
          clear H
          go_wp2
          go_loopg [12] kj48 (fun kq v12 w' => ∃ (x12_4 : Int), v12 = iv_ x12_4 ∧ Aside0 (laws_FnSight.l1 kq l0 t558 t559 x11_2 x12_4 t563 t564 t566 t567 = some true) ∧ Aside0 (kq ≤ kj48) ∧ Aside0 (Kd.R k72 72 w' w.heap.size (fun _ => True) (.slice Ao11 t539.length co11) t539) ∧ Aside0 (Kd.R k74 74 w' w.heap.size (fun _ => True) (.slice Ao12 t542.length co12) t542) ∧ Aside0 (Kd.R k88 88 w' w.heap.size (fun _ => True) (.slice Ao13 t550.length co13) t550) ∧ Aside0 (w'.heap[gb557]? = some (.cells #[iv_ t538, (.slice Ao11 t539.length co11), (.slice Ao12 t542.length co12), iv_ t545, iv_ t546, iv_ t547, iv_ t548, iv_ t549, (.slice Ao13 t550.length co13), iv_ t553] 28 (0, 0))) ∧ Aside0 (w'.heap[gb565]? = some (.cells #[iv_ t563, iv_ t564] 35 (0, 0))) ∧ Aside0 (w'.heap[gb568]? = some (.cells #[iv_ t566, iv_ t567] 35 (0, 0))) ∧ Aside0 (Below w.heap.size w w'))
          case atStart => exact ⟨(0), (by first | rfl | (simp; done) | (simp [*]; done)), H', ⟨Nat.le_refl _⟩, ⟨ra_ HO_558001⟩, ⟨ra_ HO_558002⟩, ⟨ra_ HO_558008⟩, ⟨by (with_reducible repeat (first | refine blk_drewN ?_ _ | refine blk_drew ?_ | refine blk_alloc ?_ _)); exact BK557.out⟩, ⟨by (with_reducible repeat (first | refine blk_drewN ?_ _ | refine blk_drew ?_ | refine blk_alloc ?_ _)); exact BK565.out⟩, ⟨by (with_reducible repeat (first | refine blk_drewN ?_ _ | refine blk_drew ?_ | refine blk_alloc ?_ _)); exact BK568.out⟩, ⟨bl3_ HB GE557 GE565 GE568⟩⟩
          case round =>
           clear H'
           obtain ⟨x12_4, rfl, HA, HK4, HO_558001, HO_558002, HO_558008, BK557, BK565, BK568, HB⟩ := hrel
           cases gk with
           | zero => exact absurd HA.out (by simp [laws_FnSight.l1])
           | succ k4 =>
            have H := HA.out
            clear HA
            simp only [laws_FnSight.l1] at H
            by_cases c62 : x12_4 ≤ t567
            ·rw [if_pos c62] at H
             have c62b0 := decide_eq_true c62
             clear c62
             replace H := bs_ H
             obtain ⟨t569, A63, H⟩ := H
             by_cases c64 : ((decide (t569 ≤ t559)) != (t558 == 2)) = true
             ·rw [if_pos c64] at H
              have c64b0 : ((decide (t569 ≤ t559)) != (t558 == 2)) = true := c64
              (try (have c64b1 : decide ((decide (t569 ≤ t559)) = (t558 == 2)) = false := by simpa using c64))
              (try (have c64b2 : ((decide (t569 ≤ t559)) == (t558 == 2)) = false := by simpa using c64))
              (try (have c64b3 : ¬ ((decide (t569 ≤ t559)) = (t558 == 2)) := by simpa using c64))
              clear c64
              exact absurd H (by simp)
             ·rw [if_neg c64] at H
              have c64b0 : ((decide (t569 ≤ t559)) != (t558 == 2)) = false := by simpa using c64
              (try (have c64b1 : decide ((decide (t569 ≤ t559)) = (t558 == 2)) = true := by simpa using c64))
              (try (have c64b2 : ((decide (t569 ≤ t559)) == (t558 == 2)) = true := by simpa using c64))
              clear c64
              have H' := Aside0.mk H
              clear H
              have hnb65 := NB568_557.out
              have hnc65 := NB557_568.out
              have hnb66 := NB568_565.out
              have hnc66 := NB565_568.out
              have hcz67 := cf2_ BK568
              have hnb68 := NB565_557.out
              have hnc68 := NB557_565.out
              have hcz69 := cf2_ BK565
              go_wp2_with (first | ((with_reducible refine gate_callee (f := 14) rfl ?_); refine gl_ 99 Try.func14 (impl_GapOf.calls (wrap64 (t563 + x11_2)) (wrap64 (t566 + x12_4)) t569 _ A63.out) ?_; rintro e w70 ⟨rfl, hb⟩; refine ⟨_, rfl, sh7_ (Kd.R_below (ra_ HO_558001) hb) (Kd.R_below (ra_ HO_558002) hb) (Kd.R_below (ra_ HO_558008) hb) (blk_below (bk_ BK557) hb) (blk_below (bk_ BK565) hb) (blk_below (bk_ BK568) hb) (below_step (bl3_ HB GE557 GE565 GE568) hb) ?_⟩; clear HO_558001 HO_558002 HO_558008 BK557 BK565 BK568 HB hb; intro HO_558001 HO_558002 HO_558008 BK557 BK565 BK568 HB))
              go_roundg k4
              case measure => have := HJ6.out; have := HK2.out; have := HJ48.out; have := HK4.out; omega
              case rel => exact ⟨(wrap64 (x12_4 + 1)), (by first | rfl | (simp; done) | (simp [*]; done)), H', ⟨by have := HJ6.out; have := HK2.out; have := HJ48.out; have := HK4.out; omega⟩, ⟨ra_ HO_558001⟩, ⟨ra_ HO_558002⟩, ⟨ra_ HO_558008⟩, ⟨by (with_reducible repeat (first | refine blk_drewN ?_ _ | refine blk_drew ?_ | refine blk_alloc ?_ _)); exact BK557.out⟩, ⟨by (with_reducible repeat (first | refine blk_drewN ?_ _ | refine blk_drew ?_ | refine blk_alloc ?_ _)); exact BK565.out⟩, ⟨by (with_reducible repeat (first | refine blk_drewN ?_ _ | refine blk_drew ?_ | refine blk_alloc ?_ _)); exact BK568.out⟩, ⟨bl3_ HB GE557 GE565 GE568⟩⟩
            ·rw [if_neg c62] at H
             have c62b0 := decide_eq_false c62
             clear c62
             have H' := Aside0.mk H
             clear H
             have hnb71 := NB568_557.out
             have hnc71 := NB557_568.out
             have hnb72 := NB568_565.out
             have hnc72 := NB565_568.out
             have hcz73 := cf2_ BK568
             go_wp2
             go_roundg k4
             case measure => have := HJ6.out; have := HK2.out; have := HJ48.out; have := HK4.out; omega
             case rel => exact ⟨(wrap64 (x11_2 + 1)), (by first | rfl | (simp; done) | (simp [*]; done)), H', ⟨by have := HJ6.out; have := HK2.out; have := HJ48.out; have := HK4.out; omega⟩, ⟨ra_ HO_558001⟩, ⟨ra_ HO_558002⟩, ⟨ra_ HO_558008⟩, ⟨by (with_reducible repeat (first | refine blk_drewN ?_ _ | refine blk_drew ?_ | refine blk_alloc ?_ _)); exact BK557.out⟩, ⟨by (with_reducible repeat (first | refine blk_drewN ?_ _ | refine blk_drew ?_ | refine blk_alloc ?_ _)); exact BK565.out⟩, ⟨by (with_reducible repeat (first | refine blk_drewN ?_ _ | refine blk_drew ?_ | refine blk_alloc ?_ _)); exact BK568.out⟩, ⟨bl3_ HB GE557 GE565 GE568⟩⟩
         ·replace c61 := Bool.eq_false_iff.mpr c61
          subst c61
          have H1 : ((spec_DrawSureWindows.f kj48 l0).bind fun bt570 => ((impl_SureWindows.f kj48 bt570.1 bt570.2.1 bt570.2.2.1 bt570.2.2.2.1 bt570.2.2.2.2.1 bt570.2.2.2.2.2.1 bt570.2.2.2.2.2.2.1 bt570.2.2.2.2.2.2.2.1 bt570.2.2.2.2.2.2.2.2.1 bt570.2.2.2.2.2.2.2.2.2.1 bt570.2.2.2.2.2.2.2.2.2.2.1 bt570.2.2.2.2.2.2.2.2.2.2.2.1 bt570.2.2.2.2.2.2.2.2.2.2.2.2.1 bt570.2.2.2.2.2.2.2.2.2.2.2.2.2).bind fun t591 => (laws_FnSight.l2 kj48 bt570.2.2.2.2.2.2.2.2.2.2.1 bt570.2.2.2.2.2.2.2.2.2.2.2.1 bt570.2.2.2.2.2.2.2.2.2.2.2.2.2 t591 bt570.2.2.2.2.2.2.2.2.2.2.2.2.1 bt570.1 bt570.2.1 bt570.2.2.1 bt570.2.2.2.1 bt570.2.2.2.2.1 bt570.2.2.2.2.2.1 bt570.2.2.2.2.2.2.1 bt570.2.2.2.2.2.2.2.1 bt570.2.2.2.2.2.2.2.2.1 bt570.2.2.2.2.2.2.2.2.2.1))) = some true := by first | (rw [if_neg (show ¬ (false = true) by decide)] at H; exact H) | rfl
          clear H
          have H := H1
          clear H1
          replace H := bs_ H
          obtain ⟨⟨t570, t571, t574, t577, t578, t579, t580, t581, t582, t585, t586, t587, t588, t589⟩, A74, H⟩ := H
          dsimp only at H
          replace H := bs_ H
          obtain ⟨t591, A75, H⟩ := H
          have H' := Aside0.mk H
          clear H
          go_wp2_with (first | ((with_reducible refine gate_callee (f := 15) rfl ?_); refine gl_ 107 Try.func15 (spec_DrawSureWindows.calls kj48 _ _ l0 t570 t571 t574 t577 t578 t579 t580 t581 t582 t585 t586 t587 t588 t589 _ (ck_ HR0 HB) HC0.out A74.out) ?_; rintro e w76 ⟨v572, v575, v583, rfl, ho0, ho1, ho2, hb⟩; refine ⟨_, rfl, sh10_ (Kd.R_elder' (ra_ HO_558001) (Kd.R_base ho0) hb) (Kd.R_elder' (ra_ HO_558002) (Kd.R_base ho1) hb) (Kd.R_elder' (ra_ HO_558008) (Kd.R_base ho2) hb) (Kd.R_lower (Kd.R_new' ho0 (Kd.R_lt (ra_ HO_558001))) (below_size (bl3_ HB GE557 GE565 GE568))) (Kd.R_lower (Kd.R_new' ho1 (Kd.R_lt (ra_ HO_558002))) (below_size (bl3_ HB GE557 GE565 GE568))) (Kd.R_lower (Kd.R_new' ho2 (Kd.R_lt (ra_ HO_558008))) (below_size (bl3_ HB GE557 GE565 GE568))) (blk_below (bk_ BK557) hb) (blk_below (bk_ BK565) hb) (blk_below (bk_ BK568) hb) (below_step (bl3_ HB GE557 GE565 GE568) hb) ?_⟩; clear HO_558001 HO_558002 HO_558008 BK557 BK565 BK568 HB hb ho0 ho1 ho2; intro HO_558001 HO_558002 HO_558008 HO573 HO576 HO584 BK557 BK565 BK568 HB) | ((with_reducible refine gd_ 13 ?_); refine bx_ 13 28 #[iv_ 0, .slice none 0 0, .slice none 0 0, iv_ 0, iv_ 0, iv_ 0, iv_ 0, iv_ 0, .slice none 0 0, iv_ 0] ?_; intro gb590 hg w77 hbox hb; refine sh18_ (Kd.R_below (ra_ HO_558001) hb) (Kd.R_below (ra_ HO_558002) hb) (Kd.R_below (ra_ HO_558008) hb) (Kd.R_below (ra_ HO573) hb) (Kd.R_below (ra_ HO576) hb) (Kd.R_below (ra_ HO584) hb) (blk_below (bk_ BK557) hb) (blk_below (bk_ BK565) hb) (blk_below (bk_ BK568) hb) (below_step (bl3_ HB GE557 GE565 GE568) hb) hbox (ge_ hg (bl3_ HB GE557 GE565 GE568)) (nl_ hg (bk_ BK557)) (ng_ hg (bk_ BK557)) (nl_ hg (bk_ BK565)) (ng_ hg (bk_ BK565)) (nl_ hg (bk_ BK568)) (ng_ hg (bk_ BK568)) ?_; clear HO_558001 HO_558002 HO_558008 HO573 HO576 HO584 BK557 BK565 BK568 HB hb hbox hg; intro HO_558001 HO_558002 HO_558008 HO573 HO576 HO584 BK557 BK565 BK568 HB BK590 GE590 NB557_590 NB590_557 NB565_590 NB590_565 NB568_590 NB590_568; have hnb78 := NB590_557.out; have hnc78 := NB557_590.out; have hnb79 := NB590_565.out; have hnc79 := NB565_590.out; have hnb80 := NB590_568.out; have hnc80 := NB568_590.out; have hcz81 := cf10_ BK590; obtain ⟨Ao82, co82, eo82⟩ := Kd.R_slice HO573.out; subst eo82; obtain ⟨Ao83, co83, eo83⟩ := Kd.R_slice HO576.out; subst eo83; obtain ⟨Ao84, co84, eo84⟩ := Kd.R_slice HO584.out; subst eo84) | ((with_reducible refine gate_callee (f := 16) rfl ?_); refine goesL_ (some 118) rfl rfl Try.func16 (by kernel_rfl) rfl #[.agg #[iv_ t570, .slice Ao82 t571.length co82, .slice Ao83 t574.length co83, iv_ t577, iv_ t578, iv_ t579, iv_ t580, iv_ t581, .slice Ao84 t582.length co84, iv_ t585], iv_ t586, iv_ t587, iv_ t588, iv_ t589] rfl mp_ ?_; (with_reducible refine (impl_SureWindows.calls kj48 t570 _ _ t571 _ _ t574 t577 t578 t579 t580 t581 _ _ t582 t585 t586 t587 t588 t589 t591 _ ?side1 ?side2 ?side3 ?side4 ?side5 ?side6 A75.out).mono ?_); (case side1 => refine (Kd.R_reads' (e := 72) (base := w.heap.size) (ok := fun k_ => (True ∧ some k_ ≠ (.slice Ao11 t539.length co11 : Value).ownBlock)) (n := t571.length) (c := co82) ?_).2.2; exact (by (with_reducible repeat (first | apply Kd.R_alloc | apply Kd.R_drewN | apply Kd.R_drew)); exact (Kd.R_mono (Kd.R_far (p := ⟨gb590, 9, none⟩) (Kd.R_far (p := ⟨gb590, 8, none⟩) (Kd.R_far (p := ⟨gb590, 7, none⟩) (Kd.R_far (p := ⟨gb590, 6, none⟩) (Kd.R_far (p := ⟨gb590, 5, none⟩) (Kd.R_far (p := ⟨gb590, 4, none⟩) (Kd.R_far (p := ⟨gb590, 3, none⟩) (Kd.R_far (p := ⟨gb590, 2, none⟩) (Kd.R_far (p := ⟨gb590, 1, none⟩) (Kd.R_far (p := ⟨gb590, 0, none⟩) (Kd.R_types HO573.out BK590.out (by decide)) (fun _ hk => hk.2) (iv_ t570)) (fun _ hk => hk.2) (.slice Ao82 t571.length co82)) (fun _ hk => hk.2) (.slice Ao83 t574.length co83)) (fun _ hk => hk.2) (iv_ t577)) (fun _ hk => hk.2) (iv_ t578)) (fun _ hk => hk.2) (iv_ t579)) (fun _ hk => hk.2) (iv_ t580)) (fun _ hk => hk.2) (iv_ t581)) (fun _ hk => hk.2) (.slice Ao84 t582.length co84)) (fun _ hk => hk.2) (iv_ t585)) (fun _ h_ => h_.1)))); (case side2 => exact (Kd.R_reads' HO573.out).2.1); (case side3 => refine (Kd.R_reads' (e := 74) (base := w.heap.size) (ok := fun k_ => (True ∧ some k_ ≠ (.slice Ao12 t542.length co12 : Value).ownBlock)) (n := t574.length) (c := co83) ?_).2.2; exact (by (with_reducible repeat (first | apply Kd.R_alloc | apply Kd.R_drewN | apply Kd.R_drew)); exact (Kd.R_mono (Kd.R_far (p := ⟨gb590, 9, none⟩) (Kd.R_far (p := ⟨gb590, 8, none⟩) (Kd.R_far (p := ⟨gb590, 7, none⟩) (Kd.R_far (p := ⟨gb590, 6, none⟩) (Kd.R_far (p := ⟨gb590, 5, none⟩) (Kd.R_far (p := ⟨gb590, 4, none⟩) (Kd.R_far (p := ⟨gb590, 3, none⟩) (Kd.R_far (p := ⟨gb590, 2, none⟩) (Kd.R_far (p := ⟨gb590, 1, none⟩) (Kd.R_far (p := ⟨gb590, 0, none⟩) (Kd.R_types HO576.out BK590.out (by decide)) (fun _ hk => hk.2) (iv_ t570)) (fun _ hk => hk.2) (.slice Ao82 t571.length co82)) (fun _ hk => hk.2) (.slice Ao83 t574.length co83)) (fun _ hk => hk.2) (iv_ t577)) (fun _ hk => hk.2) (iv_ t578)) (fun _ hk => hk.2) (iv_ t579)) (fun _ hk => hk.2) (iv_ t580)) (fun _ hk => hk.2) (iv_ t581)) (fun _ hk => hk.2) (.slice Ao84 t582.length co84)) (fun _ hk => hk.2) (iv_ t585)) (fun _ h_ => h_.1)))); (case side4 => exact (Kd.R_reads' HO576.out).2.1); (case side5 => refine (Kd.R_reads' (e := 88) (base := w.heap.size) (ok := fun k_ => (True ∧ some k_ ≠ (.slice Ao13 t550.length co13 : Value).ownBlock)) (n := t582.length) (c := co84) ?_).2.2; exact (by (with_reducible repeat (first | apply Kd.R_alloc | apply Kd.R_drewN | apply Kd.R_drew)); exact (Kd.R_mono (Kd.R_far (p := ⟨gb590, 9, none⟩) (Kd.R_far (p := ⟨gb590, 8, none⟩) (Kd.R_far (p := ⟨gb590, 7, none⟩) (Kd.R_far (p := ⟨gb590, 6, none⟩) (Kd.R_far (p := ⟨gb590, 5, none⟩) (Kd.R_far (p := ⟨gb590, 4, none⟩) (Kd.R_far (p := ⟨gb590, 3, none⟩) (Kd.R_far (p := ⟨gb590, 2, none⟩) (Kd.R_far (p := ⟨gb590, 1, none⟩) (Kd.R_far (p := ⟨gb590, 0, none⟩) (Kd.R_types HO584.out BK590.out (by decide)) (fun _ hk => hk.2) (iv_ t570)) (fun _ hk => hk.2) (.slice Ao82 t571.length co82)) (fun _ hk => hk.2) (.slice Ao83 t574.length co83)) (fun _ hk => hk.2) (iv_ t577)) (fun _ hk => hk.2) (iv_ t578)) (fun _ hk => hk.2) (iv_ t579)) (fun _ hk => hk.2) (iv_ t580)) (fun _ hk => hk.2) (iv_ t581)) (fun _ hk => hk.2) (.slice Ao84 t582.length co84)) (fun _ hk => hk.2) (iv_ t585)) (fun _ h_ => h_.1)))); (case side6 => exact (Kd.R_reads' HO584.out).2.1); rintro e w85 ⟨v592, rfl, ho0, hb⟩; refine ⟨_, rfl, sh12_ (Kd.R_below (by (with_reducible repeat (first | apply Kd.R_alloc | apply Kd.R_drewN | apply Kd.R_drew)); exact (Kd.R_mono (Kd.R_far (p := ⟨gb590, 9, none⟩) (Kd.R_far (p := ⟨gb590, 8, none⟩) (Kd.R_far (p := ⟨gb590, 7, none⟩) (Kd.R_far (p := ⟨gb590, 6, none⟩) (Kd.R_far (p := ⟨gb590, 5, none⟩) (Kd.R_far (p := ⟨gb590, 4, none⟩) (Kd.R_far (p := ⟨gb590, 3, none⟩) (Kd.R_far (p := ⟨gb590, 2, none⟩) (Kd.R_far (p := ⟨gb590, 1, none⟩) (Kd.R_far (p := ⟨gb590, 0, none⟩) (Kd.R_types HO_558001.out BK590.out (by decide)) (fun _ hk => hk.2) (iv_ t570)) (fun _ hk => hk.2) (.slice Ao82 t571.length co82)) (fun _ hk => hk.2) (.slice Ao83 t574.length co83)) (fun _ hk => hk.2) (iv_ t577)) (fun _ hk => hk.2) (iv_ t578)) (fun _ hk => hk.2) (iv_ t579)) (fun _ hk => hk.2) (iv_ t580)) (fun _ hk => hk.2) (iv_ t581)) (fun _ hk => hk.2) (.slice Ao84 t582.length co84)) (fun _ hk => hk.2) (iv_ t585)) (fun _ h_ => h_.1))) hb) (Kd.R_below (by (with_reducible repeat (first | apply Kd.R_alloc | apply Kd.R_drewN | apply Kd.R_drew)); exact (Kd.R_mono (Kd.R_far (p := ⟨gb590, 9, none⟩) (Kd.R_far (p := ⟨gb590, 8, none⟩) (Kd.R_far (p := ⟨gb590, 7, none⟩) (Kd.R_far (p := ⟨gb590, 6, none⟩) (Kd.R_far (p := ⟨gb590, 5, none⟩) (Kd.R_far (p := ⟨gb590, 4, none⟩) (Kd.R_far (p := ⟨gb590, 3, none⟩) (Kd.R_far (p := ⟨gb590, 2, none⟩) (Kd.R_far (p := ⟨gb590, 1, none⟩) (Kd.R_far (p := ⟨gb590, 0, none⟩) (Kd.R_types HO_558002.out BK590.out (by decide)) (fun _ hk => hk.2) (iv_ t570)) (fun _ hk => hk.2) (.slice Ao82 t571.length co82)) (fun _ hk => hk.2) (.slice Ao83 t574.length co83)) (fun _ hk => hk.2) (iv_ t577)) (fun _ hk => hk.2) (iv_ t578)) (fun _ hk => hk.2) (iv_ t579)) (fun _ hk => hk.2) (iv_ t580)) (fun _ hk => hk.2) (iv_ t581)) (fun _ hk => hk.2) (.slice Ao84 t582.length co84)) (fun _ hk => hk.2) (iv_ t585)) (fun _ h_ => h_.1))) hb) (Kd.R_below (by (with_reducible repeat (first | apply Kd.R_alloc | apply Kd.R_drewN | apply Kd.R_drew)); exact (Kd.R_mono (Kd.R_far (p := ⟨gb590, 9, none⟩) (Kd.R_far (p := ⟨gb590, 8, none⟩) (Kd.R_far (p := ⟨gb590, 7, none⟩) (Kd.R_far (p := ⟨gb590, 6, none⟩) (Kd.R_far (p := ⟨gb590, 5, none⟩) (Kd.R_far (p := ⟨gb590, 4, none⟩) (Kd.R_far (p := ⟨gb590, 3, none⟩) (Kd.R_far (p := ⟨gb590, 2, none⟩) (Kd.R_far (p := ⟨gb590, 1, none⟩) (Kd.R_far (p := ⟨gb590, 0, none⟩) (Kd.R_types HO_558008.out BK590.out (by decide)) (fun _ hk => hk.2) (iv_ t570)) (fun _ hk => hk.2) (.slice Ao82 t571.length co82)) (fun _ hk => hk.2) (.slice Ao83 t574.length co83)) (fun _ hk => hk.2) (iv_ t577)) (fun _ hk => hk.2) (iv_ t578)) (fun _ hk => hk.2) (iv_ t579)) (fun _ hk => hk.2) (iv_ t580)) (fun _ hk => hk.2) (iv_ t581)) (fun _ hk => hk.2) (.slice Ao84 t582.length co84)) (fun _ hk => hk.2) (iv_ t585)) (fun _ h_ => h_.1))) hb) (Kd.R_below (by (with_reducible repeat (first | apply Kd.R_alloc | apply Kd.R_drewN | apply Kd.R_drew)); exact (Kd.R_mono (Kd.R_far (p := ⟨gb590, 9, none⟩) (Kd.R_far (p := ⟨gb590, 8, none⟩) (Kd.R_far (p := ⟨gb590, 7, none⟩) (Kd.R_far (p := ⟨gb590, 6, none⟩) (Kd.R_far (p := ⟨gb590, 5, none⟩) (Kd.R_far (p := ⟨gb590, 4, none⟩) (Kd.R_far (p := ⟨gb590, 3, none⟩) (Kd.R_far (p := ⟨gb590, 2, none⟩) (Kd.R_far (p := ⟨gb590, 1, none⟩) (Kd.R_far (p := ⟨gb590, 0, none⟩) (Kd.R_types HO573.out BK590.out (by decide)) (fun _ hk => hk.2) (iv_ t570)) (fun _ hk => hk.2) (.slice Ao82 t571.length co82)) (fun _ hk => hk.2) (.slice Ao83 t574.length co83)) (fun _ hk => hk.2) (iv_ t577)) (fun _ hk => hk.2) (iv_ t578)) (fun _ hk => hk.2) (iv_ t579)) (fun _ hk => hk.2) (iv_ t580)) (fun _ hk => hk.2) (iv_ t581)) (fun _ hk => hk.2) (.slice Ao84 t582.length co84)) (fun _ hk => hk.2) (iv_ t585)) (fun _ h_ => h_.1))) hb) (Kd.R_below (by (with_reducible repeat (first | apply Kd.R_alloc | apply Kd.R_drewN | apply Kd.R_drew)); exact (Kd.R_mono (Kd.R_far (p := ⟨gb590, 9, none⟩) (Kd.R_far (p := ⟨gb590, 8, none⟩) (Kd.R_far (p := ⟨gb590, 7, none⟩) (Kd.R_far (p := ⟨gb590, 6, none⟩) (Kd.R_far (p := ⟨gb590, 5, none⟩) (Kd.R_far (p := ⟨gb590, 4, none⟩) (Kd.R_far (p := ⟨gb590, 3, none⟩) (Kd.R_far (p := ⟨gb590, 2, none⟩) (Kd.R_far (p := ⟨gb590, 1, none⟩) (Kd.R_far (p := ⟨gb590, 0, none⟩) (Kd.R_types HO576.out BK590.out (by decide)) (fun _ hk => hk.2) (iv_ t570)) (fun _ hk => hk.2) (.slice Ao82 t571.length co82)) (fun _ hk => hk.2) (.slice Ao83 t574.length co83)) (fun _ hk => hk.2) (iv_ t577)) (fun _ hk => hk.2) (iv_ t578)) (fun _ hk => hk.2) (iv_ t579)) (fun _ hk => hk.2) (iv_ t580)) (fun _ hk => hk.2) (iv_ t581)) (fun _ hk => hk.2) (.slice Ao84 t582.length co84)) (fun _ hk => hk.2) (iv_ t585)) (fun _ h_ => h_.1))) hb) (Kd.R_below (by (with_reducible repeat (first | apply Kd.R_alloc | apply Kd.R_drewN | apply Kd.R_drew)); exact (Kd.R_mono (Kd.R_far (p := ⟨gb590, 9, none⟩) (Kd.R_far (p := ⟨gb590, 8, none⟩) (Kd.R_far (p := ⟨gb590, 7, none⟩) (Kd.R_far (p := ⟨gb590, 6, none⟩) (Kd.R_far (p := ⟨gb590, 5, none⟩) (Kd.R_far (p := ⟨gb590, 4, none⟩) (Kd.R_far (p := ⟨gb590, 3, none⟩) (Kd.R_far (p := ⟨gb590, 2, none⟩) (Kd.R_far (p := ⟨gb590, 1, none⟩) (Kd.R_far (p := ⟨gb590, 0, none⟩) (Kd.R_types HO584.out BK590.out (by decide)) (fun _ hk => hk.2) (iv_ t570)) (fun _ hk => hk.2) (.slice Ao82 t571.length co82)) (fun _ hk => hk.2) (.slice Ao83 t574.length co83)) (fun _ hk => hk.2) (iv_ t577)) (fun _ hk => hk.2) (iv_ t578)) (fun _ hk => hk.2) (iv_ t579)) (fun _ hk => hk.2) (iv_ t580)) (fun _ hk => hk.2) (iv_ t581)) (fun _ hk => hk.2) (.slice Ao84 t582.length co84)) (fun _ hk => hk.2) (iv_ t585)) (fun _ h_ => h_.1))) hb) (Kd.R_lower ho0 (below_size (by repeat (first | (with_reducible first | exact HB.out | apply below_alloc | apply pw_below_drewN | apply below_drew1 | refine below_set ?_ GE557.out | refine below_set ?_ GE565.out | refine below_set ?_ GE568.out | refine below_set ?_ GE590.out) | exact HB.out)))) (blk_below (g := gb557) (o := .cells #[iv_ t538, .slice Ao11 t539.length co11, .slice Ao12 t542.length co12, iv_ t545, iv_ t546, iv_ t547, iv_ t548, iv_ t549, .slice Ao13 t550.length co13, iv_ t553] 28 (0, 0)) (bp_ BK557) hb) (blk_below (g := gb565) (o := .cells #[iv_ t563, iv_ t564] 35 (0, 0)) (bp_ BK565) hb) (blk_below (g := gb568) (o := .cells #[iv_ t566, iv_ t567] 35 (0, 0)) (bp_ BK568) hb) (blk_below (g := gb590) (o := .cells #[iv_ t570, .slice Ao82 t571.length co82, .slice Ao83 t574.length co83, iv_ t577, iv_ t578, iv_ t579, iv_ t580, iv_ t581, .slice Ao84 t582.length co84, iv_ t585] 28 (0, 0)) (bp_ BK590) hb) (below_step (by repeat (first | (with_reducible first | exact HB.out | apply below_alloc | apply pw_below_drewN | apply below_drew1 | refine below_set ?_ GE557.out | refine below_set ?_ GE565.out | refine below_set ?_ GE568.out | refine below_set ?_ GE590.out) | exact HB.out)) hb) ?_⟩; clear HO_558001 HO_558002 HO_558008 HO573 HO576 HO584 BK557 BK565 BK568 BK590 HB hb ho0; intro HO_558001 HO_558002 HO_558008 HO573 HO576 HO584 HO593 BK557 BK565 BK568 BK590 HB))
          go_loopg [19] kj48 (fun kq v19 w' => ∃ (x19_4 : Int), v19 = iv_ x19_4 ∧ Aside0 (laws_FnSight.l2 kq t586 t587 t589 t591 x19_4 t570 t571 t574 t577 t578 t579 t580 t581 t582 t585 = some true) ∧ Aside0 (kq ≤ kj48) ∧ Aside0 (Kd.R k82 82 w' w.heap.size (fun _ => True) v592 t591) ∧ Aside0 (Kd.R k72 72 w' w.heap.size (fun k_ => some k_ ≠ ((.slice Ao82 t571.length co82) : Value).ownBlock) (.slice Ao11 t539.length co11) t539) ∧ Aside0 (Kd.R k74 74 w' w.heap.size (fun k_ => some k_ ≠ ((.slice Ao83 t574.length co83) : Value).ownBlock) (.slice Ao12 t542.length co12) t542) ∧ Aside0 (Kd.R k88 88 w' w.heap.size (fun k_ => some k_ ≠ ((.slice Ao84 t582.length co84) : Value).ownBlock) (.slice Ao13 t550.length co13) t550) ∧ Aside0 (Kd.R k72 72 w' w.heap.size (fun k_ => some k_ ≠ ((.slice Ao11 t539.length co11) : Value).ownBlock) (.slice Ao82 t571.length co82) t571) ∧ Aside0 (Kd.R k74 74 w' w.heap.size (fun k_ => some k_ ≠ ((.slice Ao12 t542.length co12) : Value).ownBlock) (.slice Ao83 t574.length co83) t574) ∧ Aside0 (Kd.R k88 88 w' w.heap.size (fun k_ => some k_ ≠ ((.slice Ao13 t550.length co13) : Value).ownBlock) (.slice Ao84 t582.length co84) t582) ∧ Aside0 (w'.heap[gb557]? = some (.cells #[iv_ t538, (.slice Ao11 t539.length co11), (.slice Ao12 t542.length co12), iv_ t545, iv_ t546, iv_ t547, iv_ t548, iv_ t549, (.slice Ao13 t550.length co13), iv_ t553] 28 (0, 0))) ∧ Aside0 (w'.heap[gb565]? = some (.cells #[iv_ t563, iv_ t564] 35 (0, 0))) ∧ Aside0 (w'.heap[gb568]? = some (.cells #[iv_ t566, iv_ t567] 35 (0, 0))) ∧ Aside0 (w'.heap[gb590]? = some (.cells #[iv_ t570, (.slice Ao82 t571.length co82), (.slice Ao83 t574.length co83), iv_ t577, iv_ t578, iv_ t579, iv_ t580, iv_ t581, (.slice Ao84 t582.length co84), iv_ t585] 28 (0, 0))) ∧ Aside0 (Below w.heap.size w w'))
          case atStart => exact ⟨(t588), (by first | rfl | (simp; done) | (simp [*]; done)), H', ⟨Nat.le_refl _⟩, ⟨ra_ HO593⟩, ⟨by (with_reducible repeat (first | apply Kd.R_alloc | apply Kd.R_drewN | apply Kd.R_drew)); exact Kd.R_mono HO_558001.out (fun _ hk => hk.2)⟩, ⟨by (with_reducible repeat (first | apply Kd.R_alloc | apply Kd.R_drewN | apply Kd.R_drew)); exact Kd.R_mono HO_558002.out (fun _ hk => hk.2)⟩, ⟨by (with_reducible repeat (first | apply Kd.R_alloc | apply Kd.R_drewN | apply Kd.R_drew)); exact Kd.R_mono HO_558008.out (fun _ hk => hk.2)⟩, ⟨by (with_reducible repeat (first | apply Kd.R_alloc | apply Kd.R_drewN | apply Kd.R_drew)); exact Kd.R_mono HO573.out (fun _ hk => hk.2)⟩, ⟨by (with_reducible repeat (first | apply Kd.R_alloc | apply Kd.R_drewN | apply Kd.R_drew)); exact Kd.R_mono HO576.out (fun _ hk => hk.2)⟩, ⟨by (with_reducible repeat (first | apply Kd.R_alloc | apply Kd.R_drewN | apply Kd.R_drew)); exact Kd.R_mono HO584.out (fun _ hk => hk.2)⟩, ⟨by (with_reducible repeat (first | refine blk_drewN ?_ _ | refine blk_drew ?_ | refine blk_alloc ?_ _)); exact BK557.out⟩, ⟨by (with_reducible repeat (first | refine blk_drewN ?_ _ | refine blk_drew ?_ | refine blk_alloc ?_ _)); exact BK565.out⟩, ⟨by (with_reducible repeat (first | refine blk_drewN ?_ _ | refine blk_drew ?_ | refine blk_alloc ?_ _)); exact BK568.out⟩, ⟨by (with_reducible repeat (first | refine blk_drewN ?_ _ | refine blk_drew ?_ | refine blk_alloc ?_ _)); exact BK590.out⟩, ⟨by repeat (first | (with_reducible first | exact HB.out | apply below_alloc | apply pw_below_drewN | apply below_drew1 | refine below_set ?_ GE557.out | refine below_set ?_ GE565.out | refine below_set ?_ GE568.out | refine below_set ?_ GE590.out) | exact HB.out)⟩⟩
          case round =>
           clear H'
           obtain ⟨x19_4, rfl, HA, HK4, HO_18, HO_558001, HO_558002, HO_558008, HO_591001, HO_591002, HO_591008, BK557, BK565, BK568, BK590, HB⟩ := hrel
           cases gk with
           | zero => exact absurd HA.out (by simp [laws_FnSight.l2])
           | succ k4 =>
            have H := HA.out
            clear HA
            simp only [laws_FnSight.l2] at H
            by_cases c86 : x19_4 < t589
            ·rw [if_pos c86] at H
             have c86b0 := decide_eq_true c86
             clear c86
             replace H := bs_ H
             obtain ⟨t594, A87, H⟩ := H
             by_cases c88 : x19_4 ≥ 0
             ·rw [if_pos c88] at H
              have c88b0 : decide (0 ≤ x19_4) = true := decide_eq_true c88
              clear c88
              by_cases c89 : x19_4 < 1000
              ·rw [if_pos c89] at H
               have c89b0 := decide_eq_true c89
               clear c89
               replace H := bs_ H
               obtain ⟨t595, A90, H⟩ := H
               by_cases c91 : (t594 != t595) = true
               ·rw [if_pos c91] at H
                have c91b0 : (t594 != t595) = true := c91
                (try (have c91b1 : decide (t594 = t595) = false := by simpa using c91))
                (try (have c91b2 : (t594 == t595) = false := by simpa using c91))
                (try (have c91b3 : ¬ (t594 = t595) := by simpa using c91))
                clear c91
                exact absurd H (by simp)
               ·rw [if_neg c91] at H
                have c91b0 : (t594 != t595) = false := by simpa using c91
                (try (have c91b1 : decide (t594 = t595) = true := by simpa using c91))
                (try (have c91b2 : (t594 == t595) = true := by simpa using c91))
                clear c91
                have H' := Aside0.mk H
                clear H
                obtain ⟨Ao92, co92, eo92⟩ := Kd.R_slice HO_18.out
                subst eo92
                go_wp2_with (first | ((with_reducible refine gate_callee (f := 17) rfl ?_); refine gl_ 127 Try.func17 (impl_InSpans.calls k4 _ _ t591 x19_4 t594 _ (cr_ HO_18) (rl_ HO_18) A87.out) ?_; rintro e w93 ⟨rfl, hb⟩; refine ⟨_, rfl, sh12_ (Kd.R_below (ra_ HO_18) hb) (Kd.R_below (ra_ HO_558001) hb) (Kd.R_below (ra_ HO_558002) hb) (Kd.R_below (ra_ HO_558008) hb) (Kd.R_below (ra_ HO_591001) hb) (Kd.R_below (ra_ HO_591002) hb) (Kd.R_below (ra_ HO_591008) hb) (blk_below (bk_ BK557) hb) (blk_below (bk_ BK565) hb) (blk_below (bk_ BK568) hb) (blk_below (bk_ BK590) hb) (below_step (by repeat (first | (with_reducible first | exact HB.out | apply below_alloc | apply pw_below_drewN | apply below_drew1 | refine below_set ?_ GE557.out | refine below_set ?_ GE565.out | refine below_set ?_ GE568.out | refine below_set ?_ GE590.out) | exact HB.out)) hb) ?_⟩; clear HO_18 HO_558001 HO_558002 HO_558008 HO_591001 HO_591002 HO_591008 BK557 BK565 BK568 BK590 HB hb; intro HO_18 HO_558001 HO_558002 HO_558008 HO_591001 HO_591002 HO_591008 BK557 BK565 BK568 BK590 HB; have hnb94 := NB590_557.out; have hnc94 := NB557_590.out; have hnb95 := NB590_565.out; have hnc95 := NB565_590.out; have hnb96 := NB590_568.out; have hnc96 := NB568_590.out; have hcz97 := cf10_ BK590) | (go_at_call 12; (with_reducible refine (impl_IsSure.calls k4 t570 _ _ t571 _ _ t574 t577 t578 t579 t580 t581 _ _ t582 t585 t586 t587 x19_4 t595 _ ?side1 ?side2 ?side3 ?side4 ?side5 ?side6 A90.out).mono ?_); (case side1 => repeat (first | exact (Kd.R_reads' HO_591001.out).2.2 | (with_reducible refine Kd.C_alloc ?_ _) | (with_reducible refine Kd.C_drewN ?_ _) | (with_reducible refine Kd.C_drew ?_))); (case side2 => exact (Kd.R_reads' HO_591001.out).2.1); (case side3 => repeat (first | exact (Kd.R_reads' HO_591002.out).2.2 | (with_reducible refine Kd.C_alloc ?_ _) | (with_reducible refine Kd.C_drewN ?_ _) | (with_reducible refine Kd.C_drew ?_))); (case side4 => exact (Kd.R_reads' HO_591002.out).2.1); (case side5 => repeat (first | exact (Kd.R_reads' HO_591008.out).2.2 | (with_reducible refine Kd.C_alloc ?_ _) | (with_reducible refine Kd.C_drewN ?_ _) | (with_reducible refine Kd.C_drew ?_))); (case side6 => exact (Kd.R_reads' HO_591008.out).2.1); rintro e w98 ⟨rfl, hb⟩; refine sh12_ (Kd.R_below (ra_ HO_18) hb) (Kd.R_below (ra_ HO_558001) hb) (Kd.R_below (ra_ HO_558002) hb) (Kd.R_below (ra_ HO_558008) hb) (Kd.R_below (ra_ HO_591001) hb) (Kd.R_below (ra_ HO_591002) hb) (Kd.R_below (ra_ HO_591008) hb) (blk_below (bk_ BK557) hb) (blk_below (bk_ BK565) hb) (blk_below (bk_ BK568) hb) (blk_below (bk_ BK590) hb) (below_step (by repeat (first | (with_reducible first | exact HB.out | apply below_alloc | apply pw_below_drewN | apply below_drew1 | refine below_set ?_ GE557.out | refine below_set ?_ GE565.out | refine below_set ?_ GE568.out | refine below_set ?_ GE590.out) | exact HB.out)) hb) ?_; clear HO_18 HO_558001 HO_558002 HO_558008 HO_591001 HO_591002 HO_591008 BK557 BK565 BK568 BK590 HB hb; intro HO_18 HO_558001 HO_558002 HO_558008 HO_591001 HO_591002 HO_591008 BK557 BK565 BK568 BK590 HB))
                go_roundg k4
                case measure => have := HJ6.out; have := HK2.out; have := HJ48.out; have := HK4.out; omega
                case rel => exact ⟨(wrap64 (x19_4 + 1)), (by first | rfl | (simp; done) | (simp [*]; done)), H', ⟨by have := HJ6.out; have := HK2.out; have := HJ48.out; have := HK4.out; omega⟩, ⟨ra_ HO_18⟩, ⟨ra_ HO_558001⟩, ⟨ra_ HO_558002⟩, ⟨ra_ HO_558008⟩, ⟨ra_ HO_591001⟩, ⟨ra_ HO_591002⟩, ⟨ra_ HO_591008⟩, ⟨by (with_reducible repeat (first | refine blk_drewN ?_ _ | refine blk_drew ?_ | refine blk_alloc ?_ _)); exact BK557.out⟩, ⟨by (with_reducible repeat (first | refine blk_drewN ?_ _ | refine blk_drew ?_ | refine blk_alloc ?_ _)); exact BK565.out⟩, ⟨by (with_reducible repeat (first | refine blk_drewN ?_ _ | refine blk_drew ?_ | refine blk_alloc ?_ _)); exact BK568.out⟩, ⟨by (with_reducible repeat (first | refine blk_drewN ?_ _ | refine blk_drew ?_ | refine blk_alloc ?_ _)); exact BK590.out⟩, ⟨by repeat (first | (with_reducible first | exact HB.out | apply below_alloc | apply pw_below_drewN | apply below_drew1 | refine below_set ?_ GE557.out | refine below_set ?_ GE565.out | refine below_set ?_ GE568.out | refine below_set ?_ GE590.out) | exact HB.out)⟩⟩
              ·rw [if_neg c89] at H
               have c89b0 := decide_eq_false c89
               clear c89
               by_cases c99 : (t594 != false) = true
               ·rw [if_pos c99] at H
                have c99b0 : (t594 != false) = true := c99
                (try (have c99b1 : decide (t594 = false) = false := by simpa using c99))
                (try (have c99b2 : (t594 == false) = false := by simpa using c99))
                (try (have c99b3 : ¬ (t594 = false) := by simpa using c99))
                clear c99
                exact absurd H (by simp)
               ·rw [if_neg c99] at H
                have c99b0 : (t594 != false) = false := by simpa using c99
                (try (have c99b1 : decide (t594 = false) = true := by simpa using c99))
                (try (have c99b2 : (t594 == false) = true := by simpa using c99))
                clear c99
                have H' := Aside0.mk H
                clear H
                obtain ⟨Ao100, co100, eo100⟩ := Kd.R_slice HO_18.out
                subst eo100
                go_wp2_with (first | ((with_reducible refine gate_callee (f := 17) rfl ?_); refine gl_ 127 Try.func17 (impl_InSpans.calls k4 _ _ t591 x19_4 t594 _ (cr_ HO_18) (rl_ HO_18) A87.out) ?_; rintro e w101 ⟨rfl, hb⟩; refine ⟨_, rfl, sh12_ (Kd.R_below (ra_ HO_18) hb) (Kd.R_below (ra_ HO_558001) hb) (Kd.R_below (ra_ HO_558002) hb) (Kd.R_below (ra_ HO_558008) hb) (Kd.R_below (ra_ HO_591001) hb) (Kd.R_below (ra_ HO_591002) hb) (Kd.R_below (ra_ HO_591008) hb) (blk_below (bk_ BK557) hb) (blk_below (bk_ BK565) hb) (blk_below (bk_ BK568) hb) (blk_below (bk_ BK590) hb) (below_step (by repeat (first | (with_reducible first | exact HB.out | apply below_alloc | apply pw_below_drewN | apply below_drew1 | refine below_set ?_ GE557.out | refine below_set ?_ GE565.out | refine below_set ?_ GE568.out | refine below_set ?_ GE590.out) | exact HB.out)) hb) ?_⟩; clear HO_18 HO_558001 HO_558002 HO_558008 HO_591001 HO_591002 HO_591008 BK557 BK565 BK568 BK590 HB hb; intro HO_18 HO_558001 HO_558002 HO_558008 HO_591001 HO_591002 HO_591008 BK557 BK565 BK568 BK590 HB))
                go_roundg k4
                case measure => have := HJ6.out; have := HK2.out; have := HJ48.out; have := HK4.out; omega
                case rel => exact ⟨(wrap64 (x19_4 + 1)), (by first | rfl | (simp; done) | (simp [*]; done)), H', ⟨by have := HJ6.out; have := HK2.out; have := HJ48.out; have := HK4.out; omega⟩, ⟨ra_ HO_18⟩, ⟨ra_ HO_558001⟩, ⟨ra_ HO_558002⟩, ⟨ra_ HO_558008⟩, ⟨ra_ HO_591001⟩, ⟨ra_ HO_591002⟩, ⟨ra_ HO_591008⟩, ⟨by (with_reducible repeat (first | refine blk_drewN ?_ _ | refine blk_drew ?_ | refine blk_alloc ?_ _)); exact BK557.out⟩, ⟨by (with_reducible repeat (first | refine blk_drewN ?_ _ | refine blk_drew ?_ | refine blk_alloc ?_ _)); exact BK565.out⟩, ⟨by (with_reducible repeat (first | refine blk_drewN ?_ _ | refine blk_drew ?_ | refine blk_alloc ?_ _)); exact BK568.out⟩, ⟨by (with_reducible repeat (first | refine blk_drewN ?_ _ | refine blk_drew ?_ | refine blk_alloc ?_ _)); exact BK590.out⟩, ⟨by repeat (first | (with_reducible first | exact HB.out | apply below_alloc | apply pw_below_drewN | apply below_drew1 | refine below_set ?_ GE557.out | refine below_set ?_ GE565.out | refine below_set ?_ GE568.out | refine below_set ?_ GE590.out) | exact HB.out)⟩⟩
             ·rw [if_neg c88] at H
              have c88b0 : decide (0 ≤ x19_4) = false := decide_eq_false c88
              clear c88
              by_cases c102 : (t594 != false) = true
              ·rw [if_pos c102] at H
               have c102b0 : (t594 != false) = true := c102
               (try (have c102b1 : decide (t594 = false) = false := by simpa using c102))
               (try (have c102b2 : (t594 == false) = false := by simpa using c102))
               (try (have c102b3 : ¬ (t594 = false) := by simpa using c102))
               clear c102
               exact absurd H (by simp)
              ·rw [if_neg c102] at H
               have c102b0 : (t594 != false) = false := by simpa using c102
               (try (have c102b1 : decide (t594 = false) = true := by simpa using c102))
               (try (have c102b2 : (t594 == false) = true := by simpa using c102))
               clear c102
               have H' := Aside0.mk H
               clear H
               obtain ⟨Ao103, co103, eo103⟩ := Kd.R_slice HO_18.out
               subst eo103
               go_wp2_with (first | ((with_reducible refine gate_callee (f := 17) rfl ?_); refine gl_ 127 Try.func17 (impl_InSpans.calls k4 _ _ t591 x19_4 t594 _ (cr_ HO_18) (rl_ HO_18) A87.out) ?_; rintro e w104 ⟨rfl, hb⟩; refine ⟨_, rfl, sh12_ (Kd.R_below (ra_ HO_18) hb) (Kd.R_below (ra_ HO_558001) hb) (Kd.R_below (ra_ HO_558002) hb) (Kd.R_below (ra_ HO_558008) hb) (Kd.R_below (ra_ HO_591001) hb) (Kd.R_below (ra_ HO_591002) hb) (Kd.R_below (ra_ HO_591008) hb) (blk_below (bk_ BK557) hb) (blk_below (bk_ BK565) hb) (blk_below (bk_ BK568) hb) (blk_below (bk_ BK590) hb) (below_step (by repeat (first | (with_reducible first | exact HB.out | apply below_alloc | apply pw_below_drewN | apply below_drew1 | refine below_set ?_ GE557.out | refine below_set ?_ GE565.out | refine below_set ?_ GE568.out | refine below_set ?_ GE590.out) | exact HB.out)) hb) ?_⟩; clear HO_18 HO_558001 HO_558002 HO_558008 HO_591001 HO_591002 HO_591008 BK557 BK565 BK568 BK590 HB hb; intro HO_18 HO_558001 HO_558002 HO_558008 HO_591001 HO_591002 HO_591008 BK557 BK565 BK568 BK590 HB))
               go_roundg k4
               case measure => have := HJ6.out; have := HK2.out; have := HJ48.out; have := HK4.out; omega
               case rel => exact ⟨(wrap64 (x19_4 + 1)), (by first | rfl | (simp; done) | (simp [*]; done)), H', ⟨by have := HJ6.out; have := HK2.out; have := HJ48.out; have := HK4.out; omega⟩, ⟨ra_ HO_18⟩, ⟨ra_ HO_558001⟩, ⟨ra_ HO_558002⟩, ⟨ra_ HO_558008⟩, ⟨ra_ HO_591001⟩, ⟨ra_ HO_591002⟩, ⟨ra_ HO_591008⟩, ⟨by (with_reducible repeat (first | refine blk_drewN ?_ _ | refine blk_drew ?_ | refine blk_alloc ?_ _)); exact BK557.out⟩, ⟨by (with_reducible repeat (first | refine blk_drewN ?_ _ | refine blk_drew ?_ | refine blk_alloc ?_ _)); exact BK565.out⟩, ⟨by (with_reducible repeat (first | refine blk_drewN ?_ _ | refine blk_drew ?_ | refine blk_alloc ?_ _)); exact BK568.out⟩, ⟨by (with_reducible repeat (first | refine blk_drewN ?_ _ | refine blk_drew ?_ | refine blk_alloc ?_ _)); exact BK590.out⟩, ⟨by repeat (first | (with_reducible first | exact HB.out | apply below_alloc | apply pw_below_drewN | apply below_drew1 | refine below_set ?_ GE557.out | refine below_set ?_ GE565.out | refine below_set ?_ GE568.out | refine below_set ?_ GE590.out) | exact HB.out)⟩⟩
            ·rw [if_neg c86] at H
             have c86b0 : decide (x19_4 < t589) = false := decide_eq_false c86
             clear c86
             clear H
             go_wp2
             go_ret
             exact ⟨by first | (rw [hRT_.out]; rfl) | exact er_, by repeat (first | (with_reducible first | exact HB.out | apply below_alloc | apply pw_below_drewN | apply below_drew1 | refine below_set ?_ GE557.out | refine below_set ?_ GE565.out | refine below_set ?_ GE568.out | refine below_set ?_ GE590.out) | exact HB.out)⟩

/-- THE ONE PURE STATEMENT of laws_FnSight: yours. -/
def laws_FnSight.Pure : Prop := ∀ (l0 : List Int), l0.length ≤ maxLen → l0.length * 1 ≤ 140737488351232 → (∀ x ∈ l0, (Lit.int .u8 x).wf = true) → ∃ k, laws_FnSight.f k l0 = some true
theorem laws_FnSight.walk (P : laws_FnSight.Pure) (a0 : Option Addr) (len0 cap0 : Nat) (z0 : List Int) (w : World) (w0 : (a0 = none ∧ len0 = 0 ∧ cap0 = 0 ∧ z0 = []) ∨ ∃ x, a0 = some x ∧ len0 ≤ cap0 ∧ cap0 ≤ maxLen ∧ z0.length = cap0 ∧ (∀ i, i < z0.length → w.cell? (x.add i) = some (.int .u8 (z0.getD i 0))) ∧ ∀ n ∈ z0, (Lit.int .u8 n).wf = true) (y0 : len0 * 1 ≤ 140737488351232) :
  Calls Try.prog 3 #[.slice a0 len0 cap0] w fun e w' => e = .returned (.bool true) ∧ Below w.heap.size w w' := by
 obtain ⟨l0, rfl, hr0, hm0, hw0, hc0⟩ := ReadsInt.ofRowC w0
 obtain ⟨k, h⟩ := P l0 hm0 y0 hw0
 refine (laws_FnSight.calls k _ _ l0 true w (Kd.C_of_reads (d := (0 : Int)) (h1 := fun _ => rfl) hr0) hc0 h).mono ?_
 rintro e w' ⟨rfl, hd⟩
 exact ⟨rfl, hd⟩

end Go.Proofs.Ytopbkdcicidajaa.PFnSight
