-- Written by a program of this session for this claim (the kit's printer with changes).
import Derived.Test.YtopbkdcicidajaaQFnShadowsx0
import Derived.Test.YtopbkdcicidajaaQFnShadowsx1
import Derived.Test.YtopbkdcicidajaaQFnShadowsx2
import Derived.Test.YtopbkdcicidajaaQFnShadowsx3
import Derived.Test.YtopbkdcicidajaaQFnShadowsx4
import Derived.Test.YtopbkdcicidajaaQFnShadowsx5
namespace Go.Proofs.Ytopbkdcicidajaa.PFnShadows
open Go.RowKit Go.Proofs.YtopbkdcicidajaaW.PrintWords Go.Proofs.YtopbkdcicidajaaW.PrintLast Go.Proofs.YtopbkdcicidajaaW.PrintMore
attribute [local go_sem] max2_int min2_int max_two min_two max_three min_three max_four min_four   -- for this text's walks alone
set_option linter.unusedVariables false
set_option linter.unusedSimpArgs false

/-! ### laws_FnShadows: function 4 -/
mutual
def laws_FnShadows.l0 : Nat → List Int → Int → Int → Int → List (S82) → List (S82) → Int → Int → List (S72) → List (S74) → Int → Int → Int → Int → Int → List (S88) → Int → Option (Bool)
 | 0, _, _, _, _, _, _, _, _, _, _, _, _, _, _, _, _, _ => none
 | k + 1, x0, x4, x5, x6, x7, x8, x9, x578000, x578001, x578002, x578003, x578004, x578005, x578006, x578007, x578008, x578009 => if x9 < x6 then (if x9 ≥ 0 then (laws_FnShadows.j1 k x0 x4 x5 x6 x7 x8 x9 (decide (x9 < 1000)) x578000 x578001 x578002 x578003 x578004 x578005 x578006 x578007 x578008 x578009) else (laws_FnShadows.j1 k x0 x4 x5 x6 x7 x8 x9 false x578000 x578001 x578002 x578003 x578004 x578005 x578006 x578007 x578008 x578009)) else ((spec_DrawShadowAt.f k x0).bind fun bt589 => ((impl_ShadowAt.f bt589.1 bt589.2.1 bt589.2.2.1 bt589.2.2.2.1 bt589.2.2.2.2.1 bt589.2.2.2.2.2.1 bt589.2.2.2.2.2.2.1 bt589.2.2.2.2.2.2.2.1 bt589.2.2.2.2.2.2.2.2.1 bt589.2.2.2.2.2.2.2.2.2.1 bt589.2.2.2.2.2.2.2.2.2.2.1 bt589.2.2.2.2.2.2.2.2.2.2.2).bind fun t608 => ((impl_NodeAt.f bt589.1 bt589.2.1 bt589.2.2.1 bt589.2.2.2.1 bt589.2.2.2.2.1 bt589.2.2.2.2.2.1 bt589.2.2.2.2.2.2.1 bt589.2.2.2.2.2.2.2.1 bt589.2.2.2.2.2.2.2.2.1 bt589.2.2.2.2.2.2.2.2.2.1 bt589.2.2.2.2.2.2.2.2.2.2.1 bt589.2.2.2.2.2.2.2.2.2.2.2).bind fun bt609 => (laws_FnShadows.l1 k x4 x5 x6 x8 bt589.2.2.2.2.2.2.2.2.2.2.1 bt589.2.2.2.2.2.2.2.2.2.2.2 t608 0 x578000 x578001 x578002 x578003 x578004 x578005 x578006 x578007 x578008 x578009 bt589.1 bt589.2.1 bt589.2.2.1 bt589.2.2.2.1 bt589.2.2.2.2.1 bt589.2.2.2.2.2.1 bt589.2.2.2.2.2.2.1 bt589.2.2.2.2.2.2.2.1 bt589.2.2.2.2.2.2.2.2.1 bt589.2.2.2.2.2.2.2.2.2.1 bt609.1 bt609.2))))
def laws_FnShadows.j1 : Nat → List Int → Int → Int → Int → List (S82) → List (S82) → Int → Bool → Int → List (S72) → List (S74) → Int → Int → Int → Int → Int → List (S88) → Int → Option (Bool)
 | 0, _, _, _, _, _, _, _, _, _, _, _, _, _, _, _, _, _, _ => none
 | k + 1, x0, x4, x5, x6, x7, x8, x9, x10, x578000, x578001, x578002, x578003, x578004, x578005, x578006, x578007, x578008, x578009 => (impl_InSpans.f k x7 x9).bind fun t584 => (if x10 = true then ((impl_ShadowAt.f x578000 x578001 x578002 x578003 x578004 x578005 x578006 x578007 x578008 x578009 x4 x9).bind fun t585 => (if (t584 != (t585 == 0)) = true then (some false) else ((impl_InSpans.f k x8 x9).bind fun t586 => ((impl_ShadowAt.f x578000 x578001 x578002 x578003 x578004 x578005 x578006 x578007 x578008 x578009 x4 x9).bind fun t587 => (if (t586 != (t587 != 0)) = true then (some false) else (laws_FnShadows.l0 k x0 x4 x5 x6 x7 x8 (wrap64 (x9 + 1)) x578000 x578001 x578002 x578003 x578004 x578005 x578006 x578007 x578008 x578009)))))) else (if (t584 != false) = true then (some false) else ((impl_InSpans.f k x8 x9).bind fun t588 => (if (t588 != false) = true then (some false) else (laws_FnShadows.l0 k x0 x4 x5 x6 x7 x8 (wrap64 (x9 + 1)) x578000 x578001 x578002 x578003 x578004 x578005 x578006 x578007 x578008 x578009)))))
def laws_FnShadows.l1 : Nat → Int → Int → Int → List (S82) → Int → Int → Int → Int → Int → List (S72) → List (S74) → Int → Int → Int → Int → Int → List (S88) → Int → Int → List (S72) → List (S74) → Int → Int → Int → Int → Int → List (S88) → Int → Int → Int → Option (Bool)
 | 0, _, _, _, _, _, _, _, _, _, _, _, _, _, _, _, _, _, _, _, _, _, _, _, _, _, _, _, _, _, _ => none
 | k + 1, x4, x5, x6, x8, x12, x13, x14, x16, x578000, x578001, x578002, x578003, x578004, x578005, x578006, x578007, x578008, x578009, x608000, x608001, x608002, x608003, x608004, x608005, x608006, x608007, x608008, x608009, x612000, x612001 => if x16 ≤ x612001 then (if x14 = 1 then (laws_FnShadows.j3 k x4 x5 x6 x8 x12 x13 x14 x16 false x578000 x578001 x578002 x578003 x578004 x578005 x578006 x578007 x578008 x578009 x608000 x608001 x608002 x608003 x608004 x608005 x608006 x608007 x608008 x608009 x612000 x612001) else (if x12 ≥ 0 then (laws_FnShadows.j3 k x4 x5 x6 x8 x12 x13 x14 x16 (decide (x12 < (x608001.length : Int))) x578000 x578001 x578002 x578003 x578004 x578005 x578006 x578007 x578008 x578009 x608000 x608001 x608002 x608003 x608004 x608005 x608006 x608007 x608008 x608009 x612000 x612001) else (laws_FnShadows.j3 k x4 x5 x6 x8 x12 x13 x14 x16 false x578000 x578001 x578002 x578003 x578004 x578005 x578006 x578007 x578008 x578009 x608000 x608001 x608002 x608003 x608004 x608005 x608006 x608007 x608008 x608009 x612000 x612001))) else (laws_FnShadows.j3 k x4 x5 x6 x8 x12 x13 x14 x16 false x578000 x578001 x578002 x578003 x578004 x578005 x578006 x578007 x578008 x578009 x608000 x608001 x608002 x608003 x608004 x608005 x608006 x608007 x608008 x608009 x612000 x612001)
def laws_FnShadows.j3 : Nat → Int → Int → Int → List (S82) → Int → Int → Int → Int → Bool → Int → List (S72) → List (S74) → Int → Int → Int → Int → Int → List (S88) → Int → Int → List (S72) → List (S74) → Int → Int → Int → Int → Int → List (S88) → Int → Int → Int → Option (Bool)
 | 0, _, _, _, _, _, _, _, _, _, _, _, _, _, _, _, _, _, _, _, _, _, _, _, _, _, _, _, _, _, _, _ => none
 | k + 1, x4, x5, x6, x8, x12, x13, x14, x16, x106, x578000, x578001, x578002, x578003, x578004, x578005, x578006, x578007, x578008, x578009, x608000, x608001, x608002, x608003, x608004, x608005, x608006, x608007, x608008, x608009, x612000, x612001 => if x106 = true then ((impl_SunAt.f x608000 x608001 x608002 x608003 x608004 x608005 x608006 x608007 x608008 x608009 x13).bind fun t614 => ((impl_GapOf.f (wrap64 (x612000 + x16)) (wrap64 (t614 + 180))).bind fun t615 => (if ((decide (t615 ≤ x608007)) != (x14 == 2)) = true then (some false) else (laws_FnShadows.l1 k x4 x5 x6 x8 x12 x13 x14 (wrap64 (x16 + 1)) x578000 x578001 x578002 x578003 x578004 x578005 x578006 x578007 x578008 x578009 x608000 x608001 x608002 x608003 x608004 x608005 x608006 x608007 x608008 x608009 x612000 x612001)))) else ((impl_LongestDark.f k x578000 x578001 x578002 x578003 x578004 x578005 x578006 x578007 x578008 x578009 x4 x5 x6).bind fun t612 => ((impl_TicksOf.f k x8).bind fun t613 => (some (decide (t612 ≤ t613)))))
end
def laws_FnShadows.f (k : Nat) (l0 : List Int) : Option (Bool) := (laws_big.f l0).bind fun t557 => (if t557 = true then (some true) else ((spec_DrawLitSpans.f k l0).bind fun bt558 => ((impl_LitSpans.f k bt558.1 bt558.2.1 bt558.2.2.1 bt558.2.2.2.1 bt558.2.2.2.2.1 bt558.2.2.2.2.2.1 bt558.2.2.2.2.2.2.1 bt558.2.2.2.2.2.2.2.1 bt558.2.2.2.2.2.2.2.2.1 bt558.2.2.2.2.2.2.2.2.2.1 bt558.2.2.2.2.2.2.2.2.2.2.1 bt558.2.2.2.2.2.2.2.2.2.2.2.1 bt558.2.2.2.2.2.2.2.2.2.2.2.2).bind fun t578 => ((impl_DarkSpans.f k bt558.1 bt558.2.1 bt558.2.2.1 bt558.2.2.2.1 bt558.2.2.2.2.1 bt558.2.2.2.2.2.1 bt558.2.2.2.2.2.2.1 bt558.2.2.2.2.2.2.2.1 bt558.2.2.2.2.2.2.2.2.1 bt558.2.2.2.2.2.2.2.2.2.1 bt558.2.2.2.2.2.2.2.2.2.2.1 bt558.2.2.2.2.2.2.2.2.2.2.2.1 bt558.2.2.2.2.2.2.2.2.2.2.2.2).bind fun t581 => (laws_FnShadows.l0 k l0 bt558.2.2.2.2.2.2.2.2.2.2.1 bt558.2.2.2.2.2.2.2.2.2.2.2.1 bt558.2.2.2.2.2.2.2.2.2.2.2.2 t578 t581 bt558.2.2.2.2.2.2.2.2.2.2.2.1 bt558.1 bt558.2.1 bt558.2.2.1 bt558.2.2.2.1 bt558.2.2.2.2.1 bt558.2.2.2.2.2.1 bt558.2.2.2.2.2.2.1 bt558.2.2.2.2.2.2.2.1 bt558.2.2.2.2.2.2.2.2.1 bt558.2.2.2.2.2.2.2.2.2.1)))))
theorem laws_FnShadows.mono_l : ∀ k, (∀ y0 y1 y2 y3 y4 y5 y6 y7 y8 y9 y10 y11 y12 y13 y14 y15 y16, LeO (laws_FnShadows.l0 k y0 y1 y2 y3 y4 y5 y6 y7 y8 y9 y10 y11 y12 y13 y14 y15 y16) (laws_FnShadows.l0 (k + 1) y0 y1 y2 y3 y4 y5 y6 y7 y8 y9 y10 y11 y12 y13 y14 y15 y16)) ∧ (∀ y0 y1 y2 y3 y4 y5 y6 y7 y8 y9 y10 y11 y12 y13 y14 y15 y16 y17, LeO (laws_FnShadows.j1 k y0 y1 y2 y3 y4 y5 y6 y7 y8 y9 y10 y11 y12 y13 y14 y15 y16 y17) (laws_FnShadows.j1 (k + 1) y0 y1 y2 y3 y4 y5 y6 y7 y8 y9 y10 y11 y12 y13 y14 y15 y16 y17)) ∧ (∀ y0 y1 y2 y3 y4 y5 y6 y7 y8 y9 y10 y11 y12 y13 y14 y15 y16 y17 y18 y19 y20 y21 y22 y23 y24 y25 y26 y27 y28 y29, LeO (laws_FnShadows.l1 k y0 y1 y2 y3 y4 y5 y6 y7 y8 y9 y10 y11 y12 y13 y14 y15 y16 y17 y18 y19 y20 y21 y22 y23 y24 y25 y26 y27 y28 y29) (laws_FnShadows.l1 (k + 1) y0 y1 y2 y3 y4 y5 y6 y7 y8 y9 y10 y11 y12 y13 y14 y15 y16 y17 y18 y19 y20 y21 y22 y23 y24 y25 y26 y27 y28 y29)) ∧ (∀ y0 y1 y2 y3 y4 y5 y6 y7 y8 y9 y10 y11 y12 y13 y14 y15 y16 y17 y18 y19 y20 y21 y22 y23 y24 y25 y26 y27 y28 y29 y30, LeO (laws_FnShadows.j3 k y0 y1 y2 y3 y4 y5 y6 y7 y8 y9 y10 y11 y12 y13 y14 y15 y16 y17 y18 y19 y20 y21 y22 y23 y24 y25 y26 y27 y28 y29 y30) (laws_FnShadows.j3 (k + 1) y0 y1 y2 y3 y4 y5 y6 y7 y8 y9 y10 y11 y12 y13 y14 y15 y16 y17 y18 y19 y20 y21 y22 y23 y24 y25 y26 y27 y28 y29 y30))
 | 0 => ⟨fun _ _ _ _ _ _ _ _ _ _ _ _ _ _ _ _ _ r h => by simp [laws_FnShadows.l0] at h, fun _ _ _ _ _ _ _ _ _ _ _ _ _ _ _ _ _ _ r h => by simp [laws_FnShadows.j1] at h, fun _ _ _ _ _ _ _ _ _ _ _ _ _ _ _ _ _ _ _ _ _ _ _ _ _ _ _ _ _ _ r h => by simp [laws_FnShadows.l1] at h, fun _ _ _ _ _ _ _ _ _ _ _ _ _ _ _ _ _ _ _ _ _ _ _ _ _ _ _ _ _ _ _ r h => by simp [laws_FnShadows.j3] at h⟩
 | k + 1 => by
  obtain ⟨ih0, ih1, ih2, ih3⟩ := laws_FnShadows.mono_l k
  refine ⟨?_, ?_, ?_, ?_⟩
  ·intro y0 y1 y2 y3 y4 y5 y6 y7 y8 y9 y10 y11 y12 y13 y14 y15 y16
   unfold laws_FnShadows.l0
   repeat' first | (with_reducible first | exact ih0 _ _ _ _ _ _ _ _ _ _ _ _ _ _ _ _ _ | exact ih1 _ _ _ _ _ _ _ _ _ _ _ _ _ _ _ _ _ _ | exact ih2 _ _ _ _ _ _ _ _ _ _ _ _ _ _ _ _ _ _ _ _ _ _ _ _ _ _ _ _ _ _ | exact ih3 _ _ _ _ _ _ _ _ _ _ _ _ _ _ _ _ _ _ _ _ _ _ _ _ _ _ _ _ _ _ _ | exact impl_DarkSpans.mono _ _ _ _ _ _ _ _ _ _ _ _ _ _ | exact impl_InSpans.mono _ _ _ | exact impl_LitSpans.mono _ _ _ _ _ _ _ _ _ _ _ _ _ _ | exact impl_LongestDark.mono _ _ _ _ _ _ _ _ _ _ _ _ _ _ | exact impl_TicksOf.mono _ _ | exact spec_DrawLitSpans.mono _ _ | exact spec_DrawShadowAt.mono _ _ | exact LeO.refl _ | exact LeO.none _ | refine LeO.ite ?_ ?_ | refine LeO.bind ?_ (fun _ => ?_)) | exact LeO.none _ | refine LeO.ite ?_ ?_ | refine LeO.bind ?_ (fun _ => ?_)
  ·intro y0 y1 y2 y3 y4 y5 y6 y7 y8 y9 y10 y11 y12 y13 y14 y15 y16 y17
   unfold laws_FnShadows.j1
   repeat' first | (with_reducible first | exact ih0 _ _ _ _ _ _ _ _ _ _ _ _ _ _ _ _ _ | exact ih1 _ _ _ _ _ _ _ _ _ _ _ _ _ _ _ _ _ _ | exact ih2 _ _ _ _ _ _ _ _ _ _ _ _ _ _ _ _ _ _ _ _ _ _ _ _ _ _ _ _ _ _ | exact ih3 _ _ _ _ _ _ _ _ _ _ _ _ _ _ _ _ _ _ _ _ _ _ _ _ _ _ _ _ _ _ _ | exact impl_DarkSpans.mono _ _ _ _ _ _ _ _ _ _ _ _ _ _ | exact impl_InSpans.mono _ _ _ | exact impl_LitSpans.mono _ _ _ _ _ _ _ _ _ _ _ _ _ _ | exact impl_LongestDark.mono _ _ _ _ _ _ _ _ _ _ _ _ _ _ | exact impl_TicksOf.mono _ _ | exact spec_DrawLitSpans.mono _ _ | exact spec_DrawShadowAt.mono _ _ | exact LeO.refl _ | exact LeO.none _ | refine LeO.ite ?_ ?_ | refine LeO.bind ?_ (fun _ => ?_)) | exact LeO.none _ | refine LeO.ite ?_ ?_ | refine LeO.bind ?_ (fun _ => ?_)
  ·intro y0 y1 y2 y3 y4 y5 y6 y7 y8 y9 y10 y11 y12 y13 y14 y15 y16 y17 y18 y19 y20 y21 y22 y23 y24 y25 y26 y27 y28 y29
   unfold laws_FnShadows.l1
   repeat' first | (with_reducible first | exact ih0 _ _ _ _ _ _ _ _ _ _ _ _ _ _ _ _ _ | exact ih1 _ _ _ _ _ _ _ _ _ _ _ _ _ _ _ _ _ _ | exact ih2 _ _ _ _ _ _ _ _ _ _ _ _ _ _ _ _ _ _ _ _ _ _ _ _ _ _ _ _ _ _ | exact ih3 _ _ _ _ _ _ _ _ _ _ _ _ _ _ _ _ _ _ _ _ _ _ _ _ _ _ _ _ _ _ _ | exact impl_DarkSpans.mono _ _ _ _ _ _ _ _ _ _ _ _ _ _ | exact impl_InSpans.mono _ _ _ | exact impl_LitSpans.mono _ _ _ _ _ _ _ _ _ _ _ _ _ _ | exact impl_LongestDark.mono _ _ _ _ _ _ _ _ _ _ _ _ _ _ | exact impl_TicksOf.mono _ _ | exact spec_DrawLitSpans.mono _ _ | exact spec_DrawShadowAt.mono _ _ | exact LeO.refl _ | exact LeO.none _ | refine LeO.ite ?_ ?_ | refine LeO.bind ?_ (fun _ => ?_)) | exact LeO.none _ | refine LeO.ite ?_ ?_ | refine LeO.bind ?_ (fun _ => ?_)
  ·intro y0 y1 y2 y3 y4 y5 y6 y7 y8 y9 y10 y11 y12 y13 y14 y15 y16 y17 y18 y19 y20 y21 y22 y23 y24 y25 y26 y27 y28 y29 y30
   unfold laws_FnShadows.j3
   repeat' first | (with_reducible first | exact ih0 _ _ _ _ _ _ _ _ _ _ _ _ _ _ _ _ _ | exact ih1 _ _ _ _ _ _ _ _ _ _ _ _ _ _ _ _ _ _ | exact ih2 _ _ _ _ _ _ _ _ _ _ _ _ _ _ _ _ _ _ _ _ _ _ _ _ _ _ _ _ _ _ | exact ih3 _ _ _ _ _ _ _ _ _ _ _ _ _ _ _ _ _ _ _ _ _ _ _ _ _ _ _ _ _ _ _ | exact impl_DarkSpans.mono _ _ _ _ _ _ _ _ _ _ _ _ _ _ | exact impl_InSpans.mono _ _ _ | exact impl_LitSpans.mono _ _ _ _ _ _ _ _ _ _ _ _ _ _ | exact impl_LongestDark.mono _ _ _ _ _ _ _ _ _ _ _ _ _ _ | exact impl_TicksOf.mono _ _ | exact spec_DrawLitSpans.mono _ _ | exact spec_DrawShadowAt.mono _ _ | exact LeO.refl _ | exact LeO.none _ | refine LeO.ite ?_ ?_ | refine LeO.bind ?_ (fun _ => ?_)) | exact LeO.none _ | refine LeO.ite ?_ ?_ | refine LeO.bind ?_ (fun _ => ?_)
theorem laws_FnShadows.mono : ∀ a0 k, LeO (laws_FnShadows.f k a0) (laws_FnShadows.f (k + 1) a0) := by
 intro a0 k
 obtain ⟨ih0, ih1, ih2, ih3⟩ := laws_FnShadows.mono_l k
 unfold laws_FnShadows.f
 repeat' first | (with_reducible first | exact ih0 _ _ _ _ _ _ _ _ _ _ _ _ _ _ _ _ _ | exact ih1 _ _ _ _ _ _ _ _ _ _ _ _ _ _ _ _ _ _ | exact ih2 _ _ _ _ _ _ _ _ _ _ _ _ _ _ _ _ _ _ _ _ _ _ _ _ _ _ _ _ _ _ | exact ih3 _ _ _ _ _ _ _ _ _ _ _ _ _ _ _ _ _ _ _ _ _ _ _ _ _ _ _ _ _ _ _ | exact impl_DarkSpans.mono _ _ _ _ _ _ _ _ _ _ _ _ _ _ | exact impl_InSpans.mono _ _ _ | exact impl_LitSpans.mono _ _ _ _ _ _ _ _ _ _ _ _ _ _ | exact impl_LongestDark.mono _ _ _ _ _ _ _ _ _ _ _ _ _ _ | exact impl_TicksOf.mono _ _ | exact spec_DrawLitSpans.mono _ _ | exact spec_DrawShadowAt.mono _ _ | exact LeO.refl _ | exact LeO.none _ | refine LeO.ite ?_ ?_ | refine LeO.bind ?_ (fun _ => ?_)) | exact LeO.none _ | refine LeO.ite ?_ ?_ | refine LeO.bind ?_ (fun _ => ?_)
def laws_FnShadows.T18 : Bool × List (List Nat × List Nat) := (true, [([], []), ([0], [0]), ([], []), ([1, 2], [1, 2]), ([], []), ([], []), ([4, 5], [4, 5]), ([6], [6]), ([3, 7, 6], [3, 7]), ([], []), ([9], [9]), ([8, 10], [8, 10]), ([], []), ([12], [12]), ([11, 13], [11, 13])])
def laws_FnShadows.B18 : List Nat := [0, 1, 0, 7, 0, 0, 48, 112, 255, 0, 512, 2047, 0, 4096, 16383]
theorem laws_FnShadows.tab18 : rtab .any (opsOf Try.f4 18) = laws_FnShadows.T18 := by kernel_rfl
theorem laws_FnShadows.bits18 : waitsOk laws_FnShadows.T18.2 laws_FnShadows.B18 = true := by kernel_rfl
set_option maxHeartbeats 8000000 in
set_option maxRecDepth 100000 in
theorem laws_FnShadows.calls (k : Nat) (A0 : Option Addr) (c0 : Nat) (l0 : List Int) (r : Bool) (w : World) (hr0 : Kd.C (Kd.int .u8) w A0 l0.length l0) (hc0 : l0.length ≤ c0) (h : laws_FnShadows.f k l0 = some r) (hT_ : r = true := by rfl) :
  Calls Try.prog 4 #[.slice A0 l0.length c0] w fun e w' => e = .returned (.bool r) ∧ Below w.heap.size w w' := by
 have hu28 := Try.underlying28
 have hu35 := Try.underlying35
 have HR0 := Aside0.mk hr0
 have HC0 := Aside0.mk hc0
 clear hr0 hc0
 have HB := Aside0.mk (Below.refl w.heap.size w)
 subst hT_
 have H := h
 clear h
 unfold laws_FnShadows.f at H
 replace H := bs_ H
 obtain ⟨t557, A2, H⟩ := H
 by_cases c3 : t557 = true
 ·subst c3
  try rw [if_pos rfl] at H
  clear H
  go_enter Try.func4, Try.ntmps4
  go_wp2_with (first | ((with_reducible refine gate_callee (f := 8) rfl ?_); refine gl_ 18 Try.func8 (laws_big.calls _ _ l0 true _ (cq_ HR0) HC0.out A2.out) ?_; rintro e w' ⟨rfl, ⟨nd, rfl⟩⟩; refine ⟨_, rfl, ?_⟩))
  go_ret
  exact ⟨by first | (rw [hRT_.out]; rfl) | exact er_, bl_ HB⟩
 ·replace c3 := Bool.eq_false_iff.mpr c3
  subst c3
  have H1 : ((spec_DrawLitSpans.f k l0).bind fun bt558 => ((impl_LitSpans.f k bt558.1 bt558.2.1 bt558.2.2.1 bt558.2.2.2.1 bt558.2.2.2.2.1 bt558.2.2.2.2.2.1 bt558.2.2.2.2.2.2.1 bt558.2.2.2.2.2.2.2.1 bt558.2.2.2.2.2.2.2.2.1 bt558.2.2.2.2.2.2.2.2.2.1 bt558.2.2.2.2.2.2.2.2.2.2.1 bt558.2.2.2.2.2.2.2.2.2.2.2.1 bt558.2.2.2.2.2.2.2.2.2.2.2.2).bind fun t578 => ((impl_DarkSpans.f k bt558.1 bt558.2.1 bt558.2.2.1 bt558.2.2.2.1 bt558.2.2.2.2.1 bt558.2.2.2.2.2.1 bt558.2.2.2.2.2.2.1 bt558.2.2.2.2.2.2.2.1 bt558.2.2.2.2.2.2.2.2.1 bt558.2.2.2.2.2.2.2.2.2.1 bt558.2.2.2.2.2.2.2.2.2.2.1 bt558.2.2.2.2.2.2.2.2.2.2.2.1 bt558.2.2.2.2.2.2.2.2.2.2.2.2).bind fun t581 => (laws_FnShadows.l0 k l0 bt558.2.2.2.2.2.2.2.2.2.2.1 bt558.2.2.2.2.2.2.2.2.2.2.2.1 bt558.2.2.2.2.2.2.2.2.2.2.2.2 t578 t581 bt558.2.2.2.2.2.2.2.2.2.2.2.1 bt558.1 bt558.2.1 bt558.2.2.1 bt558.2.2.2.1 bt558.2.2.2.2.1 bt558.2.2.2.2.2.1 bt558.2.2.2.2.2.2.1 bt558.2.2.2.2.2.2.2.1 bt558.2.2.2.2.2.2.2.2.1 bt558.2.2.2.2.2.2.2.2.2.1)))) = some true := by first | (rw [if_neg (show ¬ (false = true) by decide)] at H; exact H) | rfl
  clear H
  have H := H1
  clear H1
  replace H := bs_ H
  obtain ⟨⟨t558, t559, t562, t565, t566, t567, t568, t569, t570, t573, t574, t575, t576⟩, A4, H⟩ := H
  dsimp only at H
  replace H := bs_ H
  obtain ⟨t578, A5, H⟩ := H
  replace H := bs_ H
  obtain ⟨t581, A6, H⟩ := H
  have H' := Aside0.mk H
  clear H
  go_enter Try.func4, Try.ntmps4
  go_wp2_with (first | ((with_reducible refine gate_callee (f := 8) rfl ?_); refine gl_ 18 Try.func8 (laws_big.calls _ _ l0 false _ (cq_ HR0) HC0.out A2.out) ?_; rintro e w' ⟨rfl, ⟨nd, rfl⟩⟩; refine ⟨_, rfl, ?_⟩) | ((with_reducible refine gate_callee (f := 18) rfl ?_); refine gl_ 21 Try.func18 (spec_DrawLitSpans.calls k _ _ l0 t558 t559 t562 t565 t566 t567 t568 t569 t570 t573 t574 t575 t576 _ (cq_ HR0) HC0.out A4.out) ?_; rintro e w7 ⟨v560, v563, v571, rfl, ho0, ho1, ho2, hb⟩; refine ⟨_, rfl, sh4_ (Kd.R_lower ho0 (below_size (bl_ HB))) (Kd.R_lower ho1 (below_size (bl_ HB))) (Kd.R_lower ho2 (below_size (bl_ HB))) (below_step (bl_ HB) hb) ?_⟩; clear HB hb ho0 ho1 ho2; intro HO561 HO564 HO572 HB) | ((with_reducible refine gate_dst (N := 3) rfl ?_); (try (refine gate_guard (by rfl) ?_; dsimp only)); refine box_event ?hg (N := 3) ?hd (cs := #[iv_ 0, .slice none 0 0, .slice none 0 0, iv_ 0, iv_ 0, iv_ 0, iv_ 0, iv_ 0, .slice none 0 0, iv_ 0]) (t := 28) ?hr ?_; (case hd => rfl); (case hg => rfl); (case hr => first | (go_simp; done) | (go_simp; rfl)); intro gb577 hg w8 hbox hb; refine sh6_ (Kd.R_below (ra_ HO561) hb) (Kd.R_below (ra_ HO564) hb) (Kd.R_below (ra_ HO572) hb) (below_step (bl_ HB) hb) hbox (ge_ hg (bl_ HB)) ?_; clear HO561 HO564 HO572 HB hb hbox hg; intro HO561 HO564 HO572 HB BK577 GE577; have hcz9 := cf10_ BK577; obtain ⟨Ao10, co10, eo10⟩ := Kd.R_slice HO561.out; subst eo10; obtain ⟨Ao11, co11, eo11⟩ := Kd.R_slice HO564.out; subst eo11; obtain ⟨Ao12, co12, eo12⟩ := Kd.R_slice HO572.out; subst eo12) | ((with_reducible refine gate_callee (f := 19) rfl ?_); refine goesL_ (some 30) rfl rfl Try.func19 (by kernel_rfl) rfl #[.agg #[iv_ t558, .slice Ao10 t559.length co10, .slice Ao11 t562.length co11, iv_ t565, iv_ t566, iv_ t567, iv_ t568, iv_ t569, .slice Ao12 t570.length co12, iv_ t573], iv_ t574, iv_ t575, iv_ t576] rfl mp_ ?_; (with_reducible refine (impl_LitSpans.calls k t558 _ _ t559 _ _ t562 t565 t566 t567 t568 t569 _ _ t570 t573 t574 t575 t576 t578 _ ?side1 ?side2 ?side3 ?side4 ?side5 ?side6 A5.out).mono ?_); (case side1 => refine (Kd.R_reads' (e := 72) (base := w.heap.size) (ok := fun k_ => True) (n := t559.length) (c := co10) ?_).2.2; exact (by (with_reducible repeat (first | apply Kd.R_alloc | apply Kd.R_drewN | apply Kd.R_drew)); exact (Kd.R_mono (Kd.R_far (p := ⟨gb577, 9, none⟩) (Kd.R_far (p := ⟨gb577, 8, none⟩) (Kd.R_far (p := ⟨gb577, 7, none⟩) (Kd.R_far (p := ⟨gb577, 6, none⟩) (Kd.R_far (p := ⟨gb577, 5, none⟩) (Kd.R_far (p := ⟨gb577, 4, none⟩) (Kd.R_far (p := ⟨gb577, 3, none⟩) (Kd.R_far (p := ⟨gb577, 2, none⟩) (Kd.R_far (p := ⟨gb577, 1, none⟩) (Kd.R_far (p := ⟨gb577, 0, none⟩) (Kd.R_types HO561.out BK577.out (by decide)) (fun _ hk => hk.2) (iv_ t558)) (fun _ hk => hk.2) (.slice Ao10 t559.length co10)) (fun _ hk => hk.2) (.slice Ao11 t562.length co11)) (fun _ hk => hk.2) (iv_ t565)) (fun _ hk => hk.2) (iv_ t566)) (fun _ hk => hk.2) (iv_ t567)) (fun _ hk => hk.2) (iv_ t568)) (fun _ hk => hk.2) (iv_ t569)) (fun _ hk => hk.2) (.slice Ao12 t570.length co12)) (fun _ hk => hk.2) (iv_ t573)) (fun _ h_ => h_.1)))); (case side2 => exact (Kd.R_reads' HO561.out).2.1); (case side3 => refine (Kd.R_reads' (e := 74) (base := w.heap.size) (ok := fun k_ => True) (n := t562.length) (c := co11) ?_).2.2; exact (by (with_reducible repeat (first | apply Kd.R_alloc | apply Kd.R_drewN | apply Kd.R_drew)); exact (Kd.R_mono (Kd.R_far (p := ⟨gb577, 9, none⟩) (Kd.R_far (p := ⟨gb577, 8, none⟩) (Kd.R_far (p := ⟨gb577, 7, none⟩) (Kd.R_far (p := ⟨gb577, 6, none⟩) (Kd.R_far (p := ⟨gb577, 5, none⟩) (Kd.R_far (p := ⟨gb577, 4, none⟩) (Kd.R_far (p := ⟨gb577, 3, none⟩) (Kd.R_far (p := ⟨gb577, 2, none⟩) (Kd.R_far (p := ⟨gb577, 1, none⟩) (Kd.R_far (p := ⟨gb577, 0, none⟩) (Kd.R_types HO564.out BK577.out (by decide)) (fun _ hk => hk.2) (iv_ t558)) (fun _ hk => hk.2) (.slice Ao10 t559.length co10)) (fun _ hk => hk.2) (.slice Ao11 t562.length co11)) (fun _ hk => hk.2) (iv_ t565)) (fun _ hk => hk.2) (iv_ t566)) (fun _ hk => hk.2) (iv_ t567)) (fun _ hk => hk.2) (iv_ t568)) (fun _ hk => hk.2) (iv_ t569)) (fun _ hk => hk.2) (.slice Ao12 t570.length co12)) (fun _ hk => hk.2) (iv_ t573)) (fun _ h_ => h_.1)))); (case side4 => exact (Kd.R_reads' HO564.out).2.1); (case side5 => refine (Kd.R_reads' (e := 88) (base := w.heap.size) (ok := fun k_ => True) (n := t570.length) (c := co12) ?_).2.2; exact (by (with_reducible repeat (first | apply Kd.R_alloc | apply Kd.R_drewN | apply Kd.R_drew)); exact (Kd.R_mono (Kd.R_far (p := ⟨gb577, 9, none⟩) (Kd.R_far (p := ⟨gb577, 8, none⟩) (Kd.R_far (p := ⟨gb577, 7, none⟩) (Kd.R_far (p := ⟨gb577, 6, none⟩) (Kd.R_far (p := ⟨gb577, 5, none⟩) (Kd.R_far (p := ⟨gb577, 4, none⟩) (Kd.R_far (p := ⟨gb577, 3, none⟩) (Kd.R_far (p := ⟨gb577, 2, none⟩) (Kd.R_far (p := ⟨gb577, 1, none⟩) (Kd.R_far (p := ⟨gb577, 0, none⟩) (Kd.R_types HO572.out BK577.out (by decide)) (fun _ hk => hk.2) (iv_ t558)) (fun _ hk => hk.2) (.slice Ao10 t559.length co10)) (fun _ hk => hk.2) (.slice Ao11 t562.length co11)) (fun _ hk => hk.2) (iv_ t565)) (fun _ hk => hk.2) (iv_ t566)) (fun _ hk => hk.2) (iv_ t567)) (fun _ hk => hk.2) (iv_ t568)) (fun _ hk => hk.2) (iv_ t569)) (fun _ hk => hk.2) (.slice Ao12 t570.length co12)) (fun _ hk => hk.2) (iv_ t573)) (fun _ h_ => h_.1)))); (case side6 => exact (Kd.R_reads' HO572.out).2.1); rintro e w13 ⟨v579, rfl, ho0, hb⟩; refine ⟨_, rfl, sh6_ (Kd.R_below (by (with_reducible repeat (first | apply Kd.R_alloc | apply Kd.R_drewN | apply Kd.R_drew)); exact (Kd.R_mono (Kd.R_far (p := ⟨gb577, 9, none⟩) (Kd.R_far (p := ⟨gb577, 8, none⟩) (Kd.R_far (p := ⟨gb577, 7, none⟩) (Kd.R_far (p := ⟨gb577, 6, none⟩) (Kd.R_far (p := ⟨gb577, 5, none⟩) (Kd.R_far (p := ⟨gb577, 4, none⟩) (Kd.R_far (p := ⟨gb577, 3, none⟩) (Kd.R_far (p := ⟨gb577, 2, none⟩) (Kd.R_far (p := ⟨gb577, 1, none⟩) (Kd.R_far (p := ⟨gb577, 0, none⟩) (Kd.R_types HO561.out BK577.out (by decide)) (fun _ hk => hk.2) (iv_ t558)) (fun _ hk => hk.2) (.slice Ao10 t559.length co10)) (fun _ hk => hk.2) (.slice Ao11 t562.length co11)) (fun _ hk => hk.2) (iv_ t565)) (fun _ hk => hk.2) (iv_ t566)) (fun _ hk => hk.2) (iv_ t567)) (fun _ hk => hk.2) (iv_ t568)) (fun _ hk => hk.2) (iv_ t569)) (fun _ hk => hk.2) (.slice Ao12 t570.length co12)) (fun _ hk => hk.2) (iv_ t573)) (fun _ h_ => h_.1))) hb) (Kd.R_below (by (with_reducible repeat (first | apply Kd.R_alloc | apply Kd.R_drewN | apply Kd.R_drew)); exact (Kd.R_mono (Kd.R_far (p := ⟨gb577, 9, none⟩) (Kd.R_far (p := ⟨gb577, 8, none⟩) (Kd.R_far (p := ⟨gb577, 7, none⟩) (Kd.R_far (p := ⟨gb577, 6, none⟩) (Kd.R_far (p := ⟨gb577, 5, none⟩) (Kd.R_far (p := ⟨gb577, 4, none⟩) (Kd.R_far (p := ⟨gb577, 3, none⟩) (Kd.R_far (p := ⟨gb577, 2, none⟩) (Kd.R_far (p := ⟨gb577, 1, none⟩) (Kd.R_far (p := ⟨gb577, 0, none⟩) (Kd.R_types HO564.out BK577.out (by decide)) (fun _ hk => hk.2) (iv_ t558)) (fun _ hk => hk.2) (.slice Ao10 t559.length co10)) (fun _ hk => hk.2) (.slice Ao11 t562.length co11)) (fun _ hk => hk.2) (iv_ t565)) (fun _ hk => hk.2) (iv_ t566)) (fun _ hk => hk.2) (iv_ t567)) (fun _ hk => hk.2) (iv_ t568)) (fun _ hk => hk.2) (iv_ t569)) (fun _ hk => hk.2) (.slice Ao12 t570.length co12)) (fun _ hk => hk.2) (iv_ t573)) (fun _ h_ => h_.1))) hb) (Kd.R_below (by (with_reducible repeat (first | apply Kd.R_alloc | apply Kd.R_drewN | apply Kd.R_drew)); exact (Kd.R_mono (Kd.R_far (p := ⟨gb577, 9, none⟩) (Kd.R_far (p := ⟨gb577, 8, none⟩) (Kd.R_far (p := ⟨gb577, 7, none⟩) (Kd.R_far (p := ⟨gb577, 6, none⟩) (Kd.R_far (p := ⟨gb577, 5, none⟩) (Kd.R_far (p := ⟨gb577, 4, none⟩) (Kd.R_far (p := ⟨gb577, 3, none⟩) (Kd.R_far (p := ⟨gb577, 2, none⟩) (Kd.R_far (p := ⟨gb577, 1, none⟩) (Kd.R_far (p := ⟨gb577, 0, none⟩) (Kd.R_types HO572.out BK577.out (by decide)) (fun _ hk => hk.2) (iv_ t558)) (fun _ hk => hk.2) (.slice Ao10 t559.length co10)) (fun _ hk => hk.2) (.slice Ao11 t562.length co11)) (fun _ hk => hk.2) (iv_ t565)) (fun _ hk => hk.2) (iv_ t566)) (fun _ hk => hk.2) (iv_ t567)) (fun _ hk => hk.2) (iv_ t568)) (fun _ hk => hk.2) (iv_ t569)) (fun _ hk => hk.2) (.slice Ao12 t570.length co12)) (fun _ hk => hk.2) (iv_ t573)) (fun _ h_ => h_.1))) hb) (Kd.R_lower ho0 (below_size (bl1_ HB GE577))) (blk_below (g := gb577) (o := .cells #[iv_ t558, .slice Ao10 t559.length co10, .slice Ao11 t562.length co11, iv_ t565, iv_ t566, iv_ t567, iv_ t568, iv_ t569, .slice Ao12 t570.length co12, iv_ t573] 28 (0, 0)) (bp_ BK577) hb) (below_step (bl1_ HB GE577) hb) ?_⟩; clear HO561 HO564 HO572 BK577 HB hb ho0; intro HO561 HO564 HO572 HO580 BK577 HB; have hcz14 := cf10_ BK577) | ((with_reducible refine gate_callee (f := 20) rfl ?_); refine gl_ 35 Try.func20 (impl_DarkSpans.calls k t558 _ _ t559 _ _ t562 t565 t566 t567 t568 t569 _ _ t570 t573 t574 t575 t576 t581 _ (cr_ HO561) (rl_ HO561) (cr_ HO564) (rl_ HO564) (cr_ HO572) (rl_ HO572) A6.out) ?_; rintro e w15 ⟨v582, rfl, ho0, hb⟩; refine ⟨_, rfl, sh7_ (Kd.R_below (ra_ HO561) hb) (Kd.R_below (ra_ HO564) hb) (Kd.R_below (ra_ HO572) hb) (Kd.R_elder' (ra_ HO580) (Kd.R_base ho0) hb) (Kd.R_lower (Kd.R_new' ho0 (Kd.R_lt (ra_ HO580))) (below_size (bl1_ HB GE577))) (blk_below (bk_ BK577) hb) (below_step (bl1_ HB GE577) hb) ?_⟩; clear HO561 HO564 HO572 HO580 BK577 HB hb ho0; intro HO561 HO564 HO572 HO580 HO583 BK577 HB))
  go_loopg [9] k (fun kq v9 w' => ∃ (x9_1 : Int), v9 = iv_ x9_1 ∧ Aside0 (laws_FnShadows.l0 kq l0 t574 t575 t576 t578 t581 x9_1 t558 t559 t562 t565 t566 t567 t568 t569 t570 t573 = some true) ∧ Aside0 (kq ≤ k) ∧ Aside0 (Kd.R k82 82 w' w.heap.size (fun k_ => some k_ ≠ (v582 : Value).ownBlock) v579 t578) ∧ Aside0 (Kd.R k82 82 w' w.heap.size (fun k_ => some k_ ≠ (v579 : Value).ownBlock) v582 t581) ∧ Aside0 (Kd.R k72 72 w' w.heap.size (fun _ => True) (.slice Ao10 t559.length co10) t559) ∧ Aside0 (Kd.R k74 74 w' w.heap.size (fun _ => True) (.slice Ao11 t562.length co11) t562) ∧ Aside0 (Kd.R k88 88 w' w.heap.size (fun _ => True) (.slice Ao12 t570.length co12) t570) ∧ Aside0 (w'.heap[gb577]? = some (.cells #[iv_ t558, (.slice Ao10 t559.length co10), (.slice Ao11 t562.length co11), iv_ t565, iv_ t566, iv_ t567, iv_ t568, iv_ t569, (.slice Ao12 t570.length co12), iv_ t573] 28 (0, 0))) ∧ Aside0 (Below w.heap.size w w'))
  case atStart => exact ⟨(t575), (by first | rfl | (simp; done) | (simp [*]; done)), H', ⟨Nat.le_refl _⟩, ⟨by (with_reducible repeat (first | apply Kd.R_alloc | apply Kd.R_drewN | apply Kd.R_drew)); exact Kd.R_mono HO580.out (fun _ hk => hk.2)⟩, ⟨by (with_reducible repeat (first | apply Kd.R_alloc | apply Kd.R_drewN | apply Kd.R_drew)); exact Kd.R_mono HO583.out (fun _ hk => hk.2)⟩, ⟨ra_ HO561⟩, ⟨ra_ HO564⟩, ⟨ra_ HO572⟩, ⟨by (with_reducible repeat (first | refine blk_drewN ?_ _ | refine blk_drew ?_ | refine blk_alloc ?_ _)); exact BK577.out⟩, ⟨bl1_ HB GE577⟩⟩
  case round =>
   clear H'
   obtain ⟨x9_1, rfl, HA, HK1, HO_7, HO_8, HO_578001, HO_578002, HO_578008, BK577, HB⟩ := hrel
   cases gk with
   | zero => exact absurd HA.out (by simp [laws_FnShadows.l0])
   | succ k1 =>
    have H := HA.out
    clear HA
    simp only [laws_FnShadows.l0] at H
    by_cases c16 : x9_1 < t576
    ·rw [if_pos c16] at H
     have c16b0 := decide_eq_true c16
     clear c16
     have HC17 := Aside0.mk H
     clear H
     go_upto_region 9 with (fail)
     go_cut [10] (fun v10 wc => ∃ (kq : Nat) (x10_16 : Bool), v10 = .bool x10_16 ∧ Aside0 (laws_FnShadows.j1 kq l0 t574 t575 t576 t578 t581 x9_1 x10_16 t558 t559 t562 t565 t566 t567 t568 t569 t570 t573 = some true) ∧ Aside0 (kq ≤ k1) ∧ Aside0 (Kd.R k82 82 wc w.heap.size (fun k_ => some k_ ≠ (v582 : Value).ownBlock) v579 t578) ∧ Aside0 (Kd.R k82 82 wc w.heap.size (fun k_ => some k_ ≠ (v579 : Value).ownBlock) v582 t581) ∧ Aside0 (Kd.R k72 72 wc w.heap.size (fun _ => True) (.slice Ao10 t559.length co10) t559) ∧ Aside0 (Kd.R k74 74 wc w.heap.size (fun _ => True) (.slice Ao11 t562.length co11) t562) ∧ Aside0 (Kd.R k88 88 wc w.heap.size (fun _ => True) (.slice Ao12 t570.length co12) t570) ∧ Aside0 (wc.heap[gb577]? = some (.cells #[iv_ t558, (.slice Ao10 t559.length co10), (.slice Ao11 t562.length co11), iv_ t565, iv_ t566, iv_ t567, iv_ t568, iv_ t569, (.slice Ao12 t570.length co12), iv_ t573] 28 (0, 0))) ∧ Aside0 (Below w.heap.size w wc))
     case first =>
      have H := HC17.out
      clear HC17
      by_cases c18 : x9_1 ≥ 0
      ·rw [if_pos c18] at H
       have c18b0 : decide (0 ≤ x9_1) = true := decide_eq_true c18
       clear c18
       (first | rw [c18b0] | (simp only [i64_w, i32_w]; rw [c18b0]) | skip)
       have H' := Aside0.mk H
       clear H
       go_wp2
       go_meet
       case rel => exact ⟨_, (decide (x9_1 < 1000)), (by first | rfl | (simp; done) | (simp [*]; done)), H', ⟨by have := HK1.out; first | omega | exact Nat.le_refl _⟩, ⟨ra_ HO_7⟩, ⟨ra_ HO_8⟩, ⟨ra_ HO_578001⟩, ⟨ra_ HO_578002⟩, ⟨ra_ HO_578008⟩, ⟨by (with_reducible repeat (first | refine blk_drewN ?_ _ | refine blk_drew ?_ | refine blk_alloc ?_ _)); exact BK577.out⟩, ⟨bl1_ HB GE577⟩⟩
      ·rw [if_neg c18] at H
       have c18b0 : decide (0 ≤ x9_1) = false := decide_eq_false c18
       clear c18
       (first | rw [c18b0] | (simp only [i64_w, i32_w]; rw [c18b0]) | skip)
       have H' := Aside0.mk H
       clear H
       go_wp2
       go_meet
       case rel => exact ⟨_, (false), (by first | rfl | (simp; done) | (simp [*]; done)), H', ⟨by have := HK1.out; first | omega | exact Nat.le_refl _⟩, ⟨ra_ HO_7⟩, ⟨ra_ HO_8⟩, ⟨ra_ HO_578001⟩, ⟨ra_ HO_578002⟩, ⟨ra_ HO_578008⟩, ⟨by (with_reducible repeat (first | refine blk_drewN ?_ _ | refine blk_drew ?_ | refine blk_alloc ?_ _)); exact BK577.out⟩, ⟨bl1_ HB GE577⟩⟩
     case rest =>
      clear HC17
      obtain ⟨kq, x10_16, rfl, HA, HJ16, HO_7, HO_8, HO_578001, HO_578002, HO_578008, BK577, HB⟩ := hcut
      cases kq with
      | zero => exact absurd HA.out (by simp [laws_FnShadows.j1])
      | succ kj16 =>
       have H := HA.out
       clear HA
       simp only [laws_FnShadows.j1] at H
       replace H := bs_ H
       obtain ⟨t584, A19, H⟩ := H
       by_cases c20 : x10_16 = true
       ·subst c20
        try rw [if_pos rfl] at H
        replace H := bs_ H
        obtain ⟨t585, A21, H⟩ := H
        by_cases c22 : (t584 != (t585 == 0)) = true
        ·rw [if_pos c22] at H
         have c22b0 : (t584 != (t585 == 0)) = true := c22
         (try (have c22b1 : decide (t584 = (t585 == 0)) = false := by simpa using c22))
         (try (have c22b2 : (t584 == (t585 == 0)) = false := by simpa using c22))
         (try (have c22b3 : ¬ (t584 = (t585 == 0)) := by simpa using c22))
         clear c22
         exact absurd H (by simp)
        ·rw [if_neg c22] at H
         have c22b0 : (t584 != (t585 == 0)) = false := by simpa using c22
         (try (have c22b1 : decide (t584 = (t585 == 0)) = true := by simpa using c22))
         (try (have c22b2 : (t584 == (t585 == 0)) = true := by simpa using c22))
         clear c22
         replace H := bs_ H
         obtain ⟨t586, A23, H⟩ := H
         replace H := bs_ H
         obtain ⟨t587, A24, H⟩ := H
         by_cases c25 : (t586 != (t587 != 0)) = true
         ·rw [if_pos c25] at H
          have c25b0 : (t586 != (t587 != 0)) = true := c25
          (try (have c25b1 : decide (t586 = (t587 != 0)) = false := by simpa using c25))
          (try (have c25b2 : (t586 == (t587 != 0)) = false := by simpa using c25))
          (try (have c25b3 : ¬ (t586 = (t587 != 0)) := by simpa using c25))
          clear c25
          exact absurd H (by simp)
         ·rw [if_neg c25] at H
          have c25b0 : (t586 != (t587 != 0)) = false := by simpa using c25
          (try (have c25b1 : decide (t586 = (t587 != 0)) = true := by simpa using c25))
          (try (have c25b2 : (t586 == (t587 != 0)) = true := by simpa using c25))
          clear c25
          have H' := Aside0.mk H
          clear H
          obtain ⟨Ao26, co26, eo26⟩ := Kd.R_slice HO_7.out
          subst eo26
          go_wp2_with (first | ((with_reducible refine gate_callee (f := 17) rfl ?_); refine gl_ 50 Try.func17 (impl_InSpans.calls kj16 _ _ t578 x9_1 t584 _ (cr_ HO_7) (rl_ HO_7) A19.out) ?_; rintro e w27 ⟨rfl, hb⟩; refine ⟨_, rfl, sh7_ (Kd.R_below (ra_ HO_7) hb) (Kd.R_below (ra_ HO_8) hb) (Kd.R_below (ra_ HO_578001) hb) (Kd.R_below (ra_ HO_578002) hb) (Kd.R_below (ra_ HO_578008) hb) (blk_below (bk_ BK577) hb) (below_step (bl1_ HB GE577) hb) ?_⟩; clear HO_7 HO_8 HO_578001 HO_578002 HO_578008 BK577 HB hb; intro HO_7 HO_8 HO_578001 HO_578002 HO_578008 BK577 HB; have hcz28 := cf10_ BK577) | (go_at_call 21; (with_reducible refine (impl_ShadowAt.calls t558 _ _ t559 _ _ t562 t565 t566 t567 t568 t569 _ _ t570 t573 t574 x9_1 t585 _ ?side1 ?side2 ?side3 ?side4 ?side5 ?side6 A21.out).mono ?_); (case side1 => repeat (first | exact (Kd.R_reads' HO_578001.out).2.2 | (with_reducible refine Kd.C_alloc ?_ _) | (with_reducible refine Kd.C_drewN ?_ _) | (with_reducible refine Kd.C_drew ?_))); (case side2 => exact (Kd.R_reads' HO_578001.out).2.1); (case side3 => repeat (first | exact (Kd.R_reads' HO_578002.out).2.2 | (with_reducible refine Kd.C_alloc ?_ _) | (with_reducible refine Kd.C_drewN ?_ _) | (with_reducible refine Kd.C_drew ?_))); (case side4 => exact (Kd.R_reads' HO_578002.out).2.1); (case side5 => repeat (first | exact (Kd.R_reads' HO_578008.out).2.2 | (with_reducible refine Kd.C_alloc ?_ _) | (with_reducible refine Kd.C_drewN ?_ _) | (with_reducible refine Kd.C_drew ?_))); (case side6 => exact (Kd.R_reads' HO_578008.out).2.1); rintro e w29 ⟨rfl, hb⟩; refine sh7_ (Kd.R_below (ra_ HO_7) hb) (Kd.R_below (ra_ HO_8) hb) (Kd.R_below (ra_ HO_578001) hb) (Kd.R_below (ra_ HO_578002) hb) (Kd.R_below (ra_ HO_578008) hb) (blk_below (bk_ BK577) hb) (below_step (bl1_ HB GE577) hb) ?_; clear HO_7 HO_8 HO_578001 HO_578002 HO_578008 BK577 HB hb; intro HO_7 HO_8 HO_578001 HO_578002 HO_578008 BK577 HB; obtain ⟨Ao30, co30, eo30⟩ := Kd.R_slice HO_8.out; subst eo30) | (go_at_call 17; (with_reducible refine (impl_InSpans.calls kj16 _ _ t581 x9_1 t586 _ ?side1 ?side2 A23.out).mono ?_); (case side1 => repeat (first | exact (Kd.R_reads' HO_8.out).2.2 | (with_reducible refine Kd.C_alloc ?_ _) | (with_reducible refine Kd.C_drewN ?_ _) | (with_reducible refine Kd.C_drew ?_))); (case side2 => exact (Kd.R_reads' HO_8.out).2.1); rintro e w31 ⟨rfl, hb⟩; refine sh7_ (Kd.R_below (ra_ HO_7) hb) (Kd.R_below (ra_ HO_8) hb) (Kd.R_below (ra_ HO_578001) hb) (Kd.R_below (ra_ HO_578002) hb) (Kd.R_below (ra_ HO_578008) hb) (blk_below (bk_ BK577) hb) (below_step (bl1_ HB GE577) hb) ?_; clear HO_7 HO_8 HO_578001 HO_578002 HO_578008 BK577 HB hb; intro HO_7 HO_8 HO_578001 HO_578002 HO_578008 BK577 HB; have hcz32 := cf10_ BK577) | (go_at_call 21; (with_reducible refine (impl_ShadowAt.calls t558 _ _ t559 _ _ t562 t565 t566 t567 t568 t569 _ _ t570 t573 t574 x9_1 t587 _ ?side1 ?side2 ?side3 ?side4 ?side5 ?side6 A24.out).mono ?_); (case side1 => repeat (first | exact (Kd.R_reads' HO_578001.out).2.2 | (with_reducible refine Kd.C_alloc ?_ _) | (with_reducible refine Kd.C_drewN ?_ _) | (with_reducible refine Kd.C_drew ?_))); (case side2 => exact (Kd.R_reads' HO_578001.out).2.1); (case side3 => repeat (first | exact (Kd.R_reads' HO_578002.out).2.2 | (with_reducible refine Kd.C_alloc ?_ _) | (with_reducible refine Kd.C_drewN ?_ _) | (with_reducible refine Kd.C_drew ?_))); (case side4 => exact (Kd.R_reads' HO_578002.out).2.1); (case side5 => repeat (first | exact (Kd.R_reads' HO_578008.out).2.2 | (with_reducible refine Kd.C_alloc ?_ _) | (with_reducible refine Kd.C_drewN ?_ _) | (with_reducible refine Kd.C_drew ?_))); (case side6 => exact (Kd.R_reads' HO_578008.out).2.1); rintro e w33 ⟨rfl, hb⟩; refine sh7_ (Kd.R_below (ra_ HO_7) hb) (Kd.R_below (ra_ HO_8) hb) (Kd.R_below (ra_ HO_578001) hb) (Kd.R_below (ra_ HO_578002) hb) (Kd.R_below (ra_ HO_578008) hb) (blk_below (bk_ BK577) hb) (below_step (bl1_ HB GE577) hb) ?_; clear HO_7 HO_8 HO_578001 HO_578002 HO_578008 BK577 HB hb; intro HO_7 HO_8 HO_578001 HO_578002 HO_578008 BK577 HB))
          go_roundg kj16
          case measure => have := HK1.out; have := HJ16.out; omega
          case rel => exact ⟨(wrap64 (x9_1 + 1)), (by first | rfl | (simp; done) | (simp [*]; done)), H', ⟨by have := HK1.out; have := HJ16.out; omega⟩, ⟨ra_ HO_7⟩, ⟨ra_ HO_8⟩, ⟨ra_ HO_578001⟩, ⟨ra_ HO_578002⟩, ⟨ra_ HO_578008⟩, ⟨by (with_reducible repeat (first | refine blk_drewN ?_ _ | refine blk_drew ?_ | refine blk_alloc ?_ _)); exact BK577.out⟩, ⟨bl1_ HB GE577⟩⟩
       ·replace c20 := Bool.eq_false_iff.mpr c20
        subst c20
        have H1 : (if (t584 != false) = true then (some false) else ((impl_InSpans.f kj16 t581 x9_1).bind fun t588 => (if (t588 != false) = true then (some false) else (laws_FnShadows.l0 kj16 l0 t574 t575 t576 t578 t581 (wrap64 (x9_1 + 1)) t558 t559 t562 t565 t566 t567 t568 t569 t570 t573)))) = some true := by first | (rw [if_neg (show ¬ (false = true) by decide)] at H; exact H) | rfl
        clear H
        have H := H1
        clear H1
        by_cases c34 : (t584 != false) = true
        ·rw [if_pos c34] at H
         have c34b0 : (t584 != false) = true := c34
         (try (have c34b1 : decide (t584 = false) = false := by simpa using c34))
         (try (have c34b2 : (t584 == false) = false := by simpa using c34))
         (try (have c34b3 : ¬ (t584 = false) := by simpa using c34))
         clear c34
         exact absurd H (by simp)
        ·rw [if_neg c34] at H
         have c34b0 : (t584 != false) = false := by simpa using c34
         (try (have c34b1 : decide (t584 = false) = true := by simpa using c34))
         (try (have c34b2 : (t584 == false) = true := by simpa using c34))
         clear c34
         replace H := bs_ H
         obtain ⟨t588, A35, H⟩ := H
         by_cases c36 : (t588 != false) = true
         ·rw [if_pos c36] at H
          have c36b0 : (t588 != false) = true := c36
          (try (have c36b1 : decide (t588 = false) = false := by simpa using c36))
          (try (have c36b2 : (t588 == false) = false := by simpa using c36))
          (try (have c36b3 : ¬ (t588 = false) := by simpa using c36))
          clear c36
          exact absurd H (by simp)
         ·rw [if_neg c36] at H
          have c36b0 : (t588 != false) = false := by simpa using c36
          (try (have c36b1 : decide (t588 = false) = true := by simpa using c36))
          (try (have c36b2 : (t588 == false) = true := by simpa using c36))
          clear c36
          have H' := Aside0.mk H
          clear H
          obtain ⟨Ao37, co37, eo37⟩ := Kd.R_slice HO_7.out
          subst eo37
          go_wp2_with (first | ((with_reducible refine gate_callee (f := 17) rfl ?_); refine gl_ 50 Try.func17 (impl_InSpans.calls kj16 _ _ t578 x9_1 t584 _ (cr_ HO_7) (rl_ HO_7) A19.out) ?_; rintro e w38 ⟨rfl, hb⟩; refine ⟨_, rfl, sh7_ (Kd.R_below (ra_ HO_7) hb) (Kd.R_below (ra_ HO_8) hb) (Kd.R_below (ra_ HO_578001) hb) (Kd.R_below (ra_ HO_578002) hb) (Kd.R_below (ra_ HO_578008) hb) (blk_below (bk_ BK577) hb) (below_step (bl1_ HB GE577) hb) ?_⟩; clear HO_7 HO_8 HO_578001 HO_578002 HO_578008 BK577 HB hb; intro HO_7 HO_8 HO_578001 HO_578002 HO_578008 BK577 HB; obtain ⟨Ao39, co39, eo39⟩ := Kd.R_slice HO_8.out; subst eo39) | (go_at_call 17; (with_reducible refine (impl_InSpans.calls kj16 _ _ t581 x9_1 t588 _ ?side1 ?side2 A35.out).mono ?_); (case side1 => repeat (first | exact (Kd.R_reads' HO_8.out).2.2 | (with_reducible refine Kd.C_alloc ?_ _) | (with_reducible refine Kd.C_drewN ?_ _) | (with_reducible refine Kd.C_drew ?_))); (case side2 => exact (Kd.R_reads' HO_8.out).2.1); rintro e w40 ⟨rfl, hb⟩; refine sh7_ (Kd.R_below (ra_ HO_7) hb) (Kd.R_below (ra_ HO_8) hb) (Kd.R_below (ra_ HO_578001) hb) (Kd.R_below (ra_ HO_578002) hb) (Kd.R_below (ra_ HO_578008) hb) (blk_below (bk_ BK577) hb) (below_step (bl1_ HB GE577) hb) ?_; clear HO_7 HO_8 HO_578001 HO_578002 HO_578008 BK577 HB hb; intro HO_7 HO_8 HO_578001 HO_578002 HO_578008 BK577 HB))
          go_roundg kj16
          case measure => have := HK1.out; have := HJ16.out; omega
          case rel => exact ⟨(wrap64 (x9_1 + 1)), (by first | rfl | (simp; done) | (simp [*]; done)), H', ⟨by have := HK1.out; have := HJ16.out; omega⟩, ⟨ra_ HO_7⟩, ⟨ra_ HO_8⟩, ⟨ra_ HO_578001⟩, ⟨ra_ HO_578002⟩, ⟨ra_ HO_578008⟩, ⟨by (with_reducible repeat (first | refine blk_drewN ?_ _ | refine blk_drew ?_ | refine blk_alloc ?_ _)); exact BK577.out⟩, ⟨bl1_ HB GE577⟩⟩
    ·rw [if_neg c16] at H
     have c16b0 : decide (x9_1 < t576) = false := decide_eq_false c16
     clear c16
     replace H := bs_ H
     obtain ⟨⟨t589, t590, t593, t596, t597, t598, t599, t600, t601, t604, t605, t606⟩, A41, H⟩ := H
     dsimp only at H
     replace H := bs_ H
     obtain ⟨t608, A42, H⟩ := H
     replace H := bs_ H
     obtain ⟨⟨t609, t610⟩, A43, H⟩ := H
     dsimp only at H
     have H' := Aside0.mk H
     clear H
     go_wp2_with (first | ((with_reducible refine gate_callee (f := 22) rfl ?_); refine gl_ 76 Try.func22 (spec_DrawShadowAt.calls k1 _ _ l0 t589 t590 t593 t596 t597 t598 t599 t600 t601 t604 t605 t606 _ (ck_ HR0 HB) HC0.out A41.out) ?_; rintro e w44 ⟨v591, v594, v602, rfl, ho0, ho1, ho2, hb⟩; refine ⟨_, rfl, sh10_ (Kd.R_below (ra_ HO_7) hb) (Kd.R_below (ra_ HO_8) hb) (Kd.R_elder' (ra_ HO_578001) (Kd.R_base ho0) hb) (Kd.R_elder' (ra_ HO_578002) (Kd.R_base ho1) hb) (Kd.R_elder' (ra_ HO_578008) (Kd.R_base ho2) hb) (Kd.R_lower (Kd.R_new' ho0 (Kd.R_lt (ra_ HO_578001))) (below_size (bl1_ HB GE577))) (Kd.R_lower (Kd.R_new' ho1 (Kd.R_lt (ra_ HO_578002))) (below_size (bl1_ HB GE577))) (Kd.R_lower (Kd.R_new' ho2 (Kd.R_lt (ra_ HO_578008))) (below_size (bl1_ HB GE577))) (blk_below (bk_ BK577) hb) (below_step (bl1_ HB GE577) hb) ?_⟩; clear HO_7 HO_8 HO_578001 HO_578002 HO_578008 BK577 HB hb ho0 ho1 ho2; intro HO_7 HO_8 HO_578001 HO_578002 HO_578008 HO592 HO595 HO603 BK577 HB) | ((with_reducible refine gate_dst (N := 11) rfl ?_); (try (refine gate_guard (by rfl) ?_; dsimp only)); refine box_event ?hg (N := 11) ?hd (cs := #[iv_ 0, .slice none 0 0, .slice none 0 0, iv_ 0, iv_ 0, iv_ 0, iv_ 0, iv_ 0, .slice none 0 0, iv_ 0]) (t := 28) ?hr ?_; (case hd => rfl); (case hg => rfl); (case hr => first | (go_simp; done) | (go_simp; rfl)); intro gb607 hg w45 hbox hb; refine sh14_ (Kd.R_below (ra_ HO_7) hb) (Kd.R_below (ra_ HO_8) hb) (Kd.R_below (ra_ HO_578001) hb) (Kd.R_below (ra_ HO_578002) hb) (Kd.R_below (ra_ HO_578008) hb) (Kd.R_below (ra_ HO592) hb) (Kd.R_below (ra_ HO595) hb) (Kd.R_below (ra_ HO603) hb) (blk_below (bk_ BK577) hb) (below_step (bl1_ HB GE577) hb) hbox (ge_ hg (bl1_ HB GE577)) (nl_ hg (bk_ BK577)) (ng_ hg (bk_ BK577)) ?_; clear HO_7 HO_8 HO_578001 HO_578002 HO_578008 HO592 HO595 HO603 BK577 HB hb hbox hg; intro HO_7 HO_8 HO_578001 HO_578002 HO_578008 HO592 HO595 HO603 BK577 HB BK607 GE607 NB577_607 NB607_577; have hnb46 := NB607_577.out; have hnc46 := NB577_607.out; have hcz47 := cf10_ BK607; obtain ⟨Ao48, co48, eo48⟩ := Kd.R_slice HO592.out; subst eo48; obtain ⟨Ao49, co49, eo49⟩ := Kd.R_slice HO595.out; subst eo49; obtain ⟨Ao50, co50, eo50⟩ := Kd.R_slice HO603.out; subst eo50) | ((with_reducible refine gate_callee (f := 21) rfl ?_); refine goesL_ (some 83) rfl rfl Try.func21 (by kernel_rfl) rfl #[.agg #[iv_ t589, .slice Ao48 t590.length co48, .slice Ao49 t593.length co49, iv_ t596, iv_ t597, iv_ t598, iv_ t599, iv_ t600, .slice Ao50 t601.length co50, iv_ t604], iv_ t605, iv_ t606] rfl mp_ ?_; (with_reducible refine (impl_ShadowAt.calls t589 _ _ t590 _ _ t593 t596 t597 t598 t599 t600 _ _ t601 t604 t605 t606 t608 _ ?side1 ?side2 ?side3 ?side4 ?side5 ?side6 A42.out).mono ?_); (case side1 => refine (Kd.R_reads' (e := 72) (base := w.heap.size) (ok := fun k_ => (True ∧ some k_ ≠ (.slice Ao10 t559.length co10 : Value).ownBlock)) (n := t590.length) (c := co48) ?_).2.2; exact (by (with_reducible repeat (first | apply Kd.R_alloc | apply Kd.R_drewN | apply Kd.R_drew)); exact (Kd.R_mono (Kd.R_far (p := ⟨gb607, 9, none⟩) (Kd.R_far (p := ⟨gb607, 8, none⟩) (Kd.R_far (p := ⟨gb607, 7, none⟩) (Kd.R_far (p := ⟨gb607, 6, none⟩) (Kd.R_far (p := ⟨gb607, 5, none⟩) (Kd.R_far (p := ⟨gb607, 4, none⟩) (Kd.R_far (p := ⟨gb607, 3, none⟩) (Kd.R_far (p := ⟨gb607, 2, none⟩) (Kd.R_far (p := ⟨gb607, 1, none⟩) (Kd.R_far (p := ⟨gb607, 0, none⟩) (Kd.R_types HO592.out BK607.out (by decide)) (fun _ hk => hk.2) (iv_ t589)) (fun _ hk => hk.2) (.slice Ao48 t590.length co48)) (fun _ hk => hk.2) (.slice Ao49 t593.length co49)) (fun _ hk => hk.2) (iv_ t596)) (fun _ hk => hk.2) (iv_ t597)) (fun _ hk => hk.2) (iv_ t598)) (fun _ hk => hk.2) (iv_ t599)) (fun _ hk => hk.2) (iv_ t600)) (fun _ hk => hk.2) (.slice Ao50 t601.length co50)) (fun _ hk => hk.2) (iv_ t604)) (fun _ h_ => h_.1)))); (case side2 => exact (Kd.R_reads' HO592.out).2.1); (case side3 => refine (Kd.R_reads' (e := 74) (base := w.heap.size) (ok := fun k_ => (True ∧ some k_ ≠ (.slice Ao11 t562.length co11 : Value).ownBlock)) (n := t593.length) (c := co49) ?_).2.2; exact (by (with_reducible repeat (first | apply Kd.R_alloc | apply Kd.R_drewN | apply Kd.R_drew)); exact (Kd.R_mono (Kd.R_far (p := ⟨gb607, 9, none⟩) (Kd.R_far (p := ⟨gb607, 8, none⟩) (Kd.R_far (p := ⟨gb607, 7, none⟩) (Kd.R_far (p := ⟨gb607, 6, none⟩) (Kd.R_far (p := ⟨gb607, 5, none⟩) (Kd.R_far (p := ⟨gb607, 4, none⟩) (Kd.R_far (p := ⟨gb607, 3, none⟩) (Kd.R_far (p := ⟨gb607, 2, none⟩) (Kd.R_far (p := ⟨gb607, 1, none⟩) (Kd.R_far (p := ⟨gb607, 0, none⟩) (Kd.R_types HO595.out BK607.out (by decide)) (fun _ hk => hk.2) (iv_ t589)) (fun _ hk => hk.2) (.slice Ao48 t590.length co48)) (fun _ hk => hk.2) (.slice Ao49 t593.length co49)) (fun _ hk => hk.2) (iv_ t596)) (fun _ hk => hk.2) (iv_ t597)) (fun _ hk => hk.2) (iv_ t598)) (fun _ hk => hk.2) (iv_ t599)) (fun _ hk => hk.2) (iv_ t600)) (fun _ hk => hk.2) (.slice Ao50 t601.length co50)) (fun _ hk => hk.2) (iv_ t604)) (fun _ h_ => h_.1)))); (case side4 => exact (Kd.R_reads' HO595.out).2.1); (case side5 => refine (Kd.R_reads' (e := 88) (base := w.heap.size) (ok := fun k_ => (True ∧ some k_ ≠ (.slice Ao12 t570.length co12 : Value).ownBlock)) (n := t601.length) (c := co50) ?_).2.2; exact (by (with_reducible repeat (first | apply Kd.R_alloc | apply Kd.R_drewN | apply Kd.R_drew)); exact (Kd.R_mono (Kd.R_far (p := ⟨gb607, 9, none⟩) (Kd.R_far (p := ⟨gb607, 8, none⟩) (Kd.R_far (p := ⟨gb607, 7, none⟩) (Kd.R_far (p := ⟨gb607, 6, none⟩) (Kd.R_far (p := ⟨gb607, 5, none⟩) (Kd.R_far (p := ⟨gb607, 4, none⟩) (Kd.R_far (p := ⟨gb607, 3, none⟩) (Kd.R_far (p := ⟨gb607, 2, none⟩) (Kd.R_far (p := ⟨gb607, 1, none⟩) (Kd.R_far (p := ⟨gb607, 0, none⟩) (Kd.R_types HO603.out BK607.out (by decide)) (fun _ hk => hk.2) (iv_ t589)) (fun _ hk => hk.2) (.slice Ao48 t590.length co48)) (fun _ hk => hk.2) (.slice Ao49 t593.length co49)) (fun _ hk => hk.2) (iv_ t596)) (fun _ hk => hk.2) (iv_ t597)) (fun _ hk => hk.2) (iv_ t598)) (fun _ hk => hk.2) (iv_ t599)) (fun _ hk => hk.2) (iv_ t600)) (fun _ hk => hk.2) (.slice Ao50 t601.length co50)) (fun _ hk => hk.2) (iv_ t604)) (fun _ h_ => h_.1)))); (case side6 => exact (Kd.R_reads' HO603.out).2.1); rintro e w51 ⟨rfl, hb⟩; refine ⟨_, rfl, sh11_ (Kd.R_below (by (with_reducible repeat (first | apply Kd.R_alloc | apply Kd.R_drewN | apply Kd.R_drew)); exact (Kd.R_mono (Kd.R_far (p := ⟨gb607, 9, none⟩) (Kd.R_far (p := ⟨gb607, 8, none⟩) (Kd.R_far (p := ⟨gb607, 7, none⟩) (Kd.R_far (p := ⟨gb607, 6, none⟩) (Kd.R_far (p := ⟨gb607, 5, none⟩) (Kd.R_far (p := ⟨gb607, 4, none⟩) (Kd.R_far (p := ⟨gb607, 3, none⟩) (Kd.R_far (p := ⟨gb607, 2, none⟩) (Kd.R_far (p := ⟨gb607, 1, none⟩) (Kd.R_far (p := ⟨gb607, 0, none⟩) (Kd.R_types HO_7.out BK607.out (by decide)) (fun _ hk => hk.2) (iv_ t589)) (fun _ hk => hk.2) (.slice Ao48 t590.length co48)) (fun _ hk => hk.2) (.slice Ao49 t593.length co49)) (fun _ hk => hk.2) (iv_ t596)) (fun _ hk => hk.2) (iv_ t597)) (fun _ hk => hk.2) (iv_ t598)) (fun _ hk => hk.2) (iv_ t599)) (fun _ hk => hk.2) (iv_ t600)) (fun _ hk => hk.2) (.slice Ao50 t601.length co50)) (fun _ hk => hk.2) (iv_ t604)) (fun _ h_ => h_.1))) hb) (Kd.R_below (by (with_reducible repeat (first | apply Kd.R_alloc | apply Kd.R_drewN | apply Kd.R_drew)); exact (Kd.R_mono (Kd.R_far (p := ⟨gb607, 9, none⟩) (Kd.R_far (p := ⟨gb607, 8, none⟩) (Kd.R_far (p := ⟨gb607, 7, none⟩) (Kd.R_far (p := ⟨gb607, 6, none⟩) (Kd.R_far (p := ⟨gb607, 5, none⟩) (Kd.R_far (p := ⟨gb607, 4, none⟩) (Kd.R_far (p := ⟨gb607, 3, none⟩) (Kd.R_far (p := ⟨gb607, 2, none⟩) (Kd.R_far (p := ⟨gb607, 1, none⟩) (Kd.R_far (p := ⟨gb607, 0, none⟩) (Kd.R_types HO_8.out BK607.out (by decide)) (fun _ hk => hk.2) (iv_ t589)) (fun _ hk => hk.2) (.slice Ao48 t590.length co48)) (fun _ hk => hk.2) (.slice Ao49 t593.length co49)) (fun _ hk => hk.2) (iv_ t596)) (fun _ hk => hk.2) (iv_ t597)) (fun _ hk => hk.2) (iv_ t598)) (fun _ hk => hk.2) (iv_ t599)) (fun _ hk => hk.2) (iv_ t600)) (fun _ hk => hk.2) (.slice Ao50 t601.length co50)) (fun _ hk => hk.2) (iv_ t604)) (fun _ h_ => h_.1))) hb) (Kd.R_below (by (with_reducible repeat (first | apply Kd.R_alloc | apply Kd.R_drewN | apply Kd.R_drew)); exact (Kd.R_mono (Kd.R_far (p := ⟨gb607, 9, none⟩) (Kd.R_far (p := ⟨gb607, 8, none⟩) (Kd.R_far (p := ⟨gb607, 7, none⟩) (Kd.R_far (p := ⟨gb607, 6, none⟩) (Kd.R_far (p := ⟨gb607, 5, none⟩) (Kd.R_far (p := ⟨gb607, 4, none⟩) (Kd.R_far (p := ⟨gb607, 3, none⟩) (Kd.R_far (p := ⟨gb607, 2, none⟩) (Kd.R_far (p := ⟨gb607, 1, none⟩) (Kd.R_far (p := ⟨gb607, 0, none⟩) (Kd.R_types HO_578001.out BK607.out (by decide)) (fun _ hk => hk.2) (iv_ t589)) (fun _ hk => hk.2) (.slice Ao48 t590.length co48)) (fun _ hk => hk.2) (.slice Ao49 t593.length co49)) (fun _ hk => hk.2) (iv_ t596)) (fun _ hk => hk.2) (iv_ t597)) (fun _ hk => hk.2) (iv_ t598)) (fun _ hk => hk.2) (iv_ t599)) (fun _ hk => hk.2) (iv_ t600)) (fun _ hk => hk.2) (.slice Ao50 t601.length co50)) (fun _ hk => hk.2) (iv_ t604)) (fun _ h_ => h_.1))) hb) (Kd.R_below (by (with_reducible repeat (first | apply Kd.R_alloc | apply Kd.R_drewN | apply Kd.R_drew)); exact (Kd.R_mono (Kd.R_far (p := ⟨gb607, 9, none⟩) (Kd.R_far (p := ⟨gb607, 8, none⟩) (Kd.R_far (p := ⟨gb607, 7, none⟩) (Kd.R_far (p := ⟨gb607, 6, none⟩) (Kd.R_far (p := ⟨gb607, 5, none⟩) (Kd.R_far (p := ⟨gb607, 4, none⟩) (Kd.R_far (p := ⟨gb607, 3, none⟩) (Kd.R_far (p := ⟨gb607, 2, none⟩) (Kd.R_far (p := ⟨gb607, 1, none⟩) (Kd.R_far (p := ⟨gb607, 0, none⟩) (Kd.R_types HO_578002.out BK607.out (by decide)) (fun _ hk => hk.2) (iv_ t589)) (fun _ hk => hk.2) (.slice Ao48 t590.length co48)) (fun _ hk => hk.2) (.slice Ao49 t593.length co49)) (fun _ hk => hk.2) (iv_ t596)) (fun _ hk => hk.2) (iv_ t597)) (fun _ hk => hk.2) (iv_ t598)) (fun _ hk => hk.2) (iv_ t599)) (fun _ hk => hk.2) (iv_ t600)) (fun _ hk => hk.2) (.slice Ao50 t601.length co50)) (fun _ hk => hk.2) (iv_ t604)) (fun _ h_ => h_.1))) hb) (Kd.R_below (by (with_reducible repeat (first | apply Kd.R_alloc | apply Kd.R_drewN | apply Kd.R_drew)); exact (Kd.R_mono (Kd.R_far (p := ⟨gb607, 9, none⟩) (Kd.R_far (p := ⟨gb607, 8, none⟩) (Kd.R_far (p := ⟨gb607, 7, none⟩) (Kd.R_far (p := ⟨gb607, 6, none⟩) (Kd.R_far (p := ⟨gb607, 5, none⟩) (Kd.R_far (p := ⟨gb607, 4, none⟩) (Kd.R_far (p := ⟨gb607, 3, none⟩) (Kd.R_far (p := ⟨gb607, 2, none⟩) (Kd.R_far (p := ⟨gb607, 1, none⟩) (Kd.R_far (p := ⟨gb607, 0, none⟩) (Kd.R_types HO_578008.out BK607.out (by decide)) (fun _ hk => hk.2) (iv_ t589)) (fun _ hk => hk.2) (.slice Ao48 t590.length co48)) (fun _ hk => hk.2) (.slice Ao49 t593.length co49)) (fun _ hk => hk.2) (iv_ t596)) (fun _ hk => hk.2) (iv_ t597)) (fun _ hk => hk.2) (iv_ t598)) (fun _ hk => hk.2) (iv_ t599)) (fun _ hk => hk.2) (iv_ t600)) (fun _ hk => hk.2) (.slice Ao50 t601.length co50)) (fun _ hk => hk.2) (iv_ t604)) (fun _ h_ => h_.1))) hb) (Kd.R_below (by (with_reducible repeat (first | apply Kd.R_alloc | apply Kd.R_drewN | apply Kd.R_drew)); exact (Kd.R_mono (Kd.R_far (p := ⟨gb607, 9, none⟩) (Kd.R_far (p := ⟨gb607, 8, none⟩) (Kd.R_far (p := ⟨gb607, 7, none⟩) (Kd.R_far (p := ⟨gb607, 6, none⟩) (Kd.R_far (p := ⟨gb607, 5, none⟩) (Kd.R_far (p := ⟨gb607, 4, none⟩) (Kd.R_far (p := ⟨gb607, 3, none⟩) (Kd.R_far (p := ⟨gb607, 2, none⟩) (Kd.R_far (p := ⟨gb607, 1, none⟩) (Kd.R_far (p := ⟨gb607, 0, none⟩) (Kd.R_types HO592.out BK607.out (by decide)) (fun _ hk => hk.2) (iv_ t589)) (fun _ hk => hk.2) (.slice Ao48 t590.length co48)) (fun _ hk => hk.2) (.slice Ao49 t593.length co49)) (fun _ hk => hk.2) (iv_ t596)) (fun _ hk => hk.2) (iv_ t597)) (fun _ hk => hk.2) (iv_ t598)) (fun _ hk => hk.2) (iv_ t599)) (fun _ hk => hk.2) (iv_ t600)) (fun _ hk => hk.2) (.slice Ao50 t601.length co50)) (fun _ hk => hk.2) (iv_ t604)) (fun _ h_ => h_.1))) hb) (Kd.R_below (by (with_reducible repeat (first | apply Kd.R_alloc | apply Kd.R_drewN | apply Kd.R_drew)); exact (Kd.R_mono (Kd.R_far (p := ⟨gb607, 9, none⟩) (Kd.R_far (p := ⟨gb607, 8, none⟩) (Kd.R_far (p := ⟨gb607, 7, none⟩) (Kd.R_far (p := ⟨gb607, 6, none⟩) (Kd.R_far (p := ⟨gb607, 5, none⟩) (Kd.R_far (p := ⟨gb607, 4, none⟩) (Kd.R_far (p := ⟨gb607, 3, none⟩) (Kd.R_far (p := ⟨gb607, 2, none⟩) (Kd.R_far (p := ⟨gb607, 1, none⟩) (Kd.R_far (p := ⟨gb607, 0, none⟩) (Kd.R_types HO595.out BK607.out (by decide)) (fun _ hk => hk.2) (iv_ t589)) (fun _ hk => hk.2) (.slice Ao48 t590.length co48)) (fun _ hk => hk.2) (.slice Ao49 t593.length co49)) (fun _ hk => hk.2) (iv_ t596)) (fun _ hk => hk.2) (iv_ t597)) (fun _ hk => hk.2) (iv_ t598)) (fun _ hk => hk.2) (iv_ t599)) (fun _ hk => hk.2) (iv_ t600)) (fun _ hk => hk.2) (.slice Ao50 t601.length co50)) (fun _ hk => hk.2) (iv_ t604)) (fun _ h_ => h_.1))) hb) (Kd.R_below (by (with_reducible repeat (first | apply Kd.R_alloc | apply Kd.R_drewN | apply Kd.R_drew)); exact (Kd.R_mono (Kd.R_far (p := ⟨gb607, 9, none⟩) (Kd.R_far (p := ⟨gb607, 8, none⟩) (Kd.R_far (p := ⟨gb607, 7, none⟩) (Kd.R_far (p := ⟨gb607, 6, none⟩) (Kd.R_far (p := ⟨gb607, 5, none⟩) (Kd.R_far (p := ⟨gb607, 4, none⟩) (Kd.R_far (p := ⟨gb607, 3, none⟩) (Kd.R_far (p := ⟨gb607, 2, none⟩) (Kd.R_far (p := ⟨gb607, 1, none⟩) (Kd.R_far (p := ⟨gb607, 0, none⟩) (Kd.R_types HO603.out BK607.out (by decide)) (fun _ hk => hk.2) (iv_ t589)) (fun _ hk => hk.2) (.slice Ao48 t590.length co48)) (fun _ hk => hk.2) (.slice Ao49 t593.length co49)) (fun _ hk => hk.2) (iv_ t596)) (fun _ hk => hk.2) (iv_ t597)) (fun _ hk => hk.2) (iv_ t598)) (fun _ hk => hk.2) (iv_ t599)) (fun _ hk => hk.2) (iv_ t600)) (fun _ hk => hk.2) (.slice Ao50 t601.length co50)) (fun _ hk => hk.2) (iv_ t604)) (fun _ h_ => h_.1))) hb) (blk_below (g := gb577) (o := .cells #[iv_ t558, .slice Ao10 t559.length co10, .slice Ao11 t562.length co11, iv_ t565, iv_ t566, iv_ t567, iv_ t568, iv_ t569, .slice Ao12 t570.length co12, iv_ t573] 28 (0, 0)) (bp_ BK577) hb) (blk_below (g := gb607) (o := .cells #[iv_ t589, .slice Ao48 t590.length co48, .slice Ao49 t593.length co49, iv_ t596, iv_ t597, iv_ t598, iv_ t599, iv_ t600, .slice Ao50 t601.length co50, iv_ t604] 28 (0, 0)) (bp_ BK607) hb) (below_step (bl2_ HB GE577 GE607) hb) ?_⟩; clear HO_7 HO_8 HO_578001 HO_578002 HO_578008 HO592 HO595 HO603 BK577 BK607 HB hb; intro HO_7 HO_8 HO_578001 HO_578002 HO_578008 HO592 HO595 HO603 BK577 BK607 HB; have hcz52 := cf10_ BK607) | ((with_reducible refine gate_callee (f := 13) rfl ?_); refine gl_ 87 Try.func13 (impl_NodeAt.calls t589 _ _ t590 _ _ t593 t596 t597 t598 t599 t600 _ _ t601 t604 t605 t606 t609 t610 _ (cr_ HO592) (rl_ HO592) (cr_ HO595) (rl_ HO595) (cr_ HO603) (rl_ HO603) A43.out) ?_; rintro e w53 ⟨rfl, hb⟩; refine ⟨_, rfl, sh11_ (Kd.R_below (ra_ HO_7) hb) (Kd.R_below (ra_ HO_8) hb) (Kd.R_below (ra_ HO_578001) hb) (Kd.R_below (ra_ HO_578002) hb) (Kd.R_below (ra_ HO_578008) hb) (Kd.R_below (ra_ HO592) hb) (Kd.R_below (ra_ HO595) hb) (Kd.R_below (ra_ HO603) hb) (blk_below (bk_ BK577) hb) (blk_below (bk_ BK607) hb) (below_step (bl2_ HB GE577 GE607) hb) ?_⟩; clear HO_7 HO_8 HO_578001 HO_578002 HO_578008 HO592 HO595 HO603 BK577 BK607 HB hb; intro HO_7 HO_8 HO_578001 HO_578002 HO_578008 HO592 HO595 HO603 BK577 BK607 HB) | ((with_reducible refine gate_dst (N := 15) rfl ?_); (try (refine gate_guard (by rfl) ?_; dsimp only)); refine box_event ?hg (N := 15) ?hd (cs := #[iv_ 0, iv_ 0]) (t := 35) ?hr ?_; (case hd => rfl); (case hg => rfl); (case hr => first | (go_simp; done) | (go_simp; rfl)); intro gb611 hg w54 hbox hb; refine sh17_ (Kd.R_below (ra_ HO_7) hb) (Kd.R_below (ra_ HO_8) hb) (Kd.R_below (ra_ HO_578001) hb) (Kd.R_below (ra_ HO_578002) hb) (Kd.R_below (ra_ HO_578008) hb) (Kd.R_below (ra_ HO592) hb) (Kd.R_below (ra_ HO595) hb) (Kd.R_below (ra_ HO603) hb) (blk_below (bk_ BK577) hb) (blk_below (bk_ BK607) hb) (below_step (bl2_ HB GE577 GE607) hb) hbox (ge_ hg (bl2_ HB GE577 GE607)) (nl_ hg (bk_ BK577)) (ng_ hg (bk_ BK577)) (nl_ hg (bk_ BK607)) (ng_ hg (bk_ BK607)) ?_; clear HO_7 HO_8 HO_578001 HO_578002 HO_578008 HO592 HO595 HO603 BK577 BK607 HB hb hbox hg; intro HO_7 HO_8 HO_578001 HO_578002 HO_578008 HO592 HO595 HO603 BK577 BK607 HB BK611 GE611 NB577_611 NB611_577 NB607_611 NB611_607; have hnb55 := NB611_577.out; have hnc55 := NB577_611.out; have hnb56 := NB611_607.out; have hnc56 := NB607_611.out; have hcz57 := cf2_ BK611))
     go_loopg [16] k1 (fun kq v16 w' => ∃ (x16_2 : Int), v16 = iv_ x16_2 ∧ Aside0 (laws_FnShadows.l1 kq t574 t575 t576 t581 t605 t606 t608 x16_2 t558 t559 t562 t565 t566 t567 t568 t569 t570 t573 t589 t590 t593 t596 t597 t598 t599 t600 t601 t604 t609 t610 = some true) ∧ Aside0 (kq ≤ k1) ∧ Aside0 (Kd.R k82 82 w' w.heap.size (fun _ => True) v582 t581) ∧ Aside0 (Kd.R k72 72 w' w.heap.size (fun k_ => some k_ ≠ ((.slice Ao48 t590.length co48) : Value).ownBlock) (.slice Ao10 t559.length co10) t559) ∧ Aside0 (Kd.R k74 74 w' w.heap.size (fun k_ => some k_ ≠ ((.slice Ao49 t593.length co49) : Value).ownBlock) (.slice Ao11 t562.length co11) t562) ∧ Aside0 (Kd.R k88 88 w' w.heap.size (fun k_ => some k_ ≠ ((.slice Ao50 t601.length co50) : Value).ownBlock) (.slice Ao12 t570.length co12) t570) ∧ Aside0 (Kd.R k72 72 w' w.heap.size (fun k_ => some k_ ≠ ((.slice Ao10 t559.length co10) : Value).ownBlock) (.slice Ao48 t590.length co48) t590) ∧ Aside0 (Kd.R k74 74 w' w.heap.size (fun k_ => some k_ ≠ ((.slice Ao11 t562.length co11) : Value).ownBlock) (.slice Ao49 t593.length co49) t593) ∧ Aside0 (Kd.R k88 88 w' w.heap.size (fun k_ => some k_ ≠ ((.slice Ao12 t570.length co12) : Value).ownBlock) (.slice Ao50 t601.length co50) t601) ∧ Aside0 (w'.heap[gb577]? = some (.cells #[iv_ t558, (.slice Ao10 t559.length co10), (.slice Ao11 t562.length co11), iv_ t565, iv_ t566, iv_ t567, iv_ t568, iv_ t569, (.slice Ao12 t570.length co12), iv_ t573] 28 (0, 0))) ∧ Aside0 (w'.heap[gb607]? = some (.cells #[iv_ t589, (.slice Ao48 t590.length co48), (.slice Ao49 t593.length co49), iv_ t596, iv_ t597, iv_ t598, iv_ t599, iv_ t600, (.slice Ao50 t601.length co50), iv_ t604] 28 (0, 0))) ∧ Aside0 (w'.heap[gb611]? = some (.cells #[iv_ t609, iv_ t610] 35 (0, 0))) ∧ Aside0 (Below w.heap.size w w'))
     case atStart => exact ⟨(0), (by first | rfl | (simp; done) | (simp [*]; done)), H', ⟨Nat.le_refl _⟩, ⟨by (with_reducible repeat (first | apply Kd.R_alloc | apply Kd.R_drewN | apply Kd.R_drew)); exact Kd.R_mono (Kd.R_far (p := ⟨gb611, 1, none⟩) (Kd.R_far (p := ⟨gb611, 0, none⟩) (Kd.R_types HO_8.out BK611.out (by decide)) (fun _ hk => hk.2) (iv_ t609)) (fun _ hk => hk.2) (iv_ t610)) (fun _ hk => trivial)⟩, ⟨by (with_reducible repeat (first | apply Kd.R_alloc | apply Kd.R_drewN | apply Kd.R_drew)); exact Kd.R_mono (Kd.R_far (p := ⟨gb611, 1, none⟩) (Kd.R_far (p := ⟨gb611, 0, none⟩) (Kd.R_types HO_578001.out BK611.out (by decide)) (fun _ hk => hk.2) (iv_ t609)) (fun _ hk => hk.2) (iv_ t610)) (fun _ hk => hk.1.2)⟩, ⟨by (with_reducible repeat (first | apply Kd.R_alloc | apply Kd.R_drewN | apply Kd.R_drew)); exact Kd.R_mono (Kd.R_far (p := ⟨gb611, 1, none⟩) (Kd.R_far (p := ⟨gb611, 0, none⟩) (Kd.R_types HO_578002.out BK611.out (by decide)) (fun _ hk => hk.2) (iv_ t609)) (fun _ hk => hk.2) (iv_ t610)) (fun _ hk => hk.1.2)⟩, ⟨by (with_reducible repeat (first | apply Kd.R_alloc | apply Kd.R_drewN | apply Kd.R_drew)); exact Kd.R_mono (Kd.R_far (p := ⟨gb611, 1, none⟩) (Kd.R_far (p := ⟨gb611, 0, none⟩) (Kd.R_types HO_578008.out BK611.out (by decide)) (fun _ hk => hk.2) (iv_ t609)) (fun _ hk => hk.2) (iv_ t610)) (fun _ hk => hk.1.2)⟩, ⟨by (with_reducible repeat (first | apply Kd.R_alloc | apply Kd.R_drewN | apply Kd.R_drew)); exact Kd.R_mono (Kd.R_far (p := ⟨gb611, 1, none⟩) (Kd.R_far (p := ⟨gb611, 0, none⟩) (Kd.R_types HO592.out BK611.out (by decide)) (fun _ hk => hk.2) (iv_ t609)) (fun _ hk => hk.2) (iv_ t610)) (fun _ hk => hk.1.2)⟩, ⟨by (with_reducible repeat (first | apply Kd.R_alloc | apply Kd.R_drewN | apply Kd.R_drew)); exact Kd.R_mono (Kd.R_far (p := ⟨gb611, 1, none⟩) (Kd.R_far (p := ⟨gb611, 0, none⟩) (Kd.R_types HO595.out BK611.out (by decide)) (fun _ hk => hk.2) (iv_ t609)) (fun _ hk => hk.2) (iv_ t610)) (fun _ hk => hk.1.2)⟩, ⟨by (with_reducible repeat (first | apply Kd.R_alloc | apply Kd.R_drewN | apply Kd.R_drew)); exact Kd.R_mono (Kd.R_far (p := ⟨gb611, 1, none⟩) (Kd.R_far (p := ⟨gb611, 0, none⟩) (Kd.R_types HO603.out BK611.out (by decide)) (fun _ hk => hk.2) (iv_ t609)) (fun _ hk => hk.2) (iv_ t610)) (fun _ hk => hk.1.2)⟩, ⟨by (with_reducible repeat (first | refine blk_drewN ?_ _ | refine blk_drew ?_ | refine blk_alloc ?_ _)); refine blk_far ?_ NB577_611.out _; (with_reducible repeat (first | refine blk_drewN ?_ _ | refine blk_drew ?_ | refine blk_alloc ?_ _)); refine blk_far ?_ NB577_611.out _; (with_reducible repeat (first | refine blk_drewN ?_ _ | refine blk_drew ?_ | refine blk_alloc ?_ _)); exact BK577.out⟩, ⟨by (with_reducible repeat (first | refine blk_drewN ?_ _ | refine blk_drew ?_ | refine blk_alloc ?_ _)); refine blk_far ?_ NB607_611.out _; (with_reducible repeat (first | refine blk_drewN ?_ _ | refine blk_drew ?_ | refine blk_alloc ?_ _)); refine blk_far ?_ NB607_611.out _; (with_reducible repeat (first | refine blk_drewN ?_ _ | refine blk_drew ?_ | refine blk_alloc ?_ _)); exact BK607.out⟩, ⟨by (with_reducible repeat (first | refine blk_drewN ?_ _ | refine blk_drew ?_ | refine blk_alloc ?_ _)); refine blk_put (cs := #[iv_ t609, iv_ 0]) ?_ 1 _ rfl; (with_reducible repeat (first | refine blk_drewN ?_ _ | refine blk_drew ?_ | refine blk_alloc ?_ _)); refine blk_put (cs := #[iv_ 0, iv_ 0]) ?_ 0 _ rfl; (with_reducible repeat (first | refine blk_drewN ?_ _ | refine blk_drew ?_ | refine blk_alloc ?_ _)); exact BK611.out⟩, ⟨bl3_ HB GE577 GE607 GE611⟩⟩
     case round =>
      clear H'
      obtain ⟨x16_2, rfl, HA, HK2, HO_8, HO_578001, HO_578002, HO_578008, HO_608001, HO_608002, HO_608008, BK577, BK607, BK611, HB⟩ := hrel
      cases gk with
      | zero => exact absurd HA.out (by simp [laws_FnShadows.l1])
      | succ k2 =>
       have H := HA.out
       clear HA
       simp only [laws_FnShadows.l1] at H
       have HC58 := Aside0.mk H
       clear H
       go_upto_region 16 with (fail)
       go_cut [106] (fun v106 wc => ∃ (kq : Nat) (x106_57 : Bool), v106 = .bool x106_57 ∧ Aside0 (laws_FnShadows.j3 kq t574 t575 t576 t581 t605 t606 t608 x16_2 x106_57 t558 t559 t562 t565 t566 t567 t568 t569 t570 t573 t589 t590 t593 t596 t597 t598 t599 t600 t601 t604 t609 t610 = some true) ∧ Aside0 (kq ≤ k2) ∧ Aside0 (Kd.R k82 82 wc w.heap.size (fun _ => True) v582 t581) ∧ Aside0 (Kd.R k72 72 wc w.heap.size (fun k_ => some k_ ≠ ((.slice Ao48 t590.length co48) : Value).ownBlock) (.slice Ao10 t559.length co10) t559) ∧ Aside0 (Kd.R k74 74 wc w.heap.size (fun k_ => some k_ ≠ ((.slice Ao49 t593.length co49) : Value).ownBlock) (.slice Ao11 t562.length co11) t562) ∧ Aside0 (Kd.R k88 88 wc w.heap.size (fun k_ => some k_ ≠ ((.slice Ao50 t601.length co50) : Value).ownBlock) (.slice Ao12 t570.length co12) t570) ∧ Aside0 (Kd.R k72 72 wc w.heap.size (fun k_ => some k_ ≠ ((.slice Ao10 t559.length co10) : Value).ownBlock) (.slice Ao48 t590.length co48) t590) ∧ Aside0 (Kd.R k74 74 wc w.heap.size (fun k_ => some k_ ≠ ((.slice Ao11 t562.length co11) : Value).ownBlock) (.slice Ao49 t593.length co49) t593) ∧ Aside0 (Kd.R k88 88 wc w.heap.size (fun k_ => some k_ ≠ ((.slice Ao12 t570.length co12) : Value).ownBlock) (.slice Ao50 t601.length co50) t601) ∧ Aside0 (wc.heap[gb577]? = some (.cells #[iv_ t558, (.slice Ao10 t559.length co10), (.slice Ao11 t562.length co11), iv_ t565, iv_ t566, iv_ t567, iv_ t568, iv_ t569, (.slice Ao12 t570.length co12), iv_ t573] 28 (0, 0))) ∧ Aside0 (wc.heap[gb607]? = some (.cells #[iv_ t589, (.slice Ao48 t590.length co48), (.slice Ao49 t593.length co49), iv_ t596, iv_ t597, iv_ t598, iv_ t599, iv_ t600, (.slice Ao50 t601.length co50), iv_ t604] 28 (0, 0))) ∧ Aside0 (wc.heap[gb611]? = some (.cells #[iv_ t609, iv_ t610] 35 (0, 0))) ∧ Aside0 (Below w.heap.size w wc))
       case first =>
        have H := HC58.out
        clear HC58
        by_cases c59 : x16_2 ≤ t610
        ·rw [if_pos c59] at H
         have c59b0 := decide_eq_true c59
         clear c59
         (first | rw [c59b0] | (simp only [i64_w, i32_w]; rw [c59b0]) | skip)
         by_cases c60 : t608 = 1
         ·rw [if_pos c60] at H
          obtain ⟨c60b0, c60b1⟩ := bt_ c60
          clear c60
          have H' := Aside0.mk H
          clear H
          have hnb61 := NB611_577.out
          have hnc61 := NB577_611.out
          have hnb62 := NB611_607.out
          have hnc62 := NB607_611.out
          have hcz63 := cf2_ BK611
          go_wp2
          go_meet
          case rel => exact ⟨_, (false), (by first | rfl | (simp; done) | (simp [*]; done)), H', ⟨by have := HK1.out; have := HK2.out; first | omega | exact Nat.le_refl _⟩, ⟨ra_ HO_8⟩, ⟨ra_ HO_578001⟩, ⟨ra_ HO_578002⟩, ⟨ra_ HO_578008⟩, ⟨ra_ HO_608001⟩, ⟨ra_ HO_608002⟩, ⟨ra_ HO_608008⟩, ⟨by (with_reducible repeat (first | refine blk_drewN ?_ _ | refine blk_drew ?_ | refine blk_alloc ?_ _)); exact BK577.out⟩, ⟨by (with_reducible repeat (first | refine blk_drewN ?_ _ | refine blk_drew ?_ | refine blk_alloc ?_ _)); exact BK607.out⟩, ⟨by (with_reducible repeat (first | refine blk_drewN ?_ _ | refine blk_drew ?_ | refine blk_alloc ?_ _)); exact BK611.out⟩, ⟨bl3_ HB GE577 GE607 GE611⟩⟩
         ·rw [if_neg c60] at H
          obtain ⟨c60b0, c60b1⟩ := bn_ c60
          by_cases c64 : t605 ≥ 0
          ·rw [if_pos c64] at H
           have c64b0 : decide (0 ≤ t605) = true := decide_eq_true c64
           clear c64
           have H' := Aside0.mk H
           clear H
           have hnb65 := NB611_577.out
           have hnc65 := NB577_611.out
           have hnb66 := NB611_607.out
           have hnc66 := NB607_611.out
           have hcz67 := cf2_ BK611
           have hnb68 := NB607_577.out
           have hnc68 := NB577_607.out
           have hcz69 := cf10_ BK607
           go_wp2
           go_meet
           case rel => exact ⟨_, (decide (t605 < (t590.length : Int))), (by first | rfl | (simp; done) | (simp [*]; done)), H', ⟨by have := HK1.out; have := HK2.out; first | omega | exact Nat.le_refl _⟩, ⟨ra_ HO_8⟩, ⟨ra_ HO_578001⟩, ⟨ra_ HO_578002⟩, ⟨ra_ HO_578008⟩, ⟨ra_ HO_608001⟩, ⟨ra_ HO_608002⟩, ⟨ra_ HO_608008⟩, ⟨by (with_reducible repeat (first | refine blk_drewN ?_ _ | refine blk_drew ?_ | refine blk_alloc ?_ _)); exact BK577.out⟩, ⟨by (with_reducible repeat (first | refine blk_drewN ?_ _ | refine blk_drew ?_ | refine blk_alloc ?_ _)); exact BK607.out⟩, ⟨by (with_reducible repeat (first | refine blk_drewN ?_ _ | refine blk_drew ?_ | refine blk_alloc ?_ _)); exact BK611.out⟩, ⟨bl3_ HB GE577 GE607 GE611⟩⟩
          ·rw [if_neg c64] at H
           have c64b0 : decide (0 ≤ t605) = false := decide_eq_false c64
           clear c64
           have H' := Aside0.mk H
           clear H
           have hnb70 := NB611_577.out
           have hnc70 := NB577_611.out
           have hnb71 := NB611_607.out
           have hnc71 := NB607_611.out
           have hcz72 := cf2_ BK611
           go_wp2
           go_meet
           case rel => exact ⟨_, (false), (by first | rfl | (simp; done) | (simp [*]; done)), H', ⟨by have := HK1.out; have := HK2.out; first | omega | exact Nat.le_refl _⟩, ⟨ra_ HO_8⟩, ⟨ra_ HO_578001⟩, ⟨ra_ HO_578002⟩, ⟨ra_ HO_578008⟩, ⟨ra_ HO_608001⟩, ⟨ra_ HO_608002⟩, ⟨ra_ HO_608008⟩, ⟨by (with_reducible repeat (first | refine blk_drewN ?_ _ | refine blk_drew ?_ | refine blk_alloc ?_ _)); exact BK577.out⟩, ⟨by (with_reducible repeat (first | refine blk_drewN ?_ _ | refine blk_drew ?_ | refine blk_alloc ?_ _)); exact BK607.out⟩, ⟨by (with_reducible repeat (first | refine blk_drewN ?_ _ | refine blk_drew ?_ | refine blk_alloc ?_ _)); exact BK611.out⟩, ⟨bl3_ HB GE577 GE607 GE611⟩⟩
        ·rw [if_neg c59] at H
         have c59b0 := decide_eq_false c59
         clear c59
         (first | rw [c59b0] | (simp only [i64_w, i32_w]; rw [c59b0]) | skip)
         have H' := Aside0.mk H
         clear H
         have hnb73 := NB611_577.out
         have hnc73 := NB577_611.out
         have hnb74 := NB611_607.out
         have hnc74 := NB607_611.out
         have hcz75 := cf2_ BK611
         go_wp2
         go_meet
         case rel => exact ⟨_, (false), (by first | rfl | (simp; done) | (simp [*]; done)), H', ⟨by have := HK1.out; have := HK2.out; first | omega | exact Nat.le_refl _⟩, ⟨ra_ HO_8⟩, ⟨ra_ HO_578001⟩, ⟨ra_ HO_578002⟩, ⟨ra_ HO_578008⟩, ⟨ra_ HO_608001⟩, ⟨ra_ HO_608002⟩, ⟨ra_ HO_608008⟩, ⟨by (with_reducible repeat (first | refine blk_drewN ?_ _ | refine blk_drew ?_ | refine blk_alloc ?_ _)); exact BK577.out⟩, ⟨by (with_reducible repeat (first | refine blk_drewN ?_ _ | refine blk_drew ?_ | refine blk_alloc ?_ _)); exact BK607.out⟩, ⟨by (with_reducible repeat (first | refine blk_drewN ?_ _ | refine blk_drew ?_ | refine blk_alloc ?_ _)); exact BK611.out⟩, ⟨bl3_ HB GE577 GE607 GE611⟩⟩
       case rest =>
        clear HC58
        obtain ⟨kq, x106_57, rfl, HA, HJ57, HO_8, HO_578001, HO_578002, HO_578008, HO_608001, HO_608002, HO_608008, BK577, BK607, BK611, HB⟩ := hcut
        cases kq with
        | zero => exact absurd HA.out (by simp [laws_FnShadows.j3])
        | succ kj57 =>
         have H := HA.out
         clear HA
         simp only [laws_FnShadows.j3] at H
         by_cases c76 : x106_57 = true
         ·subst c76
          try rw [if_pos rfl] at H
          replace H := bs_ H
          obtain ⟨t614, A77, H⟩ := H
          replace H := bs_ H
          obtain ⟨t615, A78, H⟩ := H
          by_cases c79 : ((decide (t615 ≤ t600)) != (t608 == 2)) = true
          ·rw [if_pos c79] at H
           have c79b0 : ((decide (t615 ≤ t600)) != (t608 == 2)) = true := c79
           (try (have c79b1 : decide ((decide (t615 ≤ t600)) = (t608 == 2)) = false := by simpa using c79))
           (try (have c79b2 : ((decide (t615 ≤ t600)) == (t608 == 2)) = false := by simpa using c79))
           (try (have c79b3 : ¬ ((decide (t615 ≤ t600)) = (t608 == 2)) := by simpa using c79))
           clear c79
           exact absurd H (by simp)
          ·rw [if_neg c79] at H
           have c79b0 : ((decide (t615 ≤ t600)) != (t608 == 2)) = false := by simpa using c79
           (try (have c79b1 : decide ((decide (t615 ≤ t600)) = (t608 == 2)) = true := by simpa using c79))
           (try (have c79b2 : ((decide (t615 ≤ t600)) == (t608 == 2)) = true := by simpa using c79))
           clear c79
           have H' := Aside0.mk H
           clear H
           try go_wp2
           refine sh11_ (Kd.R_drew HO_8.out) (Kd.R_drew HO_578001.out) (Kd.R_drew HO_578002.out) (Kd.R_drew HO_578008.out) (Kd.R_drew HO_608001.out) (Kd.R_drew HO_608002.out) (Kd.R_drew HO_608008.out) (blk_drew BK577.out) (blk_drew BK607.out) (blk_drew BK611.out) (below_drew1 HB.out) ?_
           clear HO_8 HO_578001 HO_578002 HO_578008 HO_608001 HO_608002 HO_608008 BK577 BK607 BK611 HB
           intro HO_8 HO_578001 HO_578002 HO_578008 HO_608001 HO_608002 HO_608008 BK577 BK607 BK611 HB
           refine start_ (n := 15) (S := fun w' => Ck2 w' gb611 (iv_ t609) (iv_ t610) (Cz10 w' gb607 (iv_ t589) (.slice Ao48 t590.length co48) (.slice Ao49 t593.length co49) (iv_ t596) (iv_ t597) (iv_ t598) (iv_ t599) (iv_ t600) (.slice Ao50 t601.length co50) (iv_ t604))) (ds := []) (bo_ 15 0) (by kernel_rfl) rfl rfl ⟨(bc_ BK611 0 rfl), (bc_ BK611 1 rfl), cz10_ BK607⟩ (fun hHeld => ?_); refine with_tabW laws_FnShadows.tab18 laws_FnShadows.bits18 (fun HT_ HW_ => ?_)
           generalize wc.drew = w80 at HO_8 HO_578001 HO_578002 HO_578008 HO_608001 HO_608002 HO_608008 BK577 BK607 BK611 HB hHeld ⊢
           refine pur_ 0 (bo_ 15 1) (some 109) HT_ ?_
           refine pur_ 2 (bo_ 15 5) (some 111) HT_ ?_
           refine pur_ 5 (bo_ 15 37) (some 114) HT_ ?_
           refine pur_ 9 (bo_ 15 549) (some 118) HT_ ?_
           refine pur_ 12 (bo_ 15 4645) (some 121) HT_ ?_
           refine pur_ 13 (bo_ 15 12837) (some 122) HT_ ?_
           refine tak_ 1 (bo_ 15 12839) (some 110) HT_ HW_ hHeld ?_
           refine pur_ 3 (bo_ 15 12847) (some 112) HT_ ?_
           refine tak_ 4 (bo_ 15 12863) (some 113) HT_ HW_ hHeld ?_
           refine tak_ 10 (bo_ 15 13887) (some 119) HT_ HW_ hHeld ?_
           refine onc_ 6 (bo_ 15 13951) (some 115) HT_ Try.func23 (impl_SunAt.calls t589 _ _ t590 _ _ t593 t596 t597 t598 t599 t600 _ _ t601 t604 t606 t614 _ (cr_ HO_608001) (rl_ HO_608001) (cr_ HO_608002) (rl_ HO_608002) (cr_ HO_608008) (rl_ HO_608008) A77.out) ?_
           rintro e w81 ⟨rfl, hb⟩
           refine sh11_ (Kd.R_below (ra_ HO_8) hb) (Kd.R_below (ra_ HO_578001) hb) (Kd.R_below (ra_ HO_578002) hb) (Kd.R_below (ra_ HO_578008) hb) (Kd.R_below (ra_ HO_608001) hb) (Kd.R_below (ra_ HO_608002) hb) (Kd.R_below (ra_ HO_608008) hb) (blk_below (bk_ BK577) hb) (blk_below (bk_ BK607) hb) (blk_below (bk_ BK611) hb) (below_step (bl3_ HB GE577 GE607 GE611) hb) ?_
           clear HO_8 HO_578001 HO_578002 HO_578008 HO_608001 HO_608002 HO_608008 BK577 BK607 BK611 HB hb
           intro HO_8 HO_578001 HO_578002 HO_578008 HO_608001 HO_608002 HO_608008 BK577 BK607 BK611 HB
           refine ⟨_, _, rfl, ⟨(bc_ BK611 0 rfl), (bc_ BK611 1 rfl), cz10_ BK607⟩, pt_, fun hHeld => ?_⟩
           refine pur_ 7 (bo_ 15 14079) (some 116) HT_ ?_
           refine onc_ 8 (bo_ 15 14335) (some 117) HT_ Try.func14 (impl_GapOf.calls (wrap64 (t609 + x16_2)) (wrap64 (t614 + 180)) t615 _ A78.out) ?_
           rintro e w82 ⟨rfl, hb⟩
           refine sh11_ (Kd.R_below (ra_ HO_8) hb) (Kd.R_below (ra_ HO_578001) hb) (Kd.R_below (ra_ HO_578002) hb) (Kd.R_below (ra_ HO_578008) hb) (Kd.R_below (ra_ HO_608001) hb) (Kd.R_below (ra_ HO_608002) hb) (Kd.R_below (ra_ HO_608008) hb) (blk_below (bk_ BK577) hb) (blk_below (bk_ BK607) hb) (blk_below (bk_ BK611) hb) (below_step (bl3_ HB GE577 GE607 GE611) hb) ?_
           clear HO_8 HO_578001 HO_578002 HO_578008 HO_608001 HO_608002 HO_608008 BK577 BK607 BK611 HB hb
           intro HO_8 HO_578001 HO_578002 HO_578008 HO_608001 HO_608002 HO_608008 BK577 BK607 BK611 HB
           refine ⟨_, _, rfl, ⟨(bc_ BK611 0 rfl), (bc_ BK611 1 rfl), cz10_ BK607⟩, pt_, fun hHeld => ?_⟩
           refine pur_ 11 (bo_ 15 16383) (some 120) HT_ ?_
           refine pur_ 14 (bo_ 15 32767) (some 123) HT_ ?_
           refine done_ (done_of HT_.out (by kernel_rfl)) ?_
           try go_wp2
           go_roundg kj57
           case measure => have := HK1.out; have := HK2.out; have := HJ57.out; omega
           case rel => exact ⟨(wrap64 (x16_2 + 1)), (by first | rfl | (simp; done) | (simp [*]; done)), H', ⟨by have := HK1.out; have := HK2.out; have := HJ57.out; omega⟩, ⟨ra_ HO_8⟩, ⟨ra_ HO_578001⟩, ⟨ra_ HO_578002⟩, ⟨ra_ HO_578008⟩, ⟨ra_ HO_608001⟩, ⟨ra_ HO_608002⟩, ⟨ra_ HO_608008⟩, ⟨by (with_reducible repeat (first | refine blk_drewN ?_ _ | refine blk_drew ?_ | refine blk_alloc ?_ _)); exact BK577.out⟩, ⟨by (with_reducible repeat (first | refine blk_drewN ?_ _ | refine blk_drew ?_ | refine blk_alloc ?_ _)); exact BK607.out⟩, ⟨by (with_reducible repeat (first | refine blk_drewN ?_ _ | refine blk_drew ?_ | refine blk_alloc ?_ _)); exact BK611.out⟩, ⟨bl3_ HB GE577 GE607 GE611⟩⟩
         ·replace c76 := Bool.eq_false_iff.mpr c76
          subst c76
          have H1 : ((impl_LongestDark.f kj57 t558 t559 t562 t565 t566 t567 t568 t569 t570 t573 t574 t575 t576).bind fun t612 => ((impl_TicksOf.f kj57 t581).bind fun t613 => (some (decide (t612 ≤ t613))))) = some true := by first | (rw [if_neg (show ¬ (false = true) by decide)] at H; exact H) | rfl
          clear H
          have H := H1
          clear H1
          replace H := bs_ H
          obtain ⟨t612, A83, H⟩ := H
          replace H := bs_ H
          obtain ⟨t613, A84, H⟩ := H
          have hRT_ := Aside0.mk (Option.some.inj H)
          clear H
          have hnb85 := NB577_607.out
          have hnc85 := NB607_577.out
          have hnb86 := NB577_611.out
          have hnc86 := NB611_577.out
          have hcz87 := cf10_ BK577
          go_wp2_with (first | ((with_reducible refine gate_callee (f := 24) rfl ?_); refine gl_ 128 Try.func24 (impl_LongestDark.calls kj57 t558 _ _ t559 _ _ t562 t565 t566 t567 t568 t569 _ _ t570 t573 t574 t575 t576 t612 _ (cr_ HO_578001) (rl_ HO_578001) (cr_ HO_578002) (rl_ HO_578002) (cr_ HO_578008) (rl_ HO_578008) A83.out) ?_; rintro e w88 ⟨rfl, hb⟩; refine ⟨_, rfl, sh11_ (Kd.R_below (ra_ HO_8) hb) (Kd.R_below (ra_ HO_578001) hb) (Kd.R_below (ra_ HO_578002) hb) (Kd.R_below (ra_ HO_578008) hb) (Kd.R_below (ra_ HO_608001) hb) (Kd.R_below (ra_ HO_608002) hb) (Kd.R_below (ra_ HO_608008) hb) (blk_below (bk_ BK577) hb) (blk_below (bk_ BK607) hb) (blk_below (bk_ BK611) hb) (below_step (bl3_ HB GE577 GE607 GE611) hb) ?_⟩; clear HO_8 HO_578001 HO_578002 HO_578008 HO_608001 HO_608002 HO_608008 BK577 BK607 BK611 HB hb; intro HO_8 HO_578001 HO_578002 HO_578008 HO_608001 HO_608002 HO_608008 BK577 BK607 BK611 HB; obtain ⟨Ao89, co89, eo89⟩ := Kd.R_slice HO_8.out; subst eo89) | ((with_reducible refine gate_callee (f := 25) rfl ?_); refine gl_ 130 Try.func25 (impl_TicksOf.calls kj57 _ _ t581 t613 _ (cr_ HO_8) (rl_ HO_8) A84.out) ?_; rintro e w90 ⟨rfl, hb⟩; refine ⟨_, rfl, sh11_ (Kd.R_below (ra_ HO_8) hb) (Kd.R_below (ra_ HO_578001) hb) (Kd.R_below (ra_ HO_578002) hb) (Kd.R_below (ra_ HO_578008) hb) (Kd.R_below (ra_ HO_608001) hb) (Kd.R_below (ra_ HO_608002) hb) (Kd.R_below (ra_ HO_608008) hb) (blk_below (bk_ BK577) hb) (blk_below (bk_ BK607) hb) (blk_below (bk_ BK611) hb) (below_step (bl3_ HB GE577 GE607 GE611) hb) ?_⟩; clear HO_8 HO_578001 HO_578002 HO_578008 HO_608001 HO_608002 HO_608008 BK577 BK607 BK611 HB hb; intro HO_8 HO_578001 HO_578002 HO_578008 HO_608001 HO_608002 HO_608008 BK577 BK607 BK611 HB))
          go_ret
          exact ⟨by first | (rw [hRT_.out]; rfl) | exact er_, bl3_ HB GE577 GE607 GE611⟩

/-- THE ONE PURE STATEMENT of laws_FnShadows: yours. -/
def laws_FnShadows.Pure : Prop := ∀ (l0 : List Int), l0.length ≤ maxLen → l0.length * 1 ≤ 140737488351232 → (∀ x ∈ l0, (Lit.int .u8 x).wf = true) → ∃ k, laws_FnShadows.f k l0 = some true
theorem laws_FnShadows.walk (P : laws_FnShadows.Pure) (a0 : Option Addr) (len0 cap0 : Nat) (z0 : List Int) (w : World) (w0 : (a0 = none ∧ len0 = 0 ∧ cap0 = 0 ∧ z0 = []) ∨ ∃ x, a0 = some x ∧ len0 ≤ cap0 ∧ cap0 ≤ maxLen ∧ z0.length = cap0 ∧ (∀ i, i < z0.length → w.cell? (x.add i) = some (.int .u8 (z0.getD i 0))) ∧ ∀ n ∈ z0, (Lit.int .u8 n).wf = true) (y0 : len0 * 1 ≤ 140737488351232) :
  Calls Try.prog 4 #[.slice a0 len0 cap0] w fun e w' => e = .returned (.bool true) ∧ Below w.heap.size w w' := by
 obtain ⟨l0, rfl, hr0, hm0, hw0, hc0⟩ := ReadsInt.ofRowC w0
 obtain ⟨k, h⟩ := P l0 hm0 y0 hw0
 refine (laws_FnShadows.calls k _ _ l0 true w (Kd.C_of_reads (d := (0 : Int)) (h1 := fun _ => rfl) hr0) hc0 h).mono ?_
 rintro e w' ⟨rfl, hd⟩
 exact ⟨rfl, hd⟩

end Go.Proofs.Ytopbkdcicidajaa.PFnShadows
