-- Written by a program of this session for this claim (the kit's printer with changes).
import Derived.Test.YtlljhblilicnfaaQFnGraphsx0
import Derived.Test.YtlljhblilicnfaaQFnGraphsx2
import Derived.Test.YtlljhblilicnfaaQFnGraphsx3
namespace Go.Proofs.Ytlljhblilicnfaa.PFnGraphs
open Go.RowKit Go.Proofs.YtlljhblilicnfaaW.PrintWords Go.Proofs.YtlljhblilicnfaaW.PrintLast Go.Proofs.YtlljhblilicnfaaW.PrintMore
attribute [local go_sem] max2_int min2_int max_two min_two max_three min_three max_four min_four   -- for this text's walks alone
set_option linter.unusedVariables false
set_option linter.unusedSimpArgs false

/-! ### laws_FnGraphs: function 12 -/
mutual
def laws_FnGraphs.j0 : Nat → List Int → List (S96) → List (S78) → Bool → Option (Bool)
 | 0, _, _, _, _ => none
 | k + 1, x0, x3, x6, x55 => if x55 = true then (some false) else (laws_FnGraphs.l0 k x0 x3 x6 0)
def laws_FnGraphs.l0 : Nat → List Int → List (S96) → List (S78) → Int → Option (Bool)
 | 0, _, _, _, _ => none
 | k + 1, x0, x3, x6, x7 => if x7 < (x6.length : Int) then (if x7 > 0 then (if 0 ≤ (wrap64 (x7 - 1)) then (if (wrap64 (x7 - 1)) < (x6.length : Int) then (if 0 ≤ x7 then (if ((rd_T78 x6 (wrap64 (x7 - 1))).f1) = ((rd_T78 x6 x7).f0) then ((impl_LinksAt.f k x3 ((rd_T78 x6 (wrap64 (x7 - 1))).f0)).bind fun t328 => ((impl_LinksAt.f k x3 ((rd_T78 x6 x7).f0)).bind fun t332 => ((impl_SameLinks.f k t328 t332).bind fun t335 => (if t335 = true then (laws_FnGraphs.j2 k x0 x3 x6 x7 true) else ((impl_IsSpan.f ((rd_T78 x6 x7).f0) ((rd_T78 x6 x7).f1)).bind fun t337 => (laws_FnGraphs.j2 k x0 x3 x6 x7 (!t337))))))) else (laws_FnGraphs.j2 k x0 x3 x6 x7 true)) else (none)) else (none)) else (none)) else (if 0 ≤ x7 then ((impl_IsSpan.f ((rd_T78 x6 x7).f0) ((rd_T78 x6 x7).f1)).bind fun t339 => (laws_FnGraphs.j2 k x0 x3 x6 x7 (!t339))) else (none))) else ((spec_DrawNeighborsIn.f k x0).bind fun bt350 => ((impl_NeighborsIn.f k bt350.1 bt350.2).bind fun t354 => (laws_FnGraphs.l2 k bt350.1 bt350.2 t354 0)))
def laws_FnGraphs.j2 : Nat → List Int → List (S96) → List (S78) → Int → Bool → Option (Bool)
 | 0, _, _, _, _, _ => none
 | k + 1, x0, x3, x6, x7, x103 => if x103 = true then (some false) else (if 0 ≤ x7 then (if x7 < (x6.length : Int) then (laws_FnGraphs.l1 k x0 x3 x6 x7 ((rd_T78 x6 x7).f0)) else (none)) else (none))
def laws_FnGraphs.l1 : Nat → List Int → List (S96) → List (S78) → Int → Int → Option (Bool)
 | 0, _, _, _, _, _ => none
 | k + 1, x0, x3, x6, x7, x8 => if 0 ≤ x7 then (if x7 < (x6.length : Int) then (if x8 < ((rd_T78 x6 x7).f1) then (laws_FnGraphs.j4 k x0 x3 x6 x7 x8 (decide (x8 ≤ 40))) else (laws_FnGraphs.j4 k x0 x3 x6 x7 x8 false)) else (none)) else (none)
def laws_FnGraphs.j4 : Nat → List Int → List (S96) → List (S78) → Int → Int → Bool → Option (Bool)
 | 0, _, _, _, _, _, _ => none
 | k + 1, x0, x3, x6, x7, x8, x119 => if x119 = true then (if 0 ≤ x7 then (if x7 < (x6.length : Int) then ((impl_LinksAt.f k x3 ((rd_T78 x6 x7).f0)).bind fun t343 => ((impl_LinksAt.f k x3 x8).bind fun t346 => ((impl_SameLinks.f k t343 t346).bind fun t349 => (if t349 = true then (laws_FnGraphs.l1 k x0 x3 x6 x7 (wrap64 (x8 + 1))) else (some false))))) else (none)) else (none)) else (laws_FnGraphs.l0 k x0 x3 x6 (wrap64 (x7 + 1)))
def laws_FnGraphs.l2 : Nat → List (S103) → Int → List Int → Int → Option (Bool)
 | 0, _, _, _, _ => none
 | k + 1, x9, x10, x11, x12 => if x12 < (x11.length : Int) then (if 0 ≤ x12 then ((impl_NeighborsIn.f k x9 (rd x11 x12)).bind fun t358 => ((laws_contains.f k t358 x10).bind fun t361 => (if t361 = true then (if x12 > 0 then (if 0 ≤ (wrap64 (x12 - 1)) then (if (wrap64 (x12 - 1)) < (x11.length : Int) then (if (rd x11 (wrap64 (x12 - 1))) ≥ (rd x11 x12) then (some false) else (laws_FnGraphs.l2 k x9 x10 x11 (wrap64 (x12 + 1)))) else (none)) else (none)) else (laws_FnGraphs.l2 k x9 x10 x11 (wrap64 (x12 + 1)))) else (some false)))) else (none)) else (some true)
end
def laws_FnGraphs.f (k : Nat) (l0 : List Int) : Option (Bool) := (laws_big.f l0).bind fun t314 => (if t314 = true then (some true) else ((spec_DrawPiecesOf.f k l0).bind fun bt315 => ((impl_PiecesOf.f k bt315.1 bt315.2.1 bt315.2.2).bind fun t320 => (if (t320.length : Int) = 0 then (if bt315.2.1 < 0 then (some true) else (if bt315.2.2 > 1000 then (some true) else (some (decide (bt315.2.1 ≥ bt315.2.2))))) else (if 0 < (t320.length : Int) then (if ((rd_T78 t320 0).f0) = bt315.2.1 then (if 0 ≤ (wrap64 ((t320.length : Int) - 1)) then (if (wrap64 ((t320.length : Int) - 1)) < (t320.length : Int) then (laws_FnGraphs.j0 k l0 bt315.1 t320 (((rd_T78 t320 (wrap64 ((t320.length : Int) - 1))).f1) != bt315.2.2)) else (none)) else (none)) else (laws_FnGraphs.j0 k l0 bt315.1 t320 true)) else (none))))))
theorem laws_FnGraphs.mono_l : ∀ k, (∀ y0 y1 y2 y3, LeO (laws_FnGraphs.j0 k y0 y1 y2 y3) (laws_FnGraphs.j0 (k + 1) y0 y1 y2 y3)) ∧ (∀ y0 y1 y2 y3, LeO (laws_FnGraphs.l0 k y0 y1 y2 y3) (laws_FnGraphs.l0 (k + 1) y0 y1 y2 y3)) ∧ (∀ y0 y1 y2 y3 y4, LeO (laws_FnGraphs.j2 k y0 y1 y2 y3 y4) (laws_FnGraphs.j2 (k + 1) y0 y1 y2 y3 y4)) ∧ (∀ y0 y1 y2 y3 y4, LeO (laws_FnGraphs.l1 k y0 y1 y2 y3 y4) (laws_FnGraphs.l1 (k + 1) y0 y1 y2 y3 y4)) ∧ (∀ y0 y1 y2 y3 y4 y5, LeO (laws_FnGraphs.j4 k y0 y1 y2 y3 y4 y5) (laws_FnGraphs.j4 (k + 1) y0 y1 y2 y3 y4 y5)) ∧ (∀ y0 y1 y2 y3, LeO (laws_FnGraphs.l2 k y0 y1 y2 y3) (laws_FnGraphs.l2 (k + 1) y0 y1 y2 y3))
 | 0 => ⟨fun _ _ _ _ r h => by simp [laws_FnGraphs.j0] at h, fun _ _ _ _ r h => by simp [laws_FnGraphs.l0] at h, fun _ _ _ _ _ r h => by simp [laws_FnGraphs.j2] at h, fun _ _ _ _ _ r h => by simp [laws_FnGraphs.l1] at h, fun _ _ _ _ _ _ r h => by simp [laws_FnGraphs.j4] at h, fun _ _ _ _ r h => by simp [laws_FnGraphs.l2] at h⟩
 | k + 1 => by
  obtain ⟨ih0, ih1, ih2, ih3, ih4, ih5⟩ := laws_FnGraphs.mono_l k
  refine ⟨?_, ?_, ?_, ?_, ?_, ?_⟩
  ·intro y0 y1 y2 y3
   unfold laws_FnGraphs.j0
   repeat' first | (with_reducible first | exact ih0 _ _ _ _ | exact ih1 _ _ _ _ | exact ih2 _ _ _ _ _ | exact ih3 _ _ _ _ _ | exact ih4 _ _ _ _ _ _ | exact ih5 _ _ _ _ | exact impl_LinksAt.mono _ _ _ | exact impl_NeighborsIn.mono _ _ _ | exact impl_PiecesOf.mono _ _ _ _ | exact impl_SameLinks.mono _ _ _ | exact laws_contains.mono _ _ _ | exact spec_DrawNeighborsIn.mono _ _ | exact spec_DrawPiecesOf.mono _ _ | exact LeO.refl _ | exact LeO.none _ | refine LeO.ite ?_ ?_ | refine LeO.bind ?_ (fun _ => ?_)) | exact LeO.none _ | refine LeO.ite ?_ ?_ | refine LeO.bind ?_ (fun _ => ?_)
  ·intro y0 y1 y2 y3
   unfold laws_FnGraphs.l0
   repeat' first | (with_reducible first | exact ih0 _ _ _ _ | exact ih1 _ _ _ _ | exact ih2 _ _ _ _ _ | exact ih3 _ _ _ _ _ | exact ih4 _ _ _ _ _ _ | exact ih5 _ _ _ _ | exact impl_LinksAt.mono _ _ _ | exact impl_NeighborsIn.mono _ _ _ | exact impl_PiecesOf.mono _ _ _ _ | exact impl_SameLinks.mono _ _ _ | exact laws_contains.mono _ _ _ | exact spec_DrawNeighborsIn.mono _ _ | exact spec_DrawPiecesOf.mono _ _ | exact LeO.refl _ | exact LeO.none _ | refine LeO.ite ?_ ?_ | refine LeO.bind ?_ (fun _ => ?_)) | exact LeO.none _ | refine LeO.ite ?_ ?_ | refine LeO.bind ?_ (fun _ => ?_)
  ·intro y0 y1 y2 y3 y4
   unfold laws_FnGraphs.j2
   repeat' first | (with_reducible first | exact ih0 _ _ _ _ | exact ih1 _ _ _ _ | exact ih2 _ _ _ _ _ | exact ih3 _ _ _ _ _ | exact ih4 _ _ _ _ _ _ | exact ih5 _ _ _ _ | exact impl_LinksAt.mono _ _ _ | exact impl_NeighborsIn.mono _ _ _ | exact impl_PiecesOf.mono _ _ _ _ | exact impl_SameLinks.mono _ _ _ | exact laws_contains.mono _ _ _ | exact spec_DrawNeighborsIn.mono _ _ | exact spec_DrawPiecesOf.mono _ _ | exact LeO.refl _ | exact LeO.none _ | refine LeO.ite ?_ ?_ | refine LeO.bind ?_ (fun _ => ?_)) | exact LeO.none _ | refine LeO.ite ?_ ?_ | refine LeO.bind ?_ (fun _ => ?_)
  ·intro y0 y1 y2 y3 y4
   unfold laws_FnGraphs.l1
   repeat' first | (with_reducible first | exact ih0 _ _ _ _ | exact ih1 _ _ _ _ | exact ih2 _ _ _ _ _ | exact ih3 _ _ _ _ _ | exact ih4 _ _ _ _ _ _ | exact ih5 _ _ _ _ | exact impl_LinksAt.mono _ _ _ | exact impl_NeighborsIn.mono _ _ _ | exact impl_PiecesOf.mono _ _ _ _ | exact impl_SameLinks.mono _ _ _ | exact laws_contains.mono _ _ _ | exact spec_DrawNeighborsIn.mono _ _ | exact spec_DrawPiecesOf.mono _ _ | exact LeO.refl _ | exact LeO.none _ | refine LeO.ite ?_ ?_ | refine LeO.bind ?_ (fun _ => ?_)) | exact LeO.none _ | refine LeO.ite ?_ ?_ | refine LeO.bind ?_ (fun _ => ?_)
  ·intro y0 y1 y2 y3 y4 y5
   unfold laws_FnGraphs.j4
   repeat' first | (with_reducible first | exact ih0 _ _ _ _ | exact ih1 _ _ _ _ | exact ih2 _ _ _ _ _ | exact ih3 _ _ _ _ _ | exact ih4 _ _ _ _ _ _ | exact ih5 _ _ _ _ | exact impl_LinksAt.mono _ _ _ | exact impl_NeighborsIn.mono _ _ _ | exact impl_PiecesOf.mono _ _ _ _ | exact impl_SameLinks.mono _ _ _ | exact laws_contains.mono _ _ _ | exact spec_DrawNeighborsIn.mono _ _ | exact spec_DrawPiecesOf.mono _ _ | exact LeO.refl _ | exact LeO.none _ | refine LeO.ite ?_ ?_ | refine LeO.bind ?_ (fun _ => ?_)) | exact LeO.none _ | refine LeO.ite ?_ ?_ | refine LeO.bind ?_ (fun _ => ?_)
  ·intro y0 y1 y2 y3
   unfold laws_FnGraphs.l2
   repeat' first | (with_reducible first | exact ih0 _ _ _ _ | exact ih1 _ _ _ _ | exact ih2 _ _ _ _ _ | exact ih3 _ _ _ _ _ | exact ih4 _ _ _ _ _ _ | exact ih5 _ _ _ _ | exact impl_LinksAt.mono _ _ _ | exact impl_NeighborsIn.mono _ _ _ | exact impl_PiecesOf.mono _ _ _ _ | exact impl_SameLinks.mono _ _ _ | exact laws_contains.mono _ _ _ | exact spec_DrawNeighborsIn.mono _ _ | exact spec_DrawPiecesOf.mono _ _ | exact LeO.refl _ | exact LeO.none _ | refine LeO.ite ?_ ?_ | refine LeO.bind ?_ (fun _ => ?_)) | exact LeO.none _ | refine LeO.ite ?_ ?_ | refine LeO.bind ?_ (fun _ => ?_)
theorem laws_FnGraphs.mono : ∀ a0 k, LeO (laws_FnGraphs.f k a0) (laws_FnGraphs.f (k + 1) a0) := by
 intro a0 k
 obtain ⟨ih0, ih1, ih2, ih3, ih4, ih5⟩ := laws_FnGraphs.mono_l k
 unfold laws_FnGraphs.f
 repeat' first | (with_reducible first | exact ih0 _ _ _ _ | exact ih1 _ _ _ _ | exact ih2 _ _ _ _ _ | exact ih3 _ _ _ _ _ | exact ih4 _ _ _ _ _ _ | exact ih5 _ _ _ _ | exact impl_LinksAt.mono _ _ _ | exact impl_NeighborsIn.mono _ _ _ | exact impl_PiecesOf.mono _ _ _ _ | exact impl_SameLinks.mono _ _ _ | exact laws_contains.mono _ _ _ | exact spec_DrawNeighborsIn.mono _ _ | exact spec_DrawPiecesOf.mono _ _ | exact LeO.refl _ | exact LeO.none _ | refine LeO.ite ?_ ?_ | refine LeO.bind ?_ (fun _ => ?_)) | exact LeO.none _ | refine LeO.ite ?_ ?_ | refine LeO.bind ?_ (fun _ => ?_)
def laws_FnGraphs.T12 : Bool × List (List Nat × List Nat) := (true, [([], []), ([0], [0]), ([1], [1]), ([2], [2]), ([2], [2]), ([4, 2], [2, 4]), ([3, 5, 2], [2, 3, 5]), ([6, 2], [2, 6]), ([7, 2], [2, 7]), ([2], [2]), ([2], [2]), ([9, 10, 2], [2, 9, 10]), ([11, 2], [2, 11]), ([12, 2], [2, 12]), ([8, 13, 2], [2, 8, 13]), ([14, 2, 2], [2, 14]), ([15], [15]), ([15], [15]), ([15], [15]), ([18, 15], [15, 18]), ([17, 19, 15], [15, 17, 19]), ([20, 15], [15, 20]), ([21, 15], [15, 21]), ([16, 22, 15, 15], [15, 16, 22]), ([15], [15]), ([15], [15]), ([15], [15]), ([25, 26, 15], [15, 25, 26]), ([27, 15], [15, 27]), ([28, 15], [15, 28]), ([24, 29, 23, 15], [15, 24, 29]), ([23, 30, 30, 15], [15, 23, 30]), ([15, 31, 2], [2, 15, 31]), ([2, 32], [2, 32]), ([33, 31], [33]), ([34], [34]), ([34], [34]), ([35, 36, 34], [34, 35, 36]), ([37, 34], [34, 37]), ([38, 34, 34], [34, 38]), ([39, 34], [34, 39]), ([34, 40], [34, 40])])
def laws_FnGraphs.B12 : List Nat := [0, 1, 3, 7, 7, 23, 63, 127, 255, 7, 7, 1543, 3591, 7687, 16383, 32767, 65535, 65535, 65535, 327679, 983039, 2031615, 4128767, 8388607, 65535, 65535, 65535, 100728831, 234946559, 503382015, 1073741823, 2147483647, 4294967295, 8589934591, 17179869183, 34359738367, 34359738367, 137438953471, 274877906943, 549755813887, 1099511627775, 2199023255551]
theorem laws_FnGraphs.tab12 : rtab .any (opsOf Try.f12 12) = laws_FnGraphs.T12 := by kernel_rfl
theorem laws_FnGraphs.bits12 : waitsOk laws_FnGraphs.T12.2 laws_FnGraphs.B12 = true := by kernel_rfl
def laws_FnGraphs.T24 : Bool × List (List Nat × List Nat) := (true, [([], []), ([], []), ([], []), ([1, 2], [1, 2]), ([3], [3]), ([0, 4], [0, 4]), ([], []), ([5, 6, 5], [5, 6]), ([7], [7]), ([8, 7], [8]), ([9], [9]), ([10, 9], [9, 10]), ([11, 9, 9], [9, 11]), ([12], [12]), ([12], [12]), ([14, 12], [12, 14]), ([13, 15, 12], [12, 13, 15]), ([16, 12], [12, 16]), ([12], [12]), ([12], [12]), ([18, 19, 12], [12, 18, 19]), ([20, 12], [12, 20]), ([17, 21, 12], [12, 17, 21]), ([12, 22, 9], [9, 12, 22]), ([9, 23], [9, 23])])
def laws_FnGraphs.B24 : List Nat := [0, 0, 0, 6, 14, 31, 0, 127, 255, 511, 1023, 2047, 4095, 8191, 8191, 24575, 65535, 131071, 8191, 8191, 794623, 1843199, 4194303, 8388607, 16777215]
theorem laws_FnGraphs.tab24 : rtab .any (opsOf Try.f12 24) = laws_FnGraphs.T24 := by kernel_rfl
theorem laws_FnGraphs.bits24 : waitsOk laws_FnGraphs.T24.2 laws_FnGraphs.B24 = true := by kernel_rfl
set_option maxHeartbeats 8000000 in
set_option maxRecDepth 100000 in
theorem laws_FnGraphs.calls (k : Nat) (A0 : Option Addr) (c0 : Nat) (l0 : List Int) (r : Bool) (w : World) (hr0 : Kd.C (Kd.int .u8) w A0 l0.length l0) (hc0 : l0.length ≤ c0) (h : laws_FnGraphs.f k l0 = some r) (hT_ : r = true := by rfl) :
  Calls Try.prog 12 #[.slice A0 l0.length c0] w fun e w' => e = .returned (.bool r) ∧ Below w.heap.size w w' := by
 have hu78 := Try.underlying78
 have HR0 := Aside0.mk hr0
 have HC0 := Aside0.mk hc0
 clear hr0 hc0
 have HB := Aside0.mk (Below.refl w.heap.size w)
 subst hT_
 have H := h
 clear h
 unfold laws_FnGraphs.f at H
 replace H := bs_ H
 obtain ⟨t314, A2, H⟩ := H
 by_cases c3 : t314 = true
 ·subst c3
  try rw [if_pos rfl] at H
  clear H
  go_enter Try.func12, Try.ntmps12
  go_wp2_with (first | ((with_reducible refine gate_callee (f := 15) rfl ?_); refine gl_ 14 Try.func15 (laws_big.calls _ _ l0 true _ (cq_ HR0) HC0.out A2.out) ?_; rintro e w' ⟨rfl, ⟨nd, rfl⟩⟩; refine ⟨_, rfl, ?_⟩))
  go_ret
  exact ⟨by first | (rw [hRT_.out]; rfl) | exact er_, bl_ HB⟩
 ·replace c3 := Bool.eq_false_iff.mpr c3
  subst c3
  have H1 : ((spec_DrawPiecesOf.f k l0).bind fun bt315 => ((impl_PiecesOf.f k bt315.1 bt315.2.1 bt315.2.2).bind fun t320 => (if (t320.length : Int) = 0 then (if bt315.2.1 < 0 then (some true) else (if bt315.2.2 > 1000 then (some true) else (some (decide (bt315.2.1 ≥ bt315.2.2))))) else (if 0 < (t320.length : Int) then (if ((rd_T78 t320 0).f0) = bt315.2.1 then (if 0 ≤ (wrap64 ((t320.length : Int) - 1)) then (if (wrap64 ((t320.length : Int) - 1)) < (t320.length : Int) then (laws_FnGraphs.j0 k l0 bt315.1 t320 (((rd_T78 t320 (wrap64 ((t320.length : Int) - 1))).f1) != bt315.2.2)) else (none)) else (none)) else (laws_FnGraphs.j0 k l0 bt315.1 t320 true)) else (none))))) = some true := by first | (rw [if_neg (show ¬ (false = true) by decide)] at H; exact H) | rfl
  clear H
  have H := H1
  clear H1
  replace H := bs_ H
  obtain ⟨⟨t315, t316, t317⟩, A4, H⟩ := H
  dsimp only at H
  replace H := bs_ H
  obtain ⟨t320, A5, H⟩ := H
  by_cases c6 : (t320.length : Int) = 0
  ·rw [if_pos c6] at H
   obtain ⟨c6b0, c6b1⟩ := bt_ c6
   clear c6
   by_cases c7 : t316 < 0
   ·rw [if_pos c7] at H
    have c7b0 := decide_eq_true c7
    clear c7
    clear H
    go_enter Try.func12, Try.ntmps12
    go_wp2_with (first | ((with_reducible refine gate_callee (f := 15) rfl ?_); refine gl_ 14 Try.func15 (laws_big.calls _ _ l0 false _ (cq_ HR0) HC0.out A2.out) ?_; rintro e w' ⟨rfl, ⟨nd, rfl⟩⟩; refine ⟨_, rfl, ?_⟩) | ((with_reducible refine gate_callee (f := 60) rfl ?_); refine gl_ 17 Try.func60 (spec_DrawPiecesOf.calls k _ _ l0 t315 t316 t317 _ (cq_ HR0) HC0.out A4.out) ?_; rintro e w8 ⟨v318, rfl, ho0, hb⟩; refine ⟨_, rfl, sh2_ (Kd.R_lower ho0 (below_size (bl_ HB))) (below_step (bl_ HB) hb) ?_⟩; clear HB hb ho0; intro HO319 HB; obtain ⟨Ao9, co9, eo9⟩ := Kd.R_slice HO319.out; subst eo9) | ((with_reducible refine gate_callee (f := 50) rfl ?_); refine gl_ 24 Try.func50 (impl_PiecesOf.calls k _ _ t315 t316 t317 t320 _ (cr_ HO319) (rl_ HO319) A5.out) ?_; rintro e w10 ⟨v321, rfl, ho0, hb⟩; refine ⟨_, rfl, sh3_ (Kd.R_below (ra_ HO319) hb) (Kd.R_lower ho0 (below_size (bl_ HB))) (below_step (bl_ HB) hb) ?_⟩; clear HO319 HB hb ho0; intro HO319 HO322 HB; obtain ⟨Ao11, co11, eo11⟩ := Kd.R_slice HO322.out; subst eo11))
    go_ret
    exact ⟨by first | (rw [hRT_.out]; rfl) | exact er_, bl_ HB⟩
   ·rw [if_neg c7] at H
    have c7b0 := decide_eq_false c7
    clear c7
    by_cases c12 : t317 > 1000
    ·rw [if_pos c12] at H
     have c12b0 : decide (1000 < t317) = true := decide_eq_true c12
     clear c12
     clear H
     go_enter Try.func12, Try.ntmps12
     go_wp2_with (first | ((with_reducible refine gate_callee (f := 15) rfl ?_); refine gl_ 14 Try.func15 (laws_big.calls _ _ l0 false _ (cq_ HR0) HC0.out A2.out) ?_; rintro e w' ⟨rfl, ⟨nd, rfl⟩⟩; refine ⟨_, rfl, ?_⟩) | ((with_reducible refine gate_callee (f := 60) rfl ?_); refine gl_ 17 Try.func60 (spec_DrawPiecesOf.calls k _ _ l0 t315 t316 t317 _ (cq_ HR0) HC0.out A4.out) ?_; rintro e w13 ⟨v318, rfl, ho0, hb⟩; refine ⟨_, rfl, sh2_ (Kd.R_lower ho0 (below_size (bl_ HB))) (below_step (bl_ HB) hb) ?_⟩; clear HB hb ho0; intro HO319 HB; obtain ⟨Ao14, co14, eo14⟩ := Kd.R_slice HO319.out; subst eo14) | ((with_reducible refine gate_callee (f := 50) rfl ?_); refine gl_ 24 Try.func50 (impl_PiecesOf.calls k _ _ t315 t316 t317 t320 _ (cr_ HO319) (rl_ HO319) A5.out) ?_; rintro e w15 ⟨v321, rfl, ho0, hb⟩; refine ⟨_, rfl, sh3_ (Kd.R_below (ra_ HO319) hb) (Kd.R_lower ho0 (below_size (bl_ HB))) (below_step (bl_ HB) hb) ?_⟩; clear HO319 HB hb ho0; intro HO319 HO322 HB; obtain ⟨Ao16, co16, eo16⟩ := Kd.R_slice HO322.out; subst eo16))
     go_ret
     exact ⟨by first | (rw [hRT_.out]; rfl) | exact er_, bl_ HB⟩
    ·rw [if_neg c12] at H
     have c12b0 : decide (1000 < t317) = false := decide_eq_false c12
     clear c12
     have hRT_ := Aside0.mk (Option.some.inj H)
     clear H
     go_enter Try.func12, Try.ntmps12
     go_wp2_with (first | ((with_reducible refine gate_callee (f := 15) rfl ?_); refine gl_ 14 Try.func15 (laws_big.calls _ _ l0 false _ (cq_ HR0) HC0.out A2.out) ?_; rintro e w' ⟨rfl, ⟨nd, rfl⟩⟩; refine ⟨_, rfl, ?_⟩) | ((with_reducible refine gate_callee (f := 60) rfl ?_); refine gl_ 17 Try.func60 (spec_DrawPiecesOf.calls k _ _ l0 t315 t316 t317 _ (cq_ HR0) HC0.out A4.out) ?_; rintro e w17 ⟨v318, rfl, ho0, hb⟩; refine ⟨_, rfl, sh2_ (Kd.R_lower ho0 (below_size (bl_ HB))) (below_step (bl_ HB) hb) ?_⟩; clear HB hb ho0; intro HO319 HB; obtain ⟨Ao18, co18, eo18⟩ := Kd.R_slice HO319.out; subst eo18) | ((with_reducible refine gate_callee (f := 50) rfl ?_); refine gl_ 24 Try.func50 (impl_PiecesOf.calls k _ _ t315 t316 t317 t320 _ (cr_ HO319) (rl_ HO319) A5.out) ?_; rintro e w19 ⟨v321, rfl, ho0, hb⟩; refine ⟨_, rfl, sh3_ (Kd.R_below (ra_ HO319) hb) (Kd.R_lower ho0 (below_size (bl_ HB))) (below_step (bl_ HB) hb) ?_⟩; clear HO319 HB hb ho0; intro HO319 HO322 HB; obtain ⟨Ao20, co20, eo20⟩ := Kd.R_slice HO322.out; subst eo20))
     go_ret
     exact ⟨by first | (rw [hRT_.out]; rfl) | exact er_, bl_ HB⟩
  ·rw [if_neg c6] at H
   obtain ⟨c6b0, c6b1⟩ := bn_ c6
   have c6b2 : ¬ (t320 = []) := fun h_ => c6 (by rw [h_]; rfl)
   have HC21 := Aside0.mk H
   clear H
   go_enter Try.func12, Try.ntmps12
   go_upto_region 7 with (first | ((with_reducible refine gate_callee (f := 15) rfl ?_); refine gl_ 14 Try.func15 (laws_big.calls _ _ l0 false _ (cq_ HR0) HC0.out A2.out) ?_; rintro e w' ⟨rfl, ⟨nd, rfl⟩⟩; refine ⟨_, rfl, ?_⟩) | ((with_reducible refine gate_callee (f := 60) rfl ?_); refine gl_ 17 Try.func60 (spec_DrawPiecesOf.calls k _ _ l0 t315 t316 t317 _ (cq_ HR0) HC0.out A4.out) ?_; rintro e w22 ⟨v318, rfl, ho0, hb⟩; refine ⟨_, rfl, sh2_ (Kd.R_lower ho0 (below_size (bl_ HB))) (below_step (bl_ HB) hb) ?_⟩; clear HB hb ho0; intro HO319 HB; obtain ⟨Ao23, co23, eo23⟩ := Kd.R_slice HO319.out; subst eo23) | ((with_reducible refine gate_callee (f := 50) rfl ?_); refine gl_ 24 Try.func50 (impl_PiecesOf.calls k _ _ t315 t316 t317 t320 _ (cr_ HO319) (rl_ HO319) A5.out) ?_; rintro e w24 ⟨v321, rfl, ho0, hb⟩; refine ⟨_, rfl, sh3_ (Kd.R_below (ra_ HO319) hb) (Kd.R_lower ho0 (below_size (bl_ HB))) (below_step (bl_ HB) hb) ?_⟩; clear HO319 HB hb ho0; intro HO319 HO322 HB; obtain ⟨Ao25, co25, eo25⟩ := Kd.R_slice HO322.out; subst eo25))
   (try simp only [Act.put, List.setIfInBounds_toArray, List.set_cons_zero, List.set_cons_succ])
   go_cut [55] (fun v55 wc => ∃ (kq : Nat) (x55_20 : Bool), v55 = .bool x55_20 ∧ Aside0 (laws_FnGraphs.j0 kq l0 t315 t320 x55_20 = some true) ∧ Aside0 (kq ≤ k) ∧ Aside0 (Kd.R k96 96 wc w.heap.size (fun _ => True) (.slice Ao23 t315.length co23) t315) ∧ Aside0 (Kd.R k78 78 wc w.heap.size (fun _ => True) (.slice Ao25 t320.length co25) t320) ∧ Aside0 (Below w.heap.size w wc))
   case first =>
    have H := HC21.out
    clear HC21
    replace H := ifn_ H
    obtain ⟨c26, H⟩ := H
    have c26b0 := decide_eq_true c26
    have c26b1 : decide (0 < t320.length) = true := decide_eq_true (by omega)
    clear c26
    (first | rw [c26b0] | (simp only [i64_w, i32_w]; rw [c26b0]) | skip)
    by_cases c27 : ((rd_T78 t320 0).f0) = t316
    ·rw [if_pos c27] at H
     obtain ⟨c27b0, c27b1⟩ := bt_ c27
     clear c27
     obtain ⟨ji28, hji28⟩ : ∃ j_ : Int, (wrap64 ((t320.length : Int) - 1)) = j_ := ⟨_, rfl⟩
     replace H : (if 0 ≤ (ji28) then (if (ji28) < (t320.length : Int) then (laws_FnGraphs.j0 k l0 t315 t320 (((rd_T78 t320 (ji28)).f1) != t317)) else (none)) else (none)) = some true := by first | (rw [hji28] at H; exact H) | (simp only [hji28] at H ⊢; exact H)
     have hji28w : (IntKind.i64.wrap ((t320.length : Int) - 1)) = ji28 := (i64_w _).trans hji28
     replace H := ifn_ H
     obtain ⟨c29, H⟩ := H
     have c29b0 := decide_eq_true c29
     clear c29
     replace H := ifn_ H
     obtain ⟨c30, H⟩ := H
     have c30b0 := decide_eq_true c30
     clear c30
     have H' := Aside0.mk H
     clear H
     have p323 : 0 ≤ (0 : Int) := (by omega)
     have q323 : 0 < (t320.length : Int) := od_
     obtain ⟨ad323, e323, hx323_0, hx323_1⟩ := at_T78 (Kd.R_reads' HO322.out).2.2 0 p323 q323
     cases e323
     have qi323 : (0 < t320.length) = True := eq_true (by omega)
     (try rw [show ((0 : Int)).toNat = 0 from rfl] at hx323_0)
     (try rw [show 0 * 2 = 0 from rfl] at hx323_0)
     (try rw [Addr.add_zero'] at hx323_0)
     (try rw [show ((0 : Int)).toNat = 0 from rfl] at hx323_1)
     (try rw [show 0 * 2 = 0 from rfl] at hx323_1)
     (try rw [Addr.add_zero'] at hx323_1)
     replace p323 := eq_true p323
     replace q323 := eq_true q323
     have p324 : 0 ≤ ((ji28) : Int) := od_
     have q324 : (ji28) < (t320.length : Int) := od_
     obtain ⟨ad324, e324, hx324_0, hx324_1⟩ := at_T78 (Kd.R_reads' HO322.out).2.2 (ji28) p324 q324
     obtain rfl : ad323 = ad324 := (by injection e324)
     replace p324 := eq_true p324
     replace q324 := eq_true q324
     go_wp2
     go_meet
     case rel => exact ⟨_, ((((rd_T78 t320 (ji28)).f1) != t317)), (by first | rfl | (simp; done) | (simp only [← hji28] <;> (first | rfl | simp)) | (simp [*]; done)), H', ⟨by first | omega | exact Nat.le_refl _⟩, ⟨ra_ HO319⟩, ⟨ra_ HO322⟩, ⟨bl_ HB⟩⟩
    ·rw [if_neg c27] at H
     obtain ⟨c27b0, c27b1⟩ := bn_ c27
     have H' := Aside0.mk H
     clear H
     have p323 : 0 ≤ (0 : Int) := (by omega)
     have q323 : 0 < (t320.length : Int) := od_
     obtain ⟨ad323, e323, hx323_0, hx323_1⟩ := at_T78 (Kd.R_reads' HO322.out).2.2 0 p323 q323
     cases e323
     have qi323 : (0 < t320.length) = True := eq_true (by omega)
     (try rw [show ((0 : Int)).toNat = 0 from rfl] at hx323_0)
     (try rw [show 0 * 2 = 0 from rfl] at hx323_0)
     (try rw [Addr.add_zero'] at hx323_0)
     (try rw [show ((0 : Int)).toNat = 0 from rfl] at hx323_1)
     (try rw [show 0 * 2 = 0 from rfl] at hx323_1)
     (try rw [Addr.add_zero'] at hx323_1)
     replace p323 := eq_true p323
     replace q323 := eq_true q323
     go_wp2
     go_meet
     case rel => exact ⟨_, (true), (by first | rfl | (simp; done) | (simp [*]; done)), H', ⟨by first | omega | exact Nat.le_refl _⟩, ⟨ra_ HO319⟩, ⟨ra_ HO322⟩, ⟨bl_ HB⟩⟩
   case rest =>
    clear HC21
    try clear c1
    try clear c2
    try clear p2
    try clear c3
    try clear p3
    try clear q3
    try clear hx3
    try clear qi3
    try clear c5
    try clear c6
    try clear c6b0
    try clear c6b1
    try clear c6b2
    try clear p6
    try clear c7
    try clear c7b0
    try clear c12
    try clear c12b0
    try clear c15
    try clear c26
    try clear c26b0
    try clear c26b1
    try clear c27
    try clear c27b0
    try clear c27b1
    try clear c29
    try clear c29b0
    try clear c30
    try clear c30b0
    try clear hx323_0
    try clear hx323_1
    try clear hx324_0
    try clear hx324_1
    try clear p323
    try clear p324
    try clear q323
    try clear q324
    obtain ⟨kq, x55_20, rfl, HA, HJ20, HO_3, HO_6, HB⟩ := hcut
    cases kq with
    | zero => exact absurd HA.out (by simp [laws_FnGraphs.j0])
    | succ kj20 =>
     have H := HA.out
     clear HA
     simp only [laws_FnGraphs.j0] at H
     by_cases c31 : x55_20 = true
     ·subst c31
      try rw [if_pos rfl] at H
      exact absurd H (by simp)
     ·replace c31 := Bool.eq_false_iff.mpr c31
      subst c31
      have H1 : (laws_FnGraphs.l0 kj20 l0 t315 t320 0) = some true := by first | (rw [if_neg (show ¬ (false = true) by decide)] at H; exact H) | rfl
      clear H
      have H := H1
      clear H1
      have H' := Aside0.mk H
      clear H
      go_wp2
      go_loopg [7] kj20 (fun kq v7 w' => ∃ (x7_2 : Int), v7 = .int .i64 x7_2 ∧ Aside0 (laws_FnGraphs.l0 kq l0 t315 t320 x7_2 = some true) ∧ Aside0 (kq ≤ kj20) ∧ Aside0 (Kd.R k96 96 w' w.heap.size (fun _ => True) (.slice Ao23 t315.length co23) t315) ∧ Aside0 (Kd.R k78 78 w' w.heap.size (fun _ => True) (.slice Ao25 t320.length co25) t320) ∧ Aside0 (Below w.heap.size w w'))
      case atStart => exact ⟨(0), (by first | rfl | (simp; done) | (simp [*]; done)), H', ⟨Nat.le_refl _⟩, ⟨ra_ HO_3⟩, ⟨ra_ HO_6⟩, ⟨bl_ HB⟩⟩
      case round =>
       clear H'
       try clear c1
       try clear c2
       try clear p2
       try clear c3
       try clear p3
       try clear q3
       try clear hx3
       try clear qi3
       try clear c5
       try clear c6
       try clear c6b0
       try clear c6b1
       try clear c6b2
       try clear p6
       try clear c7
       try clear c7b0
       try clear c12
       try clear c12b0
       try clear c15
       try clear c26
       try clear c26b0
       try clear c26b1
       try clear c27
       try clear c27b0
       try clear c27b1
       try clear c29
       try clear c29b0
       try clear c30
       try clear c30b0
       try clear c31
       try clear hx323_0
       try clear hx323_1
       try clear hx324_0
       try clear hx324_1
       try clear p2
       try clear p3
       try clear p323
       try clear p324
       try clear p6
       try clear q3
       try clear q323
       try clear q324
       obtain ⟨x7_2, rfl, HA, HK2, HO_3, HO_6, HB⟩ := hrel
       cases gk with
       | zero => exact absurd HA.out (by simp [laws_FnGraphs.l0])
       | succ k2 =>
        have H := HA.out
        clear HA
        simp only [laws_FnGraphs.l0] at H
        by_cases c32 : x7_2 < (t320.length : Int)
        ·rw [if_pos c32] at H
         have c32b0 := decide_eq_true c32
         clear c32
         have HC33 := Aside0.mk H
         clear H
         go_upto_region 12 with (fail)
         go_cut [103] (fun v103 wc => ∃ (kq : Nat) (x103_32 : Bool), v103 = .bool x103_32 ∧ Aside0 (laws_FnGraphs.j2 kq l0 t315 t320 x7_2 x103_32 = some true) ∧ Aside0 (kq ≤ k2) ∧ Aside0 (Kd.R k96 96 wc w.heap.size (fun _ => True) (.slice Ao23 t315.length co23) t315) ∧ Aside0 (Kd.R k78 78 wc w.heap.size (fun _ => True) (.slice Ao25 t320.length co25) t320) ∧ Aside0 (Below w.heap.size w wc))
         case first =>
          have H := HC33.out
          clear HC33
          by_cases c34 : x7_2 > 0
          ·rw [if_pos c34] at H
           have c34b0 : decide (0 < x7_2) = true := decide_eq_true c34
           clear c34
           (first | rw [c34b0] | (simp only [i64_w, i32_w]; rw [c34b0]) | skip)
           obtain ⟨ji35, hji35⟩ : ∃ j_ : Int, (wrap64 (x7_2 - 1)) = j_ := ⟨_, rfl⟩
           replace H : (if 0 ≤ (ji35) then (if (ji35) < (t320.length : Int) then (if 0 ≤ x7_2 then (if ((rd_T78 t320 (ji35)).f1) = ((rd_T78 t320 x7_2).f0) then ((impl_LinksAt.f k2 t315 ((rd_T78 t320 (ji35)).f0)).bind fun t328 => ((impl_LinksAt.f k2 t315 ((rd_T78 t320 x7_2).f0)).bind fun t332 => ((impl_SameLinks.f k2 t328 t332).bind fun t335 => (if t335 = true then (laws_FnGraphs.j2 k2 l0 t315 t320 x7_2 true) else ((impl_IsSpan.f ((rd_T78 t320 x7_2).f0) ((rd_T78 t320 x7_2).f1)).bind fun t337 => (laws_FnGraphs.j2 k2 l0 t315 t320 x7_2 (!t337))))))) else (laws_FnGraphs.j2 k2 l0 t315 t320 x7_2 true)) else (none)) else (none)) else (none)) = some true := by first | (rw [hji35] at H; exact H) | (simp only [hji35] at H ⊢; exact H)
           have hji35w : (IntKind.i64.wrap (x7_2 - 1)) = ji35 := (i64_w _).trans hji35
           replace H := ifn_ H
           obtain ⟨c36, H⟩ := H
           have c36b0 := decide_eq_true c36
           clear c36
           replace H := ifn_ H
           obtain ⟨c37, H⟩ := H
           have c37b0 := decide_eq_true c37
           clear c37
           replace H := ifn_ H
           obtain ⟨c38, H⟩ := H
           have c38b0 := decide_eq_true c38
           clear c38
           by_cases c39 : ((rd_T78 t320 (ji35)).f1) = ((rd_T78 t320 x7_2).f0)
           ·rw [if_pos c39] at H
            obtain ⟨c39b0, c39b1⟩ := bt_ c39
            clear c39
            replace H := bs_ H
            obtain ⟨t328, A40, H⟩ := H
            replace H := bs_ H
            obtain ⟨t332, A41, H⟩ := H
            replace H := bs_ H
            obtain ⟨t335, A42, H⟩ := H
            by_cases c43 : t335 = true
            ·subst c43
             try rw [if_pos rfl] at H
             have H' := Aside0.mk H
             clear H
             try go_wp2
             refine sh3_ (Kd.R_drew HO_3.out) (Kd.R_drew HO_6.out) (below_drew1 HB.out) ?_
             clear HO_3 HO_6 HB
             intro HO_3 HO_6 HB
             have p325 : 0 ≤ ((ji35) : Int) := od_
             have q325 : (ji35) < (t320.length : Int) := od_
             obtain ⟨ad325, e325, hx325_0, hx325_1⟩ := at_T78 (Kd.R_reads' HO_6.out).2.2 (ji35) p325 q325
             cases e325
             replace p325 := eq_true p325
             replace q325 := eq_true q325
             have p326 : 0 ≤ (x7_2 : Int) := od_
             have q326 : x7_2 < (t320.length : Int) := od_
             obtain ⟨ad326, e326, hx326_0, hx326_1⟩ := at_T78 (Kd.R_reads' HO_6.out).2.2 x7_2 p326 q326
             obtain rfl : ad325 = ad326 := (by injection e326)
             replace p326 := eq_true p326
             replace q326 := eq_true q326
             have p327 : 0 ≤ ((ji35) : Int) := od_
             have q327 : (ji35) < (t320.length : Int) := od_
             obtain ⟨ad327, e327, hx327_0, hx327_1⟩ := at_T78 (Kd.R_reads' HO_6.out).2.2 (ji35) p327 q327
             obtain rfl : ad325 = ad327 := (by injection e327)
             replace p327 := eq_true p327
             replace q327 := eq_true q327
             have p331 : 0 ≤ (x7_2 : Int) := od_
             have q331 : x7_2 < (t320.length : Int) := od_
             obtain ⟨ad331, e331, hx331_0, hx331_1⟩ := at_T78 (Kd.R_reads' HO_6.out).2.2 x7_2 p331 q331
             obtain rfl : ad325 = ad331 := (by injection e331)
             replace p331 := eq_true p331
             replace q331 := eq_true q331
             refine start_ (n := 42) (S := fun w' => w'.cell? (ad325.add (((ji35)).toNat * 2)) = some (.int .i64 ((rd_T78 t320 (ji35)).f0)) ∧ w'.cell? ⟨(ad325.add (((ji35)).toNat * 2)).block, (ad325.add (((ji35)).toNat * 2)).off + 1, none⟩ = some (.int .i64 ((rd_T78 t320 (ji35)).f1)) ∧ w'.cell? (ad325.add ((x7_2).toNat * 2)) = some (.int .i64 ((rd_T78 t320 x7_2).f0)) ∧ w'.cell? ⟨(ad325.add ((x7_2).toNat * 2)).block, (ad325.add ((x7_2).toNat * 2)).off + 1, none⟩ = some (.int .i64 ((rd_T78 t320 x7_2).f1)) ∧ w'.cell? (ad325.add (((ji35)).toNat * 2)) = some (.int .i64 ((rd_T78 t320 (ji35)).f0)) ∧ w'.cell? ⟨(ad325.add (((ji35)).toNat * 2)).block, (ad325.add (((ji35)).toNat * 2)).off + 1, none⟩ = some (.int .i64 ((rd_T78 t320 (ji35)).f1)) ∧ w'.cell? (ad325.add ((x7_2).toNat * 2)) = some (.int .i64 ((rd_T78 t320 x7_2).f0)) ∧ w'.cell? ⟨(ad325.add ((x7_2).toNat * 2)).block, (ad325.add ((x7_2).toNat * 2)).off + 1, none⟩ = some (.int .i64 ((rd_T78 t320 x7_2).f1))) (ds := []) #[false, false, false, false, false, false, false, false, false, false, false, false, false, false, false, false, false, false, false, false, false, false, false, false, false, false, false, false, false, false, false, false, false, false, false, false, false, false, false, false, false, false] (by kernel_rfl) rfl rfl ⟨hx325_0, hx325_1, hx326_0, hx326_1, hx327_0, hx327_1, hx331_0, hx331_1⟩ (fun hHeld => ?_); refine with_tabW laws_FnGraphs.tab12 laws_FnGraphs.bits12 (fun HT_ HW_ => ?_)
             generalize wr.drew = w44 at HO_3 HO_6 HB hx325_0 hx325_1 hx326_0 hx326_1 hx327_0 hx327_1 hx331_0 hx331_1 hHeld ⊢
             refine pur_ 0 #[true, false, false, false, false, false, false, false, false, false, false, false, false, false, false, false, false, false, false, false, false, false, false, false, false, false, false, false, false, false, false, false, false, false, false, false, false, false, false, false, false, false] (some 62) HT_ ?_
             refine pur_ 1 #[true, true, false, false, false, false, false, false, false, false, false, false, false, false, false, false, false, false, false, false, false, false, false, false, false, false, false, false, false, false, false, false, false, false, false, false, false, false, false, false, false, false] (some 63) HT_ ?_
             refine pur_ 2 #[true, true, true, false, false, false, false, false, false, false, false, false, false, false, false, false, false, false, false, false, false, false, false, false, false, false, false, false, false, false, false, false, false, false, false, false, false, false, false, false, false, false] (some 64) HT_ ?_
             refine pur_ 3 #[true, true, true, true, false, false, false, false, false, false, false, false, false, false, false, false, false, false, false, false, false, false, false, false, false, false, false, false, false, false, false, false, false, false, false, false, false, false, false, false, false, false] (some 65) HT_ ?_
             refine pur_ 4 #[true, true, true, true, true, false, false, false, false, false, false, false, false, false, false, false, false, false, false, false, false, false, false, false, false, false, false, false, false, false, false, false, false, false, false, false, false, false, false, false, false, false] (some 66) HT_ ?_
             refine pur_ 5 #[true, true, true, true, true, true, false, false, false, false, false, false, false, false, false, false, false, false, false, false, false, false, false, false, false, false, false, false, false, false, false, false, false, false, false, false, false, false, false, false, false, false] (some 67) HT_ ?_
             refine pur_ 6 #[true, true, true, true, true, true, true, false, false, false, false, false, false, false, false, false, false, false, false, false, false, false, false, false, false, false, false, false, false, false, false, false, false, false, false, false, false, false, false, false, false, false] (some 68) HT_ ?_
             refine pur_ 7 #[true, true, true, true, true, true, true, true, false, false, false, false, false, false, false, false, false, false, false, false, false, false, false, false, false, false, false, false, false, false, false, false, false, false, false, false, false, false, false, false, false, false] (some 69) HT_ ?_
             refine pur_ 9 #[true, true, true, true, true, true, true, true, false, true, false, false, false, false, false, false, false, false, false, false, false, false, false, false, false, false, false, false, false, false, false, false, false, false, false, false, false, false, false, false, false, false] (some 71) HT_ ?_
             refine pur_ 10 #[true, true, true, true, true, true, true, true, false, true, true, false, false, false, false, false, false, false, false, false, false, false, false, false, false, false, false, false, false, false, false, false, false, false, false, false, false, false, false, false, false, false] (some 72) HT_ ?_
             refine pur_ 11 #[true, true, true, true, true, true, true, true, false, true, true, true, false, false, false, false, false, false, false, false, false, false, false, false, false, false, false, false, false, false, false, false, false, false, false, false, false, false, false, false, false, false] (some 73) HT_ ?_
             refine pur_ 12 #[true, true, true, true, true, true, true, true, false, true, true, true, true, false, false, false, false, false, false, false, false, false, false, false, false, false, false, false, false, false, false, false, false, false, false, false, false, false, false, false, false, false] (some 74) HT_ ?_
             refine tak_ 8 #[true, true, true, true, true, true, true, true, true, true, true, true, true, false, false, false, false, false, false, false, false, false, false, false, false, false, false, false, false, false, false, false, false, false, false, false, false, false, false, false, false, false] (some 70) HT_ HW_ hHeld ?_
             refine tak_ 13 #[true, true, true, true, true, true, true, true, true, true, true, true, true, true, false, false, false, false, false, false, false, false, false, false, false, false, false, false, false, false, false, false, false, false, false, false, false, false, false, false, false, false] (some 75) HT_ HW_ hHeld ?_
             refine pur_ 14 #[true, true, true, true, true, true, true, true, true, true, true, true, true, true, true, false, false, false, false, false, false, false, false, false, false, false, false, false, false, false, false, false, false, false, false, false, false, false, false, false, false, false] (some 76) HT_ ?_
             refine pur_ 15 #[true, true, true, true, true, true, true, true, true, true, true, true, true, true, true, true, false, false, false, false, false, false, false, false, false, false, false, false, false, false, false, false, false, false, false, false, false, false, false, false, false, false] (some 77) HT_ ?_
             refine pur_ 16 #[true, true, true, true, true, true, true, true, true, true, true, true, true, true, true, true, true, false, false, false, false, false, false, false, false, false, false, false, false, false, false, false, false, false, false, false, false, false, false, false, false, false] (some 78) HT_ ?_
             refine pur_ 17 #[true, true, true, true, true, true, true, true, true, true, true, true, true, true, true, true, true, true, false, false, false, false, false, false, false, false, false, false, false, false, false, false, false, false, false, false, false, false, false, false, false, false] (some 79) HT_ ?_
             refine pur_ 18 #[true, true, true, true, true, true, true, true, true, true, true, true, true, true, true, true, true, true, true, false, false, false, false, false, false, false, false, false, false, false, false, false, false, false, false, false, false, false, false, false, false, false] (some 80) HT_ ?_
             refine pur_ 19 #[true, true, true, true, true, true, true, true, true, true, true, true, true, true, true, true, true, true, true, true, false, false, false, false, false, false, false, false, false, false, false, false, false, false, false, false, false, false, false, false, false, false] (some 81) HT_ ?_
             refine pur_ 20 #[true, true, true, true, true, true, true, true, true, true, true, true, true, true, true, true, true, true, true, true, true, false, false, false, false, false, false, false, false, false, false, false, false, false, false, false, false, false, false, false, false, false] (some 82) HT_ ?_
             refine pur_ 21 #[true, true, true, true, true, true, true, true, true, true, true, true, true, true, true, true, true, true, true, true, true, true, false, false, false, false, false, false, false, false, false, false, false, false, false, false, false, false, false, false, false, false] (some 83) HT_ ?_
             refine pur_ 24 #[true, true, true, true, true, true, true, true, true, true, true, true, true, true, true, true, true, true, true, true, true, true, false, false, true, false, false, false, false, false, false, false, false, false, false, false, false, false, false, false, false, false] (some 86) HT_ ?_
             refine pur_ 25 #[true, true, true, true, true, true, true, true, true, true, true, true, true, true, true, true, true, true, true, true, true, true, false, false, true, true, false, false, false, false, false, false, false, false, false, false, false, false, false, false, false, false] (some 87) HT_ ?_
             refine pur_ 26 #[true, true, true, true, true, true, true, true, true, true, true, true, true, true, true, true, true, true, true, true, true, true, false, false, true, true, true, false, false, false, false, false, false, false, false, false, false, false, false, false, false, false] (some 88) HT_ ?_
             refine pur_ 27 #[true, true, true, true, true, true, true, true, true, true, true, true, true, true, true, true, true, true, true, true, true, true, false, false, true, true, true, true, false, false, false, false, false, false, false, false, false, false, false, false, false, false] (some 89) HT_ ?_
             refine pur_ 28 #[true, true, true, true, true, true, true, true, true, true, true, true, true, true, true, true, true, true, true, true, true, true, false, false, true, true, true, true, true, false, false, false, false, false, false, false, false, false, false, false, false, false] (some 90) HT_ ?_
             refine tak_ 22 #[true, true, true, true, true, true, true, true, true, true, true, true, true, true, true, true, true, true, true, true, true, true, true, false, true, true, true, true, true, false, false, false, false, false, false, false, false, false, false, false, false, false] (some 84) HT_ HW_ hHeld ?_
             refine tak_ 29 #[true, true, true, true, true, true, true, true, true, true, true, true, true, true, true, true, true, true, true, true, true, true, true, false, true, true, true, true, true, true, false, false, false, false, false, false, false, false, false, false, false, false] (some 91) HT_ HW_ hHeld ?_
             refine one_ (i := 23) (N := some 85) #[true, true, true, true, true, true, true, true, true, true, true, true, true, true, true, true, true, true, true, true, true, true, true, true, true, true, true, true, true, true, false, false, false, false, false, false, false, false, false, false, false, false] rfl rfl (one_of HT_.out (by kernel_rfl)) (by decide) (fun K hK => ?_)
             refine goes_ Try.func34 (by kernel_rfl) rfl #[.slice Ao23 t315.length co23, .int .i64 ((rd_T78 t320 (ji35)).f0)] (by rfl) rfl rfl (by (try simp only [List.map_toArray, List.map_cons, List.map_nil]); first | done | (simp only [hji35]; rfl) | rfl | (simp only [List.length_drop, List.length_take]; rfl)) ?_
             with_reducible refine (impl_LinksAt.calls k2 _ _ t315 ((rd_T78 t320 (ji35)).f0) t328 _ ?side1 ?side2 A40.out).mono ?_
             (case side1 => repeat (first | exact (Kd.R_reads' HO_3.out).2.2 | (with_reducible refine Kd.C_alloc ?_ _) | (with_reducible refine Kd.C_drewN ?_ _) | (with_reducible refine Kd.C_drew ?_)))
             (case side2 => exact (Kd.R_reads' HO_3.out).2.1)
             rintro e w45 ⟨v329, rfl, ho0, hb⟩
             have HS0_ := (hb.cell (World.block_lt_of_cell? _ _ (hHeld.1))).trans (hHeld.1)
             have HS1_ := (hb.cell (World.block_lt_of_cell? _ _ (hHeld.2.1))).trans (hHeld.2.1)
             have HS2_ := (hb.cell (World.block_lt_of_cell? _ _ (hHeld.2.2.1))).trans (hHeld.2.2.1)
             have HS3_ := (hb.cell (World.block_lt_of_cell? _ _ (hHeld.2.2.2.1))).trans (hHeld.2.2.2.1)
             have HS4_ := (hb.cell (World.block_lt_of_cell? _ _ (hHeld.2.2.2.2.1))).trans (hHeld.2.2.2.2.1)
             have HS5_ := (hb.cell (World.block_lt_of_cell? _ _ (hHeld.2.2.2.2.2.1))).trans (hHeld.2.2.2.2.2.1)
             have HS6_ := (hb.cell (World.block_lt_of_cell? _ _ (hHeld.2.2.2.2.2.2.1))).trans (hHeld.2.2.2.2.2.2.1)
             have HS7_ := (hb.cell (World.block_lt_of_cell? _ _ (hHeld.2.2.2.2.2.2.2))).trans (hHeld.2.2.2.2.2.2.2)
             refine ⟨_, rfl, sh4_ (Kd.R_below (ra_ HO_3) hb) (Kd.R_below (ra_ HO_6) hb) (Kd.R_lower ho0 (below_size (bl_ HB))) (below_step (bl_ HB) hb) ?_⟩
             clear HO_3 HO_6 HB
             intro HO_3 HO_6 HO330 HB
             refine hK.out _ _ ⟨HS0_, HS1_, HS2_, HS3_, HS4_, HS5_, HS6_, HS7_⟩ (fun hHeld => ?_)
             clear hK K
             refine norm_ (a' := ?_) ?_ ?_
             rotate_left
             ·show Act.put _ (some 85) _ = _
              simp only [Act.put, List.setIfInBounds_toArray, List.set_cons_zero, List.set_cons_succ, i64_w, i32_w]
              rfl
             refine onc_ 30 #[true, true, true, true, true, true, true, true, true, true, true, true, true, true, true, true, true, true, true, true, true, true, true, true, true, true, true, true, true, true, true, false, false, false, false, false, false, false, false, false, false, false] (some 92) HT_ Try.func34 (impl_LinksAt.calls k2 _ _ t315 ((rd_T78 t320 x7_2).f0) t332 _ (cr_ HO_3) (rl_ HO_3) A41.out) ?_
             rintro e w46 ⟨v333, rfl, ho0, hb⟩
             have HS0_ := (hb.cell (World.block_lt_of_cell? _ _ (hHeld.1))).trans (hHeld.1)
             have HS1_ := (hb.cell (World.block_lt_of_cell? _ _ (hHeld.2.1))).trans (hHeld.2.1)
             have HS2_ := (hb.cell (World.block_lt_of_cell? _ _ (hHeld.2.2.1))).trans (hHeld.2.2.1)
             have HS3_ := (hb.cell (World.block_lt_of_cell? _ _ (hHeld.2.2.2.1))).trans (hHeld.2.2.2.1)
             have HS4_ := (hb.cell (World.block_lt_of_cell? _ _ (hHeld.2.2.2.2.1))).trans (hHeld.2.2.2.2.1)
             have HS5_ := (hb.cell (World.block_lt_of_cell? _ _ (hHeld.2.2.2.2.2.1))).trans (hHeld.2.2.2.2.2.1)
             have HS6_ := (hb.cell (World.block_lt_of_cell? _ _ (hHeld.2.2.2.2.2.2.1))).trans (hHeld.2.2.2.2.2.2.1)
             have HS7_ := (hb.cell (World.block_lt_of_cell? _ _ (hHeld.2.2.2.2.2.2.2))).trans (hHeld.2.2.2.2.2.2.2)
             refine sh5_ (Kd.R_below (ra_ HO_3) hb) (Kd.R_below (ra_ HO_6) hb) (Kd.R_elder' (ra_ HO330) (Kd.R_base ho0) hb) (Kd.R_lower (Kd.R_new' ho0 (Kd.R_lt (ra_ HO330))) (below_size (bl_ HB))) (below_step (bl_ HB) hb) ?_
             clear HO_3 HO_6 HO330 HB
             intro HO_3 HO_6 HO330 HO334 HB
             obtain ⟨Ao47, co47, eo47⟩ := Kd.R_slice HO330.out
             (first | subst eo47 | (injection eo47 with f1_ f2_ f3_; have f4_ := f1_.symm; have f5_ := f3_.symm; clear f1_ f2_ f3_; subst f4_; subst f5_))
             obtain ⟨Ao48, co48, eo48⟩ := Kd.R_slice HO334.out
             (first | subst eo48 | (injection eo48 with f1_ f2_ f3_; have f4_ := f1_.symm; have f5_ := f3_.symm; clear f1_ f2_ f3_; subst f4_; subst f5_))
             refine ⟨_, _, rfl, ⟨HS0_, HS1_, HS2_, HS3_, HS4_, HS5_, HS6_, HS7_⟩, pt_, fun hHeld => ?_⟩
             refine onc_ 31 #[true, true, true, true, true, true, true, true, true, true, true, true, true, true, true, true, true, true, true, true, true, true, true, true, true, true, true, true, true, true, true, true, false, false, false, false, false, false, false, false, false, false] (some 93) HT_ Try.func61 (impl_SameLinks.calls k2 _ _ t328 _ _ t332 true _ (cr_ HO330) (rl_ HO330) (cr_ HO334) (rl_ HO334) A42.out) ?_
             rintro e w' ⟨rfl, ⟨nd, rfl⟩⟩
             refine ⟨_, _, rfl, ⟨hHeld.1, hHeld.2.1, hHeld.2.2.1, hHeld.2.2.2.1, hHeld.2.2.2.2.1, hHeld.2.2.2.2.2.1, hHeld.2.2.2.2.2.2.1, hHeld.2.2.2.2.2.2.2⟩, pt_, fun hHeld => ?_⟩
             refine pur_ 32 #[true, true, true, true, true, true, true, true, true, true, true, true, true, true, true, true, true, true, true, true, true, true, true, true, true, true, true, true, true, true, true, true, true, false, false, false, false, false, false, false, false, false] (some 94) HT_ ?_
             refine pur_ 33 #[true, true, true, true, true, true, true, true, true, true, true, true, true, true, true, true, true, true, true, true, true, true, true, true, true, true, true, true, true, true, true, true, true, true, false, false, false, false, false, false, false, false] (some 95) HT_ ?_
             refine pur_ 34 #[true, true, true, true, true, true, true, true, true, true, true, true, true, true, true, true, true, true, true, true, true, true, true, true, true, true, true, true, true, true, true, true, true, true, true, false, false, false, false, false, false, false] (some 96) HT_ ?_
             refine pure_ (i := 35) (N := some 97) (v := undef) (a' := ?_) #[true, true, true, true, true, true, true, true, true, true, true, true, true, true, true, true, true, true, true, true, true, true, true, true, true, true, true, true, true, true, true, true, true, true, true, true, false, false, false, false, false, false] rfl rfl (any_of HT_.out (by kernel_rfl)) (fun _ _ _ h => h) (Or.inr ⟨by rfl, rfl⟩) ?_ ?_
             rotate_left
             ·simp only [Act.put, List.setIfInBounds_toArray, List.set_cons_zero, List.set_cons_succ, i64_w, i32_w]
              rfl
             refine pure_ (i := 36) (N := some 98) (v := undef) (a' := ?_) #[true, true, true, true, true, true, true, true, true, true, true, true, true, true, true, true, true, true, true, true, true, true, true, true, true, true, true, true, true, true, true, true, true, true, true, true, true, false, false, false, false, false] rfl rfl (any_of HT_.out (by kernel_rfl)) (fun _ _ _ h => h) (Or.inr ⟨by rfl, rfl⟩) ?_ ?_
             rotate_left
             ·simp only [Act.put, List.setIfInBounds_toArray, List.set_cons_zero, List.set_cons_succ, i64_w, i32_w]
              rfl
             refine pure_ (i := 37) (N := some 99) (v := undef) (a' := ?_) #[true, true, true, true, true, true, true, true, true, true, true, true, true, true, true, true, true, true, true, true, true, true, true, true, true, true, true, true, true, true, true, true, true, true, true, true, true, true, false, false, false, false] rfl rfl (any_of HT_.out (by kernel_rfl)) (fun _ _ _ h => h) (Or.inr ⟨by rfl, rfl⟩) ?_ ?_
             rotate_left
             ·simp only [Act.put, List.setIfInBounds_toArray, List.set_cons_zero, List.set_cons_succ, i64_w, i32_w]
              rfl
             refine pure_ (i := 38) (N := some 100) (v := undef) (a' := ?_) #[true, true, true, true, true, true, true, true, true, true, true, true, true, true, true, true, true, true, true, true, true, true, true, true, true, true, true, true, true, true, true, true, true, true, true, true, true, true, true, false, false, false] rfl rfl (any_of HT_.out (by kernel_rfl)) (fun _ _ _ h => h) (Or.inr ⟨by rfl, rfl⟩) ?_ ?_
             rotate_left
             ·simp only [Act.put, List.setIfInBounds_toArray, List.set_cons_zero, List.set_cons_succ, i64_w, i32_w]
              rfl
             refine pure_ (i := 39) (N := some 101) (v := undef) (a' := ?_) #[true, true, true, true, true, true, true, true, true, true, true, true, true, true, true, true, true, true, true, true, true, true, true, true, true, true, true, true, true, true, true, true, true, true, true, true, true, true, true, true, false, false] rfl rfl (any_of HT_.out (by kernel_rfl)) (fun _ _ _ h => h) (Or.inr ⟨by rfl, rfl⟩) ?_ ?_
             rotate_left
             ·simp only [Act.put, List.setIfInBounds_toArray, List.set_cons_zero, List.set_cons_succ, i64_w, i32_w]
              rfl
             refine pure_ (i := 40) (N := some 102) (v := undef) (a' := ?_) #[true, true, true, true, true, true, true, true, true, true, true, true, true, true, true, true, true, true, true, true, true, true, true, true, true, true, true, true, true, true, true, true, true, true, true, true, true, true, true, true, true, false] rfl rfl (any_of HT_.out (by kernel_rfl)) (fun _ _ _ h => h) (Or.inr ⟨by rfl, rfl⟩) ?_ ?_
             rotate_left
             ·simp only [Act.put, List.setIfInBounds_toArray, List.set_cons_zero, List.set_cons_succ, i64_w, i32_w]
              rfl
             refine pur_ 41 #[true, true, true, true, true, true, true, true, true, true, true, true, true, true, true, true, true, true, true, true, true, true, true, true, true, true, true, true, true, true, true, true, true, true, true, true, true, true, true, true, true, true] (some 103) HT_ ?_
             refine done_ (done_of HT_.out (by kernel_rfl)) ?_
             try go_wp2
             go_meet
             case rel => exact ⟨_, (true), (by first | rfl | (simp; done) | (simp [*]; done)), H', ⟨by have := HJ20.out; have := HK2.out; first | omega | exact Nat.le_refl _⟩, ⟨ra_ HO_3⟩, ⟨ra_ HO_6⟩, ⟨bl_ HB⟩⟩
            ·replace c43 := Bool.eq_false_iff.mpr c43
             subst c43
             have H1 : ((impl_IsSpan.f ((rd_T78 t320 x7_2).f0) ((rd_T78 t320 x7_2).f1)).bind fun t337 => (laws_FnGraphs.j2 k2 l0 t315 t320 x7_2 (!t337))) = some true := by first | (rw [if_neg (show ¬ (false = true) by decide)] at H; exact H) | rfl
             clear H
             have H := H1
             clear H1
             replace H := bs_ H
             obtain ⟨t337, A49, H⟩ := H
             have H' := Aside0.mk H
             clear H
             try go_wp2
             refine sh3_ (Kd.R_drew HO_3.out) (Kd.R_drew HO_6.out) (below_drew1 HB.out) ?_
             clear HO_3 HO_6 HB
             intro HO_3 HO_6 HB
             have p325 : 0 ≤ ((ji35) : Int) := od_
             have q325 : (ji35) < (t320.length : Int) := od_
             obtain ⟨ad325, e325, hx325_0, hx325_1⟩ := at_T78 (Kd.R_reads' HO_6.out).2.2 (ji35) p325 q325
             cases e325
             replace p325 := eq_true p325
             replace q325 := eq_true q325
             have p326 : 0 ≤ (x7_2 : Int) := od_
             have q326 : x7_2 < (t320.length : Int) := od_
             obtain ⟨ad326, e326, hx326_0, hx326_1⟩ := at_T78 (Kd.R_reads' HO_6.out).2.2 x7_2 p326 q326
             obtain rfl : ad325 = ad326 := (by injection e326)
             replace p326 := eq_true p326
             replace q326 := eq_true q326
             have p327 : 0 ≤ ((ji35) : Int) := od_
             have q327 : (ji35) < (t320.length : Int) := od_
             obtain ⟨ad327, e327, hx327_0, hx327_1⟩ := at_T78 (Kd.R_reads' HO_6.out).2.2 (ji35) p327 q327
             obtain rfl : ad325 = ad327 := (by injection e327)
             replace p327 := eq_true p327
             replace q327 := eq_true q327
             have p331 : 0 ≤ (x7_2 : Int) := od_
             have q331 : x7_2 < (t320.length : Int) := od_
             obtain ⟨ad331, e331, hx331_0, hx331_1⟩ := at_T78 (Kd.R_reads' HO_6.out).2.2 x7_2 p331 q331
             obtain rfl : ad325 = ad331 := (by injection e331)
             replace p331 := eq_true p331
             replace q331 := eq_true q331
             have p336 : 0 ≤ (x7_2 : Int) := od_
             have q336 : x7_2 < (t320.length : Int) := od_
             obtain ⟨ad336, e336, hx336_0, hx336_1⟩ := at_T78 (Kd.R_reads' HO_6.out).2.2 x7_2 p336 q336
             obtain rfl : ad325 = ad336 := (by injection e336)
             replace p336 := eq_true p336
             replace q336 := eq_true q336
             refine start_ (n := 42) (S := fun w' => w'.cell? (ad325.add (((ji35)).toNat * 2)) = some (.int .i64 ((rd_T78 t320 (ji35)).f0)) ∧ w'.cell? ⟨(ad325.add (((ji35)).toNat * 2)).block, (ad325.add (((ji35)).toNat * 2)).off + 1, none⟩ = some (.int .i64 ((rd_T78 t320 (ji35)).f1)) ∧ w'.cell? (ad325.add ((x7_2).toNat * 2)) = some (.int .i64 ((rd_T78 t320 x7_2).f0)) ∧ w'.cell? ⟨(ad325.add ((x7_2).toNat * 2)).block, (ad325.add ((x7_2).toNat * 2)).off + 1, none⟩ = some (.int .i64 ((rd_T78 t320 x7_2).f1)) ∧ w'.cell? (ad325.add (((ji35)).toNat * 2)) = some (.int .i64 ((rd_T78 t320 (ji35)).f0)) ∧ w'.cell? ⟨(ad325.add (((ji35)).toNat * 2)).block, (ad325.add (((ji35)).toNat * 2)).off + 1, none⟩ = some (.int .i64 ((rd_T78 t320 (ji35)).f1)) ∧ w'.cell? (ad325.add ((x7_2).toNat * 2)) = some (.int .i64 ((rd_T78 t320 x7_2).f0)) ∧ w'.cell? ⟨(ad325.add ((x7_2).toNat * 2)).block, (ad325.add ((x7_2).toNat * 2)).off + 1, none⟩ = some (.int .i64 ((rd_T78 t320 x7_2).f1)) ∧ w'.cell? (ad325.add ((x7_2).toNat * 2)) = some (.int .i64 ((rd_T78 t320 x7_2).f0)) ∧ w'.cell? ⟨(ad325.add ((x7_2).toNat * 2)).block, (ad325.add ((x7_2).toNat * 2)).off + 1, none⟩ = some (.int .i64 ((rd_T78 t320 x7_2).f1))) (ds := []) #[false, false, false, false, false, false, false, false, false, false, false, false, false, false, false, false, false, false, false, false, false, false, false, false, false, false, false, false, false, false, false, false, false, false, false, false, false, false, false, false, false, false] (by kernel_rfl) rfl rfl ⟨hx325_0, hx325_1, hx326_0, hx326_1, hx327_0, hx327_1, hx331_0, hx331_1, hx336_0, hx336_1⟩ (fun hHeld => ?_); refine with_tabW laws_FnGraphs.tab12 laws_FnGraphs.bits12 (fun HT_ HW_ => ?_)
             generalize wr.drew = w50 at HO_3 HO_6 HB hx325_0 hx325_1 hx326_0 hx326_1 hx327_0 hx327_1 hx331_0 hx331_1 hx336_0 hx336_1 hHeld ⊢
             refine pur_ 0 #[true, false, false, false, false, false, false, false, false, false, false, false, false, false, false, false, false, false, false, false, false, false, false, false, false, false, false, false, false, false, false, false, false, false, false, false, false, false, false, false, false, false] (some 62) HT_ ?_
             refine pur_ 1 #[true, true, false, false, false, false, false, false, false, false, false, false, false, false, false, false, false, false, false, false, false, false, false, false, false, false, false, false, false, false, false, false, false, false, false, false, false, false, false, false, false, false] (some 63) HT_ ?_
             refine pur_ 2 #[true, true, true, false, false, false, false, false, false, false, false, false, false, false, false, false, false, false, false, false, false, false, false, false, false, false, false, false, false, false, false, false, false, false, false, false, false, false, false, false, false, false] (some 64) HT_ ?_
             refine pur_ 3 #[true, true, true, true, false, false, false, false, false, false, false, false, false, false, false, false, false, false, false, false, false, false, false, false, false, false, false, false, false, false, false, false, false, false, false, false, false, false, false, false, false, false] (some 65) HT_ ?_
             refine pur_ 4 #[true, true, true, true, true, false, false, false, false, false, false, false, false, false, false, false, false, false, false, false, false, false, false, false, false, false, false, false, false, false, false, false, false, false, false, false, false, false, false, false, false, false] (some 66) HT_ ?_
             refine pur_ 5 #[true, true, true, true, true, true, false, false, false, false, false, false, false, false, false, false, false, false, false, false, false, false, false, false, false, false, false, false, false, false, false, false, false, false, false, false, false, false, false, false, false, false] (some 67) HT_ ?_
             refine pur_ 6 #[true, true, true, true, true, true, true, false, false, false, false, false, false, false, false, false, false, false, false, false, false, false, false, false, false, false, false, false, false, false, false, false, false, false, false, false, false, false, false, false, false, false] (some 68) HT_ ?_
             refine pur_ 7 #[true, true, true, true, true, true, true, true, false, false, false, false, false, false, false, false, false, false, false, false, false, false, false, false, false, false, false, false, false, false, false, false, false, false, false, false, false, false, false, false, false, false] (some 69) HT_ ?_
             refine pur_ 9 #[true, true, true, true, true, true, true, true, false, true, false, false, false, false, false, false, false, false, false, false, false, false, false, false, false, false, false, false, false, false, false, false, false, false, false, false, false, false, false, false, false, false] (some 71) HT_ ?_
             refine pur_ 10 #[true, true, true, true, true, true, true, true, false, true, true, false, false, false, false, false, false, false, false, false, false, false, false, false, false, false, false, false, false, false, false, false, false, false, false, false, false, false, false, false, false, false] (some 72) HT_ ?_
             refine pur_ 11 #[true, true, true, true, true, true, true, true, false, true, true, true, false, false, false, false, false, false, false, false, false, false, false, false, false, false, false, false, false, false, false, false, false, false, false, false, false, false, false, false, false, false] (some 73) HT_ ?_
             refine pur_ 12 #[true, true, true, true, true, true, true, true, false, true, true, true, true, false, false, false, false, false, false, false, false, false, false, false, false, false, false, false, false, false, false, false, false, false, false, false, false, false, false, false, false, false] (some 74) HT_ ?_
             refine tak_ 8 #[true, true, true, true, true, true, true, true, true, true, true, true, true, false, false, false, false, false, false, false, false, false, false, false, false, false, false, false, false, false, false, false, false, false, false, false, false, false, false, false, false, false] (some 70) HT_ HW_ hHeld ?_
             refine tak_ 13 #[true, true, true, true, true, true, true, true, true, true, true, true, true, true, false, false, false, false, false, false, false, false, false, false, false, false, false, false, false, false, false, false, false, false, false, false, false, false, false, false, false, false] (some 75) HT_ HW_ hHeld ?_
             refine pur_ 14 #[true, true, true, true, true, true, true, true, true, true, true, true, true, true, true, false, false, false, false, false, false, false, false, false, false, false, false, false, false, false, false, false, false, false, false, false, false, false, false, false, false, false] (some 76) HT_ ?_
             refine pur_ 15 #[true, true, true, true, true, true, true, true, true, true, true, true, true, true, true, true, false, false, false, false, false, false, false, false, false, false, false, false, false, false, false, false, false, false, false, false, false, false, false, false, false, false] (some 77) HT_ ?_
             refine pur_ 16 #[true, true, true, true, true, true, true, true, true, true, true, true, true, true, true, true, true, false, false, false, false, false, false, false, false, false, false, false, false, false, false, false, false, false, false, false, false, false, false, false, false, false] (some 78) HT_ ?_
             refine pur_ 17 #[true, true, true, true, true, true, true, true, true, true, true, true, true, true, true, true, true, true, false, false, false, false, false, false, false, false, false, false, false, false, false, false, false, false, false, false, false, false, false, false, false, false] (some 79) HT_ ?_
             refine pur_ 18 #[true, true, true, true, true, true, true, true, true, true, true, true, true, true, true, true, true, true, true, false, false, false, false, false, false, false, false, false, false, false, false, false, false, false, false, false, false, false, false, false, false, false] (some 80) HT_ ?_
             refine pur_ 19 #[true, true, true, true, true, true, true, true, true, true, true, true, true, true, true, true, true, true, true, true, false, false, false, false, false, false, false, false, false, false, false, false, false, false, false, false, false, false, false, false, false, false] (some 81) HT_ ?_
             refine pur_ 20 #[true, true, true, true, true, true, true, true, true, true, true, true, true, true, true, true, true, true, true, true, true, false, false, false, false, false, false, false, false, false, false, false, false, false, false, false, false, false, false, false, false, false] (some 82) HT_ ?_
             refine pur_ 21 #[true, true, true, true, true, true, true, true, true, true, true, true, true, true, true, true, true, true, true, true, true, true, false, false, false, false, false, false, false, false, false, false, false, false, false, false, false, false, false, false, false, false] (some 83) HT_ ?_
             refine pur_ 24 #[true, true, true, true, true, true, true, true, true, true, true, true, true, true, true, true, true, true, true, true, true, true, false, false, true, false, false, false, false, false, false, false, false, false, false, false, false, false, false, false, false, false] (some 86) HT_ ?_
             refine pur_ 25 #[true, true, true, true, true, true, true, true, true, true, true, true, true, true, true, true, true, true, true, true, true, true, false, false, true, true, false, false, false, false, false, false, false, false, false, false, false, false, false, false, false, false] (some 87) HT_ ?_
             refine pur_ 26 #[true, true, true, true, true, true, true, true, true, true, true, true, true, true, true, true, true, true, true, true, true, true, false, false, true, true, true, false, false, false, false, false, false, false, false, false, false, false, false, false, false, false] (some 88) HT_ ?_
             refine pur_ 27 #[true, true, true, true, true, true, true, true, true, true, true, true, true, true, true, true, true, true, true, true, true, true, false, false, true, true, true, true, false, false, false, false, false, false, false, false, false, false, false, false, false, false] (some 89) HT_ ?_
             refine pur_ 28 #[true, true, true, true, true, true, true, true, true, true, true, true, true, true, true, true, true, true, true, true, true, true, false, false, true, true, true, true, true, false, false, false, false, false, false, false, false, false, false, false, false, false] (some 90) HT_ ?_
             refine tak_ 22 #[true, true, true, true, true, true, true, true, true, true, true, true, true, true, true, true, true, true, true, true, true, true, true, false, true, true, true, true, true, false, false, false, false, false, false, false, false, false, false, false, false, false] (some 84) HT_ HW_ hHeld ?_
             refine tak_ 29 #[true, true, true, true, true, true, true, true, true, true, true, true, true, true, true, true, true, true, true, true, true, true, true, false, true, true, true, true, true, true, false, false, false, false, false, false, false, false, false, false, false, false] (some 91) HT_ HW_ hHeld ?_
             refine one_ (i := 23) (N := some 85) #[true, true, true, true, true, true, true, true, true, true, true, true, true, true, true, true, true, true, true, true, true, true, true, true, true, true, true, true, true, true, false, false, false, false, false, false, false, false, false, false, false, false] rfl rfl (one_of HT_.out (by kernel_rfl)) (by decide) (fun K hK => ?_)
             refine goes_ Try.func34 (by kernel_rfl) rfl #[.slice Ao23 t315.length co23, .int .i64 ((rd_T78 t320 (ji35)).f0)] (by rfl) rfl rfl (by (try simp only [List.map_toArray, List.map_cons, List.map_nil]); first | done | (simp only [hji35]; rfl) | rfl | (simp only [List.length_drop, List.length_take]; rfl)) ?_
             with_reducible refine (impl_LinksAt.calls k2 _ _ t315 ((rd_T78 t320 (ji35)).f0) t328 _ ?side1 ?side2 A40.out).mono ?_
             (case side1 => repeat (first | exact (Kd.R_reads' HO_3.out).2.2 | (with_reducible refine Kd.C_alloc ?_ _) | (with_reducible refine Kd.C_drewN ?_ _) | (with_reducible refine Kd.C_drew ?_)))
             (case side2 => exact (Kd.R_reads' HO_3.out).2.1)
             rintro e w51 ⟨v329, rfl, ho0, hb⟩
             have HS0_ := (hb.cell (World.block_lt_of_cell? _ _ (hHeld.1))).trans (hHeld.1)
             have HS1_ := (hb.cell (World.block_lt_of_cell? _ _ (hHeld.2.1))).trans (hHeld.2.1)
             have HS2_ := (hb.cell (World.block_lt_of_cell? _ _ (hHeld.2.2.1))).trans (hHeld.2.2.1)
             have HS3_ := (hb.cell (World.block_lt_of_cell? _ _ (hHeld.2.2.2.1))).trans (hHeld.2.2.2.1)
             have HS4_ := (hb.cell (World.block_lt_of_cell? _ _ (hHeld.2.2.2.2.1))).trans (hHeld.2.2.2.2.1)
             have HS5_ := (hb.cell (World.block_lt_of_cell? _ _ (hHeld.2.2.2.2.2.1))).trans (hHeld.2.2.2.2.2.1)
             have HS6_ := (hb.cell (World.block_lt_of_cell? _ _ (hHeld.2.2.2.2.2.2.1))).trans (hHeld.2.2.2.2.2.2.1)
             have HS7_ := (hb.cell (World.block_lt_of_cell? _ _ (hHeld.2.2.2.2.2.2.2.1))).trans (hHeld.2.2.2.2.2.2.2.1)
             have HS8_ := (hb.cell (World.block_lt_of_cell? _ _ (hHeld.2.2.2.2.2.2.2.2.1))).trans (hHeld.2.2.2.2.2.2.2.2.1)
             have HS9_ := (hb.cell (World.block_lt_of_cell? _ _ (hHeld.2.2.2.2.2.2.2.2.2))).trans (hHeld.2.2.2.2.2.2.2.2.2)
             refine ⟨_, rfl, sh4_ (Kd.R_below (ra_ HO_3) hb) (Kd.R_below (ra_ HO_6) hb) (Kd.R_lower ho0 (below_size (bl_ HB))) (below_step (bl_ HB) hb) ?_⟩
             clear HO_3 HO_6 HB
             intro HO_3 HO_6 HO330 HB
             refine hK.out _ _ ⟨HS0_, HS1_, HS2_, HS3_, HS4_, HS5_, HS6_, HS7_, HS8_, HS9_⟩ (fun hHeld => ?_)
             clear hK K
             refine norm_ (a' := ?_) ?_ ?_
             rotate_left
             ·show Act.put _ (some 85) _ = _
              simp only [Act.put, List.setIfInBounds_toArray, List.set_cons_zero, List.set_cons_succ, i64_w, i32_w]
              rfl
             refine onc_ 30 #[true, true, true, true, true, true, true, true, true, true, true, true, true, true, true, true, true, true, true, true, true, true, true, true, true, true, true, true, true, true, true, false, false, false, false, false, false, false, false, false, false, false] (some 92) HT_ Try.func34 (impl_LinksAt.calls k2 _ _ t315 ((rd_T78 t320 x7_2).f0) t332 _ (cr_ HO_3) (rl_ HO_3) A41.out) ?_
             rintro e w52 ⟨v333, rfl, ho0, hb⟩
             have HS0_ := (hb.cell (World.block_lt_of_cell? _ _ (hHeld.1))).trans (hHeld.1)
             have HS1_ := (hb.cell (World.block_lt_of_cell? _ _ (hHeld.2.1))).trans (hHeld.2.1)
             have HS2_ := (hb.cell (World.block_lt_of_cell? _ _ (hHeld.2.2.1))).trans (hHeld.2.2.1)
             have HS3_ := (hb.cell (World.block_lt_of_cell? _ _ (hHeld.2.2.2.1))).trans (hHeld.2.2.2.1)
             have HS4_ := (hb.cell (World.block_lt_of_cell? _ _ (hHeld.2.2.2.2.1))).trans (hHeld.2.2.2.2.1)
             have HS5_ := (hb.cell (World.block_lt_of_cell? _ _ (hHeld.2.2.2.2.2.1))).trans (hHeld.2.2.2.2.2.1)
             have HS6_ := (hb.cell (World.block_lt_of_cell? _ _ (hHeld.2.2.2.2.2.2.1))).trans (hHeld.2.2.2.2.2.2.1)
             have HS7_ := (hb.cell (World.block_lt_of_cell? _ _ (hHeld.2.2.2.2.2.2.2.1))).trans (hHeld.2.2.2.2.2.2.2.1)
             have HS8_ := (hb.cell (World.block_lt_of_cell? _ _ (hHeld.2.2.2.2.2.2.2.2.1))).trans (hHeld.2.2.2.2.2.2.2.2.1)
             have HS9_ := (hb.cell (World.block_lt_of_cell? _ _ (hHeld.2.2.2.2.2.2.2.2.2))).trans (hHeld.2.2.2.2.2.2.2.2.2)
             refine sh5_ (Kd.R_below (ra_ HO_3) hb) (Kd.R_below (ra_ HO_6) hb) (Kd.R_elder' (ra_ HO330) (Kd.R_base ho0) hb) (Kd.R_lower (Kd.R_new' ho0 (Kd.R_lt (ra_ HO330))) (below_size (bl_ HB))) (below_step (bl_ HB) hb) ?_
             clear HO_3 HO_6 HO330 HB
             intro HO_3 HO_6 HO330 HO334 HB
             obtain ⟨Ao53, co53, eo53⟩ := Kd.R_slice HO330.out
             (first | subst eo53 | (injection eo53 with f1_ f2_ f3_; have f4_ := f1_.symm; have f5_ := f3_.symm; clear f1_ f2_ f3_; subst f4_; subst f5_))
             obtain ⟨Ao54, co54, eo54⟩ := Kd.R_slice HO334.out
             (first | subst eo54 | (injection eo54 with f1_ f2_ f3_; have f4_ := f1_.symm; have f5_ := f3_.symm; clear f1_ f2_ f3_; subst f4_; subst f5_))
             refine ⟨_, _, rfl, ⟨HS0_, HS1_, HS2_, HS3_, HS4_, HS5_, HS6_, HS7_, HS8_, HS9_⟩, pt_, fun hHeld => ?_⟩
             refine onc_ 31 #[true, true, true, true, true, true, true, true, true, true, true, true, true, true, true, true, true, true, true, true, true, true, true, true, true, true, true, true, true, true, true, true, false, false, false, false, false, false, false, false, false, false] (some 93) HT_ Try.func61 (impl_SameLinks.calls k2 _ _ t328 _ _ t332 false _ (cr_ HO330) (rl_ HO330) (cr_ HO334) (rl_ HO334) A42.out) ?_
             rintro e w' ⟨rfl, ⟨nd, rfl⟩⟩
             refine ⟨_, _, rfl, ⟨hHeld.1, hHeld.2.1, hHeld.2.2.1, hHeld.2.2.2.1, hHeld.2.2.2.2.1, hHeld.2.2.2.2.2.1, hHeld.2.2.2.2.2.2.1, hHeld.2.2.2.2.2.2.2.1, hHeld.2.2.2.2.2.2.2.2.1, hHeld.2.2.2.2.2.2.2.2.2⟩, pt_, fun hHeld => ?_⟩
             refine pur_ 32 #[true, true, true, true, true, true, true, true, true, true, true, true, true, true, true, true, true, true, true, true, true, true, true, true, true, true, true, true, true, true, true, true, true, false, false, false, false, false, false, false, false, false] (some 94) HT_ ?_
             refine pur_ 33 #[true, true, true, true, true, true, true, true, true, true, true, true, true, true, true, true, true, true, true, true, true, true, true, true, true, true, true, true, true, true, true, true, true, true, false, false, false, false, false, false, false, false] (some 95) HT_ ?_
             refine pur_ 34 #[true, true, true, true, true, true, true, true, true, true, true, true, true, true, true, true, true, true, true, true, true, true, true, true, true, true, true, true, true, true, true, true, true, true, true, false, false, false, false, false, false, false] (some 96) HT_ ?_
             refine pur_ 35 #[true, true, true, true, true, true, true, true, true, true, true, true, true, true, true, true, true, true, true, true, true, true, true, true, true, true, true, true, true, true, true, true, true, true, true, true, false, false, false, false, false, false] (some 97) HT_ ?_
             refine pur_ 36 #[true, true, true, true, true, true, true, true, true, true, true, true, true, true, true, true, true, true, true, true, true, true, true, true, true, true, true, true, true, true, true, true, true, true, true, true, true, false, false, false, false, false] (some 98) HT_ ?_
             refine pur_ 37 #[true, true, true, true, true, true, true, true, true, true, true, true, true, true, true, true, true, true, true, true, true, true, true, true, true, true, true, true, true, true, true, true, true, true, true, true, true, true, false, false, false, false] (some 99) HT_ ?_
             refine tak_ 38 #[true, true, true, true, true, true, true, true, true, true, true, true, true, true, true, true, true, true, true, true, true, true, true, true, true, true, true, true, true, true, true, true, true, true, true, true, true, true, true, false, false, false] (some 100) HT_ HW_ hHeld ?_
             refine onc_ 39 #[true, true, true, true, true, true, true, true, true, true, true, true, true, true, true, true, true, true, true, true, true, true, true, true, true, true, true, true, true, true, true, true, true, true, true, true, true, true, true, true, false, false] (some 101) HT_ Try.func62 (impl_IsSpan.calls ((rd_T78 t320 x7_2).f0) ((rd_T78 t320 x7_2).f1) t337 _ A49.out) ?_
             rintro e w55 ⟨rfl, hb⟩
             have HS0_ := (hb.cell (World.block_lt_of_cell? _ _ (hHeld.1))).trans (hHeld.1)
             have HS1_ := (hb.cell (World.block_lt_of_cell? _ _ (hHeld.2.1))).trans (hHeld.2.1)
             have HS2_ := (hb.cell (World.block_lt_of_cell? _ _ (hHeld.2.2.1))).trans (hHeld.2.2.1)
             have HS3_ := (hb.cell (World.block_lt_of_cell? _ _ (hHeld.2.2.2.1))).trans (hHeld.2.2.2.1)
             have HS4_ := (hb.cell (World.block_lt_of_cell? _ _ (hHeld.2.2.2.2.1))).trans (hHeld.2.2.2.2.1)
             have HS5_ := (hb.cell (World.block_lt_of_cell? _ _ (hHeld.2.2.2.2.2.1))).trans (hHeld.2.2.2.2.2.1)
             have HS6_ := (hb.cell (World.block_lt_of_cell? _ _ (hHeld.2.2.2.2.2.2.1))).trans (hHeld.2.2.2.2.2.2.1)
             have HS7_ := (hb.cell (World.block_lt_of_cell? _ _ (hHeld.2.2.2.2.2.2.2.1))).trans (hHeld.2.2.2.2.2.2.2.1)
             have HS8_ := (hb.cell (World.block_lt_of_cell? _ _ (hHeld.2.2.2.2.2.2.2.2.1))).trans (hHeld.2.2.2.2.2.2.2.2.1)
             have HS9_ := (hb.cell (World.block_lt_of_cell? _ _ (hHeld.2.2.2.2.2.2.2.2.2))).trans (hHeld.2.2.2.2.2.2.2.2.2)
             refine sh5_ (Kd.R_below (ra_ HO_3) hb) (Kd.R_below (ra_ HO_6) hb) (Kd.R_below (ra_ HO330) hb) (Kd.R_below (ra_ HO334) hb) (below_step (bl_ HB) hb) ?_
             clear HO_3 HO_6 HO330 HO334 HB
             intro HO_3 HO_6 HO330 HO334 HB
             refine ⟨_, _, rfl, ⟨HS0_, HS1_, HS2_, HS3_, HS4_, HS5_, HS6_, HS7_, HS8_, HS9_⟩, pt_, fun hHeld => ?_⟩
             refine pur_ 40 #[true, true, true, true, true, true, true, true, true, true, true, true, true, true, true, true, true, true, true, true, true, true, true, true, true, true, true, true, true, true, true, true, true, true, true, true, true, true, true, true, true, false] (some 102) HT_ ?_
             refine pur_ 41 #[true, true, true, true, true, true, true, true, true, true, true, true, true, true, true, true, true, true, true, true, true, true, true, true, true, true, true, true, true, true, true, true, true, true, true, true, true, true, true, true, true, true] (some 103) HT_ ?_
             refine done_ (done_of HT_.out (by kernel_rfl)) ?_
             try go_wp2
             go_meet
             case rel => exact ⟨_, (!t337), (by first | rfl | (simp; done) | (simp [*]; done)), H', ⟨by have := HJ20.out; have := HK2.out; first | omega | exact Nat.le_refl _⟩, ⟨ra_ HO_3⟩, ⟨ra_ HO_6⟩, ⟨bl_ HB⟩⟩
           ·rw [if_neg c39] at H
            obtain ⟨c39b0, c39b1⟩ := bn_ c39
            have H' := Aside0.mk H
            clear H
            try go_wp2
            refine sh3_ (Kd.R_drew HO_3.out) (Kd.R_drew HO_6.out) (below_drew1 HB.out) ?_
            clear HO_3 HO_6 HB
            intro HO_3 HO_6 HB
            have p325 : 0 ≤ ((ji35) : Int) := od_
            have q325 : (ji35) < (t320.length : Int) := od_
            obtain ⟨ad325, e325, hx325_0, hx325_1⟩ := at_T78 (Kd.R_reads' HO_6.out).2.2 (ji35) p325 q325
            cases e325
            replace p325 := eq_true p325
            replace q325 := eq_true q325
            have p326 : 0 ≤ (x7_2 : Int) := od_
            have q326 : x7_2 < (t320.length : Int) := od_
            obtain ⟨ad326, e326, hx326_0, hx326_1⟩ := at_T78 (Kd.R_reads' HO_6.out).2.2 x7_2 p326 q326
            obtain rfl : ad325 = ad326 := (by injection e326)
            replace p326 := eq_true p326
            replace q326 := eq_true q326
            refine start_ (n := 42) (S := fun w' => w'.cell? (ad325.add (((ji35)).toNat * 2)) = some (.int .i64 ((rd_T78 t320 (ji35)).f0)) ∧ w'.cell? ⟨(ad325.add (((ji35)).toNat * 2)).block, (ad325.add (((ji35)).toNat * 2)).off + 1, none⟩ = some (.int .i64 ((rd_T78 t320 (ji35)).f1)) ∧ w'.cell? (ad325.add ((x7_2).toNat * 2)) = some (.int .i64 ((rd_T78 t320 x7_2).f0)) ∧ w'.cell? ⟨(ad325.add ((x7_2).toNat * 2)).block, (ad325.add ((x7_2).toNat * 2)).off + 1, none⟩ = some (.int .i64 ((rd_T78 t320 x7_2).f1))) (ds := []) #[false, false, false, false, false, false, false, false, false, false, false, false, false, false, false, false, false, false, false, false, false, false, false, false, false, false, false, false, false, false, false, false, false, false, false, false, false, false, false, false, false, false] (by kernel_rfl) rfl rfl ⟨hx325_0, hx325_1, hx326_0, hx326_1⟩ (fun hHeld => ?_); refine with_tabW laws_FnGraphs.tab12 laws_FnGraphs.bits12 (fun HT_ HW_ => ?_)
            generalize wr.drew = w56 at HO_3 HO_6 HB hx325_0 hx325_1 hx326_0 hx326_1 hHeld ⊢
            refine pur_ 0 #[true, false, false, false, false, false, false, false, false, false, false, false, false, false, false, false, false, false, false, false, false, false, false, false, false, false, false, false, false, false, false, false, false, false, false, false, false, false, false, false, false, false] (some 62) HT_ ?_
            refine pur_ 1 #[true, true, false, false, false, false, false, false, false, false, false, false, false, false, false, false, false, false, false, false, false, false, false, false, false, false, false, false, false, false, false, false, false, false, false, false, false, false, false, false, false, false] (some 63) HT_ ?_
            refine pur_ 2 #[true, true, true, false, false, false, false, false, false, false, false, false, false, false, false, false, false, false, false, false, false, false, false, false, false, false, false, false, false, false, false, false, false, false, false, false, false, false, false, false, false, false] (some 64) HT_ ?_
            refine pur_ 3 #[true, true, true, true, false, false, false, false, false, false, false, false, false, false, false, false, false, false, false, false, false, false, false, false, false, false, false, false, false, false, false, false, false, false, false, false, false, false, false, false, false, false] (some 65) HT_ ?_
            refine pur_ 4 #[true, true, true, true, true, false, false, false, false, false, false, false, false, false, false, false, false, false, false, false, false, false, false, false, false, false, false, false, false, false, false, false, false, false, false, false, false, false, false, false, false, false] (some 66) HT_ ?_
            refine pur_ 5 #[true, true, true, true, true, true, false, false, false, false, false, false, false, false, false, false, false, false, false, false, false, false, false, false, false, false, false, false, false, false, false, false, false, false, false, false, false, false, false, false, false, false] (some 67) HT_ ?_
            refine pur_ 6 #[true, true, true, true, true, true, true, false, false, false, false, false, false, false, false, false, false, false, false, false, false, false, false, false, false, false, false, false, false, false, false, false, false, false, false, false, false, false, false, false, false, false] (some 68) HT_ ?_
            refine pur_ 7 #[true, true, true, true, true, true, true, true, false, false, false, false, false, false, false, false, false, false, false, false, false, false, false, false, false, false, false, false, false, false, false, false, false, false, false, false, false, false, false, false, false, false] (some 69) HT_ ?_
            refine pur_ 9 #[true, true, true, true, true, true, true, true, false, true, false, false, false, false, false, false, false, false, false, false, false, false, false, false, false, false, false, false, false, false, false, false, false, false, false, false, false, false, false, false, false, false] (some 71) HT_ ?_
            refine pur_ 10 #[true, true, true, true, true, true, true, true, false, true, true, false, false, false, false, false, false, false, false, false, false, false, false, false, false, false, false, false, false, false, false, false, false, false, false, false, false, false, false, false, false, false] (some 72) HT_ ?_
            refine pur_ 11 #[true, true, true, true, true, true, true, true, false, true, true, true, false, false, false, false, false, false, false, false, false, false, false, false, false, false, false, false, false, false, false, false, false, false, false, false, false, false, false, false, false, false] (some 73) HT_ ?_
            refine pur_ 12 #[true, true, true, true, true, true, true, true, false, true, true, true, true, false, false, false, false, false, false, false, false, false, false, false, false, false, false, false, false, false, false, false, false, false, false, false, false, false, false, false, false, false] (some 74) HT_ ?_
            refine tak_ 8 #[true, true, true, true, true, true, true, true, true, true, true, true, true, false, false, false, false, false, false, false, false, false, false, false, false, false, false, false, false, false, false, false, false, false, false, false, false, false, false, false, false, false] (some 70) HT_ HW_ hHeld ?_
            refine tak_ 13 #[true, true, true, true, true, true, true, true, true, true, true, true, true, true, false, false, false, false, false, false, false, false, false, false, false, false, false, false, false, false, false, false, false, false, false, false, false, false, false, false, false, false] (some 75) HT_ HW_ hHeld ?_
            refine pur_ 14 #[true, true, true, true, true, true, true, true, true, true, true, true, true, true, true, false, false, false, false, false, false, false, false, false, false, false, false, false, false, false, false, false, false, false, false, false, false, false, false, false, false, false] (some 76) HT_ ?_
            refine pur_ 15 #[true, true, true, true, true, true, true, true, true, true, true, true, true, true, true, true, false, false, false, false, false, false, false, false, false, false, false, false, false, false, false, false, false, false, false, false, false, false, false, false, false, false] (some 77) HT_ ?_
            refine pure_ (i := 16) (N := some 78) (v := undef) (a' := ?_) #[true, true, true, true, true, true, true, true, true, true, true, true, true, true, true, true, true, false, false, false, false, false, false, false, false, false, false, false, false, false, false, false, false, false, false, false, false, false, false, false, false, false] rfl rfl (any_of HT_.out (by kernel_rfl)) (fun _ _ _ h => h) (Or.inr ⟨by rfl, rfl⟩) ?_ ?_
            rotate_left
            ·simp only [Act.put, List.setIfInBounds_toArray, List.set_cons_zero, List.set_cons_succ, i64_w, i32_w]
             rfl
            refine pure_ (i := 17) (N := some 79) (v := undef) (a' := ?_) #[true, true, true, true, true, true, true, true, true, true, true, true, true, true, true, true, true, true, false, false, false, false, false, false, false, false, false, false, false, false, false, false, false, false, false, false, false, false, false, false, false, false] rfl rfl (any_of HT_.out (by kernel_rfl)) (fun _ _ _ h => h) (Or.inr ⟨by rfl, rfl⟩) ?_ ?_
            rotate_left
            ·simp only [Act.put, List.setIfInBounds_toArray, List.set_cons_zero, List.set_cons_succ, i64_w, i32_w]
             rfl
            refine pure_ (i := 18) (N := some 80) (v := undef) (a' := ?_) #[true, true, true, true, true, true, true, true, true, true, true, true, true, true, true, true, true, true, true, false, false, false, false, false, false, false, false, false, false, false, false, false, false, false, false, false, false, false, false, false, false, false] rfl rfl (any_of HT_.out (by kernel_rfl)) (fun _ _ _ h => h) (Or.inr ⟨by rfl, rfl⟩) ?_ ?_
            rotate_left
            ·simp only [Act.put, List.setIfInBounds_toArray, List.set_cons_zero, List.set_cons_succ, i64_w, i32_w]
             rfl
            refine pure_ (i := 19) (N := some 81) (v := undef) (a' := ?_) #[true, true, true, true, true, true, true, true, true, true, true, true, true, true, true, true, true, true, true, true, false, false, false, false, false, false, false, false, false, false, false, false, false, false, false, false, false, false, false, false, false, false] rfl rfl (any_of HT_.out (by kernel_rfl)) (fun _ _ _ h => h) (Or.inr ⟨by rfl, rfl⟩) ?_ ?_
            rotate_left
            ·simp only [Act.put, List.setIfInBounds_toArray, List.set_cons_zero, List.set_cons_succ, i64_w, i32_w]
             rfl
            refine pure_ (i := 20) (N := some 82) (v := undef) (a' := ?_) #[true, true, true, true, true, true, true, true, true, true, true, true, true, true, true, true, true, true, true, true, true, false, false, false, false, false, false, false, false, false, false, false, false, false, false, false, false, false, false, false, false, false] rfl rfl (any_of HT_.out (by kernel_rfl)) (fun _ _ _ h => h) (Or.inr ⟨by rfl, rfl⟩) ?_ ?_
            rotate_left
            ·simp only [Act.put, List.setIfInBounds_toArray, List.set_cons_zero, List.set_cons_succ, i64_w, i32_w]
             rfl
            refine pure_ (i := 21) (N := some 83) (v := undef) (a' := ?_) #[true, true, true, true, true, true, true, true, true, true, true, true, true, true, true, true, true, true, true, true, true, true, false, false, false, false, false, false, false, false, false, false, false, false, false, false, false, false, false, false, false, false] rfl rfl (any_of HT_.out (by kernel_rfl)) (fun _ _ _ h => h) (Or.inr ⟨by rfl, rfl⟩) ?_ ?_
            rotate_left
            ·simp only [Act.put, List.setIfInBounds_toArray, List.set_cons_zero, List.set_cons_succ, i64_w, i32_w]
             rfl
            refine pure_ (i := 22) (N := some 84) (v := undef) (a' := ?_) #[true, true, true, true, true, true, true, true, true, true, true, true, true, true, true, true, true, true, true, true, true, true, true, false, false, false, false, false, false, false, false, false, false, false, false, false, false, false, false, false, false, false] rfl rfl (any_of HT_.out (by kernel_rfl)) (fun _ _ _ h => h) (Or.inr ⟨by rfl, rfl⟩) ?_ ?_
            rotate_left
            ·simp only [Act.put, List.setIfInBounds_toArray, List.set_cons_zero, List.set_cons_succ, i64_w, i32_w]
             rfl
            refine pure_ (i := 23) (N := some 85) (v := undef) (a' := ?_) #[true, true, true, true, true, true, true, true, true, true, true, true, true, true, true, true, true, true, true, true, true, true, true, true, false, false, false, false, false, false, false, false, false, false, false, false, false, false, false, false, false, false] rfl rfl (any_of HT_.out (by kernel_rfl)) (fun _ _ _ h => h) (Or.inr ⟨by rfl, rfl⟩) ?_ ?_
            rotate_left
            ·simp only [Act.put, List.setIfInBounds_toArray, List.set_cons_zero, List.set_cons_succ, i64_w, i32_w]
             rfl
            refine pure_ (i := 24) (N := some 86) (v := undef) (a' := ?_) #[true, true, true, true, true, true, true, true, true, true, true, true, true, true, true, true, true, true, true, true, true, true, true, true, true, false, false, false, false, false, false, false, false, false, false, false, false, false, false, false, false, false] rfl rfl (any_of HT_.out (by kernel_rfl)) (fun _ _ _ h => h) (Or.inr ⟨by rfl, rfl⟩) ?_ ?_
            rotate_left
            ·simp only [Act.put, List.setIfInBounds_toArray, List.set_cons_zero, List.set_cons_succ, i64_w, i32_w]
             rfl
            refine pure_ (i := 25) (N := some 87) (v := undef) (a' := ?_) #[true, true, true, true, true, true, true, true, true, true, true, true, true, true, true, true, true, true, true, true, true, true, true, true, true, true, false, false, false, false, false, false, false, false, false, false, false, false, false, false, false, false] rfl rfl (any_of HT_.out (by kernel_rfl)) (fun _ _ _ h => h) (Or.inr ⟨by rfl, rfl⟩) ?_ ?_
            rotate_left
            ·simp only [Act.put, List.setIfInBounds_toArray, List.set_cons_zero, List.set_cons_succ, i64_w, i32_w]
             rfl
            refine pure_ (i := 26) (N := some 88) (v := undef) (a' := ?_) #[true, true, true, true, true, true, true, true, true, true, true, true, true, true, true, true, true, true, true, true, true, true, true, true, true, true, true, false, false, false, false, false, false, false, false, false, false, false, false, false, false, false] rfl rfl (any_of HT_.out (by kernel_rfl)) (fun _ _ _ h => h) (Or.inr ⟨by rfl, rfl⟩) ?_ ?_
            rotate_left
            ·simp only [Act.put, List.setIfInBounds_toArray, List.set_cons_zero, List.set_cons_succ, i64_w, i32_w]
             rfl
            refine pure_ (i := 27) (N := some 89) (v := undef) (a' := ?_) #[true, true, true, true, true, true, true, true, true, true, true, true, true, true, true, true, true, true, true, true, true, true, true, true, true, true, true, true, false, false, false, false, false, false, false, false, false, false, false, false, false, false] rfl rfl (any_of HT_.out (by kernel_rfl)) (fun _ _ _ h => h) (Or.inr ⟨by rfl, rfl⟩) ?_ ?_
            rotate_left
            ·simp only [Act.put, List.setIfInBounds_toArray, List.set_cons_zero, List.set_cons_succ, i64_w, i32_w]
             rfl
            refine pure_ (i := 28) (N := some 90) (v := undef) (a' := ?_) #[true, true, true, true, true, true, true, true, true, true, true, true, true, true, true, true, true, true, true, true, true, true, true, true, true, true, true, true, true, false, false, false, false, false, false, false, false, false, false, false, false, false] rfl rfl (any_of HT_.out (by kernel_rfl)) (fun _ _ _ h => h) (Or.inr ⟨by rfl, rfl⟩) ?_ ?_
            rotate_left
            ·simp only [Act.put, List.setIfInBounds_toArray, List.set_cons_zero, List.set_cons_succ, i64_w, i32_w]
             rfl
            refine pure_ (i := 29) (N := some 91) (v := undef) (a' := ?_) #[true, true, true, true, true, true, true, true, true, true, true, true, true, true, true, true, true, true, true, true, true, true, true, true, true, true, true, true, true, true, false, false, false, false, false, false, false, false, false, false, false, false] rfl rfl (any_of HT_.out (by kernel_rfl)) (fun _ _ _ h => h) (Or.inr ⟨by rfl, rfl⟩) ?_ ?_
            rotate_left
            ·simp only [Act.put, List.setIfInBounds_toArray, List.set_cons_zero, List.set_cons_succ, i64_w, i32_w]
             rfl
            refine pure_ (i := 30) (N := some 92) (v := undef) (a' := ?_) #[true, true, true, true, true, true, true, true, true, true, true, true, true, true, true, true, true, true, true, true, true, true, true, true, true, true, true, true, true, true, true, false, false, false, false, false, false, false, false, false, false, false] rfl rfl (any_of HT_.out (by kernel_rfl)) (fun _ _ _ h => h) (Or.inr ⟨by rfl, rfl⟩) ?_ ?_
            rotate_left
            ·simp only [Act.put, List.setIfInBounds_toArray, List.set_cons_zero, List.set_cons_succ, i64_w, i32_w]
             rfl
            refine pure_ (i := 31) (N := some 93) (v := undef) (a' := ?_) #[true, true, true, true, true, true, true, true, true, true, true, true, true, true, true, true, true, true, true, true, true, true, true, true, true, true, true, true, true, true, true, true, false, false, false, false, false, false, false, false, false, false] rfl rfl (any_of HT_.out (by kernel_rfl)) (fun _ _ _ h => h) (Or.inr ⟨by rfl, rfl⟩) ?_ ?_
            rotate_left
            ·simp only [Act.put, List.setIfInBounds_toArray, List.set_cons_zero, List.set_cons_succ, i64_w, i32_w]
             rfl
            refine pur_ 32 #[true, true, true, true, true, true, true, true, true, true, true, true, true, true, true, true, true, true, true, true, true, true, true, true, true, true, true, true, true, true, true, true, true, false, false, false, false, false, false, false, false, false] (some 94) HT_ ?_
            refine pur_ 33 #[true, true, true, true, true, true, true, true, true, true, true, true, true, true, true, true, true, true, true, true, true, true, true, true, true, true, true, true, true, true, true, true, true, true, false, false, false, false, false, false, false, false] (some 95) HT_ ?_
            refine pur_ 34 #[true, true, true, true, true, true, true, true, true, true, true, true, true, true, true, true, true, true, true, true, true, true, true, true, true, true, true, true, true, true, true, true, true, true, true, false, false, false, false, false, false, false] (some 96) HT_ ?_
            refine pure_ (i := 35) (N := some 97) (v := undef) (a' := ?_) #[true, true, true, true, true, true, true, true, true, true, true, true, true, true, true, true, true, true, true, true, true, true, true, true, true, true, true, true, true, true, true, true, true, true, true, true, false, false, false, false, false, false] rfl rfl (any_of HT_.out (by kernel_rfl)) (fun _ _ _ h => h) (Or.inr ⟨by rfl, rfl⟩) ?_ ?_
            rotate_left
            ·simp only [Act.put, List.setIfInBounds_toArray, List.set_cons_zero, List.set_cons_succ, i64_w, i32_w]
             rfl
            refine pure_ (i := 36) (N := some 98) (v := undef) (a' := ?_) #[true, true, true, true, true, true, true, true, true, true, true, true, true, true, true, true, true, true, true, true, true, true, true, true, true, true, true, true, true, true, true, true, true, true, true, true, true, false, false, false, false, false] rfl rfl (any_of HT_.out (by kernel_rfl)) (fun _ _ _ h => h) (Or.inr ⟨by rfl, rfl⟩) ?_ ?_
            rotate_left
            ·simp only [Act.put, List.setIfInBounds_toArray, List.set_cons_zero, List.set_cons_succ, i64_w, i32_w]
             rfl
            refine pure_ (i := 37) (N := some 99) (v := undef) (a' := ?_) #[true, true, true, true, true, true, true, true, true, true, true, true, true, true, true, true, true, true, true, true, true, true, true, true, true, true, true, true, true, true, true, true, true, true, true, true, true, true, false, false, false, false] rfl rfl (any_of HT_.out (by kernel_rfl)) (fun _ _ _ h => h) (Or.inr ⟨by rfl, rfl⟩) ?_ ?_
            rotate_left
            ·simp only [Act.put, List.setIfInBounds_toArray, List.set_cons_zero, List.set_cons_succ, i64_w, i32_w]
             rfl
            refine pure_ (i := 38) (N := some 100) (v := undef) (a' := ?_) #[true, true, true, true, true, true, true, true, true, true, true, true, true, true, true, true, true, true, true, true, true, true, true, true, true, true, true, true, true, true, true, true, true, true, true, true, true, true, true, false, false, false] rfl rfl (any_of HT_.out (by kernel_rfl)) (fun _ _ _ h => h) (Or.inr ⟨by rfl, rfl⟩) ?_ ?_
            rotate_left
            ·simp only [Act.put, List.setIfInBounds_toArray, List.set_cons_zero, List.set_cons_succ, i64_w, i32_w]
             rfl
            refine pure_ (i := 39) (N := some 101) (v := undef) (a' := ?_) #[true, true, true, true, true, true, true, true, true, true, true, true, true, true, true, true, true, true, true, true, true, true, true, true, true, true, true, true, true, true, true, true, true, true, true, true, true, true, true, true, false, false] rfl rfl (any_of HT_.out (by kernel_rfl)) (fun _ _ _ h => h) (Or.inr ⟨by rfl, rfl⟩) ?_ ?_
            rotate_left
            ·simp only [Act.put, List.setIfInBounds_toArray, List.set_cons_zero, List.set_cons_succ, i64_w, i32_w]
             rfl
            refine pure_ (i := 40) (N := some 102) (v := undef) (a' := ?_) #[true, true, true, true, true, true, true, true, true, true, true, true, true, true, true, true, true, true, true, true, true, true, true, true, true, true, true, true, true, true, true, true, true, true, true, true, true, true, true, true, true, false] rfl rfl (any_of HT_.out (by kernel_rfl)) (fun _ _ _ h => h) (Or.inr ⟨by rfl, rfl⟩) ?_ ?_
            rotate_left
            ·simp only [Act.put, List.setIfInBounds_toArray, List.set_cons_zero, List.set_cons_succ, i64_w, i32_w]
             rfl
            refine pur_ 41 #[true, true, true, true, true, true, true, true, true, true, true, true, true, true, true, true, true, true, true, true, true, true, true, true, true, true, true, true, true, true, true, true, true, true, true, true, true, true, true, true, true, true] (some 103) HT_ ?_
            refine done_ (done_of HT_.out (by kernel_rfl)) ?_
            try go_wp2
            go_meet
            case rel => exact ⟨_, (true), (by first | rfl | (simp; done) | (simp [*]; done)), H', ⟨by have := HJ20.out; have := HK2.out; first | omega | exact Nat.le_refl _⟩, ⟨ra_ HO_3⟩, ⟨ra_ HO_6⟩, ⟨bl_ HB⟩⟩
          ·rw [if_neg c34] at H
           have c34b0 : decide (0 < x7_2) = false := decide_eq_false c34
           clear c34
           (first | rw [c34b0] | (simp only [i64_w, i32_w]; rw [c34b0]) | skip)
           replace H := ifn_ H
           obtain ⟨c57, H⟩ := H
           have c57b0 := decide_eq_true c57
           clear c57
           replace H := bs_ H
           obtain ⟨t339, A58, H⟩ := H
           have H' := Aside0.mk H
           clear H
           try go_wp2
           refine sh3_ (Kd.R_drew HO_3.out) (Kd.R_drew HO_6.out) (below_drew1 HB.out) ?_
           clear HO_3 HO_6 HB
           intro HO_3 HO_6 HB
           have p338 : 0 ≤ (x7_2 : Int) := od_
           have q338 : x7_2 < (t320.length : Int) := od_
           obtain ⟨ad338, e338, hx338_0, hx338_1⟩ := at_T78 (Kd.R_reads' HO_6.out).2.2 x7_2 p338 q338
           cases e338
           replace p338 := eq_true p338
           replace q338 := eq_true q338
           refine start_ (n := 42) (S := fun w' => w'.cell? (ad338.add ((x7_2).toNat * 2)) = some (.int .i64 ((rd_T78 t320 x7_2).f0)) ∧ w'.cell? ⟨(ad338.add ((x7_2).toNat * 2)).block, (ad338.add ((x7_2).toNat * 2)).off + 1, none⟩ = some (.int .i64 ((rd_T78 t320 x7_2).f1))) (ds := []) #[false, false, false, false, false, false, false, false, false, false, false, false, false, false, false, false, false, false, false, false, false, false, false, false, false, false, false, false, false, false, false, false, false, false, false, false, false, false, false, false, false, false] (by kernel_rfl) rfl rfl ⟨hx338_0, hx338_1⟩ (fun hHeld => ?_); refine with_tabW laws_FnGraphs.tab12 laws_FnGraphs.bits12 (fun HT_ HW_ => ?_)
           generalize wr.drew = w59 at HO_3 HO_6 HB hx338_0 hx338_1 hHeld ⊢
           refine pur_ 0 #[true, false, false, false, false, false, false, false, false, false, false, false, false, false, false, false, false, false, false, false, false, false, false, false, false, false, false, false, false, false, false, false, false, false, false, false, false, false, false, false, false, false] (some 62) HT_ ?_
           refine pur_ 1 #[true, true, false, false, false, false, false, false, false, false, false, false, false, false, false, false, false, false, false, false, false, false, false, false, false, false, false, false, false, false, false, false, false, false, false, false, false, false, false, false, false, false] (some 63) HT_ ?_
           refine pur_ 2 #[true, true, true, false, false, false, false, false, false, false, false, false, false, false, false, false, false, false, false, false, false, false, false, false, false, false, false, false, false, false, false, false, false, false, false, false, false, false, false, false, false, false] (some 64) HT_ ?_
           refine pure_ (i := 3) (N := some 65) (v := undef) (a' := ?_) #[true, true, true, true, false, false, false, false, false, false, false, false, false, false, false, false, false, false, false, false, false, false, false, false, false, false, false, false, false, false, false, false, false, false, false, false, false, false, false, false, false, false] rfl rfl (any_of HT_.out (by kernel_rfl)) (fun _ _ _ h => h) (Or.inr ⟨by rfl, rfl⟩) ?_ ?_
           rotate_left
           ·simp only [Act.put, List.setIfInBounds_toArray, List.set_cons_zero, List.set_cons_succ, i64_w, i32_w]
            rfl
           refine pure_ (i := 4) (N := some 66) (v := undef) (a' := ?_) #[true, true, true, true, true, false, false, false, false, false, false, false, false, false, false, false, false, false, false, false, false, false, false, false, false, false, false, false, false, false, false, false, false, false, false, false, false, false, false, false, false, false] rfl rfl (any_of HT_.out (by kernel_rfl)) (fun _ _ _ h => h) (Or.inr ⟨by rfl, rfl⟩) ?_ ?_
           rotate_left
           ·simp only [Act.put, List.setIfInBounds_toArray, List.set_cons_zero, List.set_cons_succ, i64_w, i32_w]
            rfl
           refine pure_ (i := 5) (N := some 67) (v := undef) (a' := ?_) #[true, true, true, true, true, true, false, false, false, false, false, false, false, false, false, false, false, false, false, false, false, false, false, false, false, false, false, false, false, false, false, false, false, false, false, false, false, false, false, false, false, false] rfl rfl (any_of HT_.out (by kernel_rfl)) (fun _ _ _ h => h) (Or.inr ⟨by rfl, rfl⟩) ?_ ?_
           rotate_left
           ·simp only [Act.put, List.setIfInBounds_toArray, List.set_cons_zero, List.set_cons_succ, i64_w, i32_w]
            rfl
           refine pure_ (i := 6) (N := some 68) (v := undef) (a' := ?_) #[true, true, true, true, true, true, true, false, false, false, false, false, false, false, false, false, false, false, false, false, false, false, false, false, false, false, false, false, false, false, false, false, false, false, false, false, false, false, false, false, false, false] rfl rfl (any_of HT_.out (by kernel_rfl)) (fun _ _ _ h => h) (Or.inr ⟨by rfl, rfl⟩) ?_ ?_
           rotate_left
           ·simp only [Act.put, List.setIfInBounds_toArray, List.set_cons_zero, List.set_cons_succ, i64_w, i32_w]
            rfl
           refine pure_ (i := 7) (N := some 69) (v := undef) (a' := ?_) #[true, true, true, true, true, true, true, true, false, false, false, false, false, false, false, false, false, false, false, false, false, false, false, false, false, false, false, false, false, false, false, false, false, false, false, false, false, false, false, false, false, false] rfl rfl (any_of HT_.out (by kernel_rfl)) (fun _ _ _ h => h) (Or.inr ⟨by rfl, rfl⟩) ?_ ?_
           rotate_left
           ·simp only [Act.put, List.setIfInBounds_toArray, List.set_cons_zero, List.set_cons_succ, i64_w, i32_w]
            rfl
           refine pure_ (i := 8) (N := some 70) (v := undef) (a' := ?_) #[true, true, true, true, true, true, true, true, true, false, false, false, false, false, false, false, false, false, false, false, false, false, false, false, false, false, false, false, false, false, false, false, false, false, false, false, false, false, false, false, false, false] rfl rfl (any_of HT_.out (by kernel_rfl)) (fun _ _ _ h => h) (Or.inr ⟨by rfl, rfl⟩) ?_ ?_
           rotate_left
           ·simp only [Act.put, List.setIfInBounds_toArray, List.set_cons_zero, List.set_cons_succ, i64_w, i32_w]
            rfl
           refine pure_ (i := 9) (N := some 71) (v := undef) (a' := ?_) #[true, true, true, true, true, true, true, true, true, true, false, false, false, false, false, false, false, false, false, false, false, false, false, false, false, false, false, false, false, false, false, false, false, false, false, false, false, false, false, false, false, false] rfl rfl (any_of HT_.out (by kernel_rfl)) (fun _ _ _ h => h) (Or.inr ⟨by rfl, rfl⟩) ?_ ?_
           rotate_left
           ·simp only [Act.put, List.setIfInBounds_toArray, List.set_cons_zero, List.set_cons_succ, i64_w, i32_w]
            rfl
           refine pure_ (i := 10) (N := some 72) (v := undef) (a' := ?_) #[true, true, true, true, true, true, true, true, true, true, true, false, false, false, false, false, false, false, false, false, false, false, false, false, false, false, false, false, false, false, false, false, false, false, false, false, false, false, false, false, false, false] rfl rfl (any_of HT_.out (by kernel_rfl)) (fun _ _ _ h => h) (Or.inr ⟨by rfl, rfl⟩) ?_ ?_
           rotate_left
           ·simp only [Act.put, List.setIfInBounds_toArray, List.set_cons_zero, List.set_cons_succ, i64_w, i32_w]
            rfl
           refine pure_ (i := 11) (N := some 73) (v := undef) (a' := ?_) #[true, true, true, true, true, true, true, true, true, true, true, true, false, false, false, false, false, false, false, false, false, false, false, false, false, false, false, false, false, false, false, false, false, false, false, false, false, false, false, false, false, false] rfl rfl (any_of HT_.out (by kernel_rfl)) (fun _ _ _ h => h) (Or.inr ⟨by rfl, rfl⟩) ?_ ?_
           rotate_left
           ·simp only [Act.put, List.setIfInBounds_toArray, List.set_cons_zero, List.set_cons_succ, i64_w, i32_w]
            rfl
           refine pure_ (i := 12) (N := some 74) (v := undef) (a' := ?_) #[true, true, true, true, true, true, true, true, true, true, true, true, true, false, false, false, false, false, false, false, false, false, false, false, false, false, false, false, false, false, false, false, false, false, false, false, false, false, false, false, false, false] rfl rfl (any_of HT_.out (by kernel_rfl)) (fun _ _ _ h => h) (Or.inr ⟨by rfl, rfl⟩) ?_ ?_
           rotate_left
           ·simp only [Act.put, List.setIfInBounds_toArray, List.set_cons_zero, List.set_cons_succ, i64_w, i32_w]
            rfl
           refine pure_ (i := 13) (N := some 75) (v := undef) (a' := ?_) #[true, true, true, true, true, true, true, true, true, true, true, true, true, true, false, false, false, false, false, false, false, false, false, false, false, false, false, false, false, false, false, false, false, false, false, false, false, false, false, false, false, false] rfl rfl (any_of HT_.out (by kernel_rfl)) (fun _ _ _ h => h) (Or.inr ⟨by rfl, rfl⟩) ?_ ?_
           rotate_left
           ·simp only [Act.put, List.setIfInBounds_toArray, List.set_cons_zero, List.set_cons_succ, i64_w, i32_w]
            rfl
           refine pure_ (i := 14) (N := some 76) (v := undef) (a' := ?_) #[true, true, true, true, true, true, true, true, true, true, true, true, true, true, true, false, false, false, false, false, false, false, false, false, false, false, false, false, false, false, false, false, false, false, false, false, false, false, false, false, false, false] rfl rfl (any_of HT_.out (by kernel_rfl)) (fun _ _ _ h => h) (Or.inr ⟨by rfl, rfl⟩) ?_ ?_
           rotate_left
           ·simp only [Act.put, List.setIfInBounds_toArray, List.set_cons_zero, List.set_cons_succ, i64_w, i32_w]
            rfl
           refine pure_ (i := 15) (N := some 77) (v := undef) (a' := ?_) #[true, true, true, true, true, true, true, true, true, true, true, true, true, true, true, true, false, false, false, false, false, false, false, false, false, false, false, false, false, false, false, false, false, false, false, false, false, false, false, false, false, false] rfl rfl (any_of HT_.out (by kernel_rfl)) (fun _ _ _ h => h) (Or.inr ⟨by rfl, rfl⟩) ?_ ?_
           rotate_left
           ·simp only [Act.put, List.setIfInBounds_toArray, List.set_cons_zero, List.set_cons_succ, i64_w, i32_w]
            rfl
           refine pure_ (i := 16) (N := some 78) (v := undef) (a' := ?_) #[true, true, true, true, true, true, true, true, true, true, true, true, true, true, true, true, true, false, false, false, false, false, false, false, false, false, false, false, false, false, false, false, false, false, false, false, false, false, false, false, false, false] rfl rfl (any_of HT_.out (by kernel_rfl)) (fun _ _ _ h => h) (Or.inr ⟨by rfl, rfl⟩) ?_ ?_
           rotate_left
           ·simp only [Act.put, List.setIfInBounds_toArray, List.set_cons_zero, List.set_cons_succ, i64_w, i32_w]
            rfl
           refine pure_ (i := 17) (N := some 79) (v := undef) (a' := ?_) #[true, true, true, true, true, true, true, true, true, true, true, true, true, true, true, true, true, true, false, false, false, false, false, false, false, false, false, false, false, false, false, false, false, false, false, false, false, false, false, false, false, false] rfl rfl (any_of HT_.out (by kernel_rfl)) (fun _ _ _ h => h) (Or.inr ⟨by rfl, rfl⟩) ?_ ?_
           rotate_left
           ·simp only [Act.put, List.setIfInBounds_toArray, List.set_cons_zero, List.set_cons_succ, i64_w, i32_w]
            rfl
           refine pure_ (i := 18) (N := some 80) (v := undef) (a' := ?_) #[true, true, true, true, true, true, true, true, true, true, true, true, true, true, true, true, true, true, true, false, false, false, false, false, false, false, false, false, false, false, false, false, false, false, false, false, false, false, false, false, false, false] rfl rfl (any_of HT_.out (by kernel_rfl)) (fun _ _ _ h => h) (Or.inr ⟨by rfl, rfl⟩) ?_ ?_
           rotate_left
           ·simp only [Act.put, List.setIfInBounds_toArray, List.set_cons_zero, List.set_cons_succ, i64_w, i32_w]
            rfl
           refine pure_ (i := 19) (N := some 81) (v := undef) (a' := ?_) #[true, true, true, true, true, true, true, true, true, true, true, true, true, true, true, true, true, true, true, true, false, false, false, false, false, false, false, false, false, false, false, false, false, false, false, false, false, false, false, false, false, false] rfl rfl (any_of HT_.out (by kernel_rfl)) (fun _ _ _ h => h) (Or.inr ⟨by rfl, rfl⟩) ?_ ?_
           rotate_left
           ·simp only [Act.put, List.setIfInBounds_toArray, List.set_cons_zero, List.set_cons_succ, i64_w, i32_w]
            rfl
           refine pure_ (i := 20) (N := some 82) (v := undef) (a' := ?_) #[true, true, true, true, true, true, true, true, true, true, true, true, true, true, true, true, true, true, true, true, true, false, false, false, false, false, false, false, false, false, false, false, false, false, false, false, false, false, false, false, false, false] rfl rfl (any_of HT_.out (by kernel_rfl)) (fun _ _ _ h => h) (Or.inr ⟨by rfl, rfl⟩) ?_ ?_
           rotate_left
           ·simp only [Act.put, List.setIfInBounds_toArray, List.set_cons_zero, List.set_cons_succ, i64_w, i32_w]
            rfl
           refine pure_ (i := 21) (N := some 83) (v := undef) (a' := ?_) #[true, true, true, true, true, true, true, true, true, true, true, true, true, true, true, true, true, true, true, true, true, true, false, false, false, false, false, false, false, false, false, false, false, false, false, false, false, false, false, false, false, false] rfl rfl (any_of HT_.out (by kernel_rfl)) (fun _ _ _ h => h) (Or.inr ⟨by rfl, rfl⟩) ?_ ?_
           rotate_left
           ·simp only [Act.put, List.setIfInBounds_toArray, List.set_cons_zero, List.set_cons_succ, i64_w, i32_w]
            rfl
           refine pure_ (i := 22) (N := some 84) (v := undef) (a' := ?_) #[true, true, true, true, true, true, true, true, true, true, true, true, true, true, true, true, true, true, true, true, true, true, true, false, false, false, false, false, false, false, false, false, false, false, false, false, false, false, false, false, false, false] rfl rfl (any_of HT_.out (by kernel_rfl)) (fun _ _ _ h => h) (Or.inr ⟨by rfl, rfl⟩) ?_ ?_
           rotate_left
           ·simp only [Act.put, List.setIfInBounds_toArray, List.set_cons_zero, List.set_cons_succ, i64_w, i32_w]
            rfl
           refine pure_ (i := 23) (N := some 85) (v := undef) (a' := ?_) #[true, true, true, true, true, true, true, true, true, true, true, true, true, true, true, true, true, true, true, true, true, true, true, true, false, false, false, false, false, false, false, false, false, false, false, false, false, false, false, false, false, false] rfl rfl (any_of HT_.out (by kernel_rfl)) (fun _ _ _ h => h) (Or.inr ⟨by rfl, rfl⟩) ?_ ?_
           rotate_left
           ·simp only [Act.put, List.setIfInBounds_toArray, List.set_cons_zero, List.set_cons_succ, i64_w, i32_w]
            rfl
           refine pure_ (i := 24) (N := some 86) (v := undef) (a' := ?_) #[true, true, true, true, true, true, true, true, true, true, true, true, true, true, true, true, true, true, true, true, true, true, true, true, true, false, false, false, false, false, false, false, false, false, false, false, false, false, false, false, false, false] rfl rfl (any_of HT_.out (by kernel_rfl)) (fun _ _ _ h => h) (Or.inr ⟨by rfl, rfl⟩) ?_ ?_
           rotate_left
           ·simp only [Act.put, List.setIfInBounds_toArray, List.set_cons_zero, List.set_cons_succ, i64_w, i32_w]
            rfl
           refine pure_ (i := 25) (N := some 87) (v := undef) (a' := ?_) #[true, true, true, true, true, true, true, true, true, true, true, true, true, true, true, true, true, true, true, true, true, true, true, true, true, true, false, false, false, false, false, false, false, false, false, false, false, false, false, false, false, false] rfl rfl (any_of HT_.out (by kernel_rfl)) (fun _ _ _ h => h) (Or.inr ⟨by rfl, rfl⟩) ?_ ?_
           rotate_left
           ·simp only [Act.put, List.setIfInBounds_toArray, List.set_cons_zero, List.set_cons_succ, i64_w, i32_w]
            rfl
           refine pure_ (i := 26) (N := some 88) (v := undef) (a' := ?_) #[true, true, true, true, true, true, true, true, true, true, true, true, true, true, true, true, true, true, true, true, true, true, true, true, true, true, true, false, false, false, false, false, false, false, false, false, false, false, false, false, false, false] rfl rfl (any_of HT_.out (by kernel_rfl)) (fun _ _ _ h => h) (Or.inr ⟨by rfl, rfl⟩) ?_ ?_
           rotate_left
           ·simp only [Act.put, List.setIfInBounds_toArray, List.set_cons_zero, List.set_cons_succ, i64_w, i32_w]
            rfl
           refine pure_ (i := 27) (N := some 89) (v := undef) (a' := ?_) #[true, true, true, true, true, true, true, true, true, true, true, true, true, true, true, true, true, true, true, true, true, true, true, true, true, true, true, true, false, false, false, false, false, false, false, false, false, false, false, false, false, false] rfl rfl (any_of HT_.out (by kernel_rfl)) (fun _ _ _ h => h) (Or.inr ⟨by rfl, rfl⟩) ?_ ?_
           rotate_left
           ·simp only [Act.put, List.setIfInBounds_toArray, List.set_cons_zero, List.set_cons_succ, i64_w, i32_w]
            rfl
           refine pure_ (i := 28) (N := some 90) (v := undef) (a' := ?_) #[true, true, true, true, true, true, true, true, true, true, true, true, true, true, true, true, true, true, true, true, true, true, true, true, true, true, true, true, true, false, false, false, false, false, false, false, false, false, false, false, false, false] rfl rfl (any_of HT_.out (by kernel_rfl)) (fun _ _ _ h => h) (Or.inr ⟨by rfl, rfl⟩) ?_ ?_
           rotate_left
           ·simp only [Act.put, List.setIfInBounds_toArray, List.set_cons_zero, List.set_cons_succ, i64_w, i32_w]
            rfl
           refine pure_ (i := 29) (N := some 91) (v := undef) (a' := ?_) #[true, true, true, true, true, true, true, true, true, true, true, true, true, true, true, true, true, true, true, true, true, true, true, true, true, true, true, true, true, true, false, false, false, false, false, false, false, false, false, false, false, false] rfl rfl (any_of HT_.out (by kernel_rfl)) (fun _ _ _ h => h) (Or.inr ⟨by rfl, rfl⟩) ?_ ?_
           rotate_left
           ·simp only [Act.put, List.setIfInBounds_toArray, List.set_cons_zero, List.set_cons_succ, i64_w, i32_w]
            rfl
           refine pure_ (i := 30) (N := some 92) (v := undef) (a' := ?_) #[true, true, true, true, true, true, true, true, true, true, true, true, true, true, true, true, true, true, true, true, true, true, true, true, true, true, true, true, true, true, true, false, false, false, false, false, false, false, false, false, false, false] rfl rfl (any_of HT_.out (by kernel_rfl)) (fun _ _ _ h => h) (Or.inr ⟨by rfl, rfl⟩) ?_ ?_
           rotate_left
           ·simp only [Act.put, List.setIfInBounds_toArray, List.set_cons_zero, List.set_cons_succ, i64_w, i32_w]
            rfl
           refine pure_ (i := 31) (N := some 93) (v := undef) (a' := ?_) #[true, true, true, true, true, true, true, true, true, true, true, true, true, true, true, true, true, true, true, true, true, true, true, true, true, true, true, true, true, true, true, true, false, false, false, false, false, false, false, false, false, false] rfl rfl (any_of HT_.out (by kernel_rfl)) (fun _ _ _ h => h) (Or.inr ⟨by rfl, rfl⟩) ?_ ?_
           rotate_left
           ·simp only [Act.put, List.setIfInBounds_toArray, List.set_cons_zero, List.set_cons_succ, i64_w, i32_w]
            rfl
           refine pure_ (i := 32) (N := some 94) (v := undef) (a' := ?_) #[true, true, true, true, true, true, true, true, true, true, true, true, true, true, true, true, true, true, true, true, true, true, true, true, true, true, true, true, true, true, true, true, true, false, false, false, false, false, false, false, false, false] rfl rfl (any_of HT_.out (by kernel_rfl)) (fun _ _ _ h => h) (Or.inr ⟨by rfl, rfl⟩) ?_ ?_
           rotate_left
           ·simp only [Act.put, List.setIfInBounds_toArray, List.set_cons_zero, List.set_cons_succ, i64_w, i32_w]
            rfl
           refine pur_ 33 #[true, true, true, true, true, true, true, true, true, true, true, true, true, true, true, true, true, true, true, true, true, true, true, true, true, true, true, true, true, true, true, true, true, true, false, false, false, false, false, false, false, false] (some 95) HT_ ?_
           refine pur_ 34 #[true, true, true, true, true, true, true, true, true, true, true, true, true, true, true, true, true, true, true, true, true, true, true, true, true, true, true, true, true, true, true, true, true, true, true, false, false, false, false, false, false, false] (some 96) HT_ ?_
           refine pur_ 35 #[true, true, true, true, true, true, true, true, true, true, true, true, true, true, true, true, true, true, true, true, true, true, true, true, true, true, true, true, true, true, true, true, true, true, true, true, false, false, false, false, false, false] (some 97) HT_ ?_
           refine pur_ 36 #[true, true, true, true, true, true, true, true, true, true, true, true, true, true, true, true, true, true, true, true, true, true, true, true, true, true, true, true, true, true, true, true, true, true, true, true, true, false, false, false, false, false] (some 98) HT_ ?_
           refine pur_ 37 #[true, true, true, true, true, true, true, true, true, true, true, true, true, true, true, true, true, true, true, true, true, true, true, true, true, true, true, true, true, true, true, true, true, true, true, true, true, true, false, false, false, false] (some 99) HT_ ?_
           refine tak_ 38 #[true, true, true, true, true, true, true, true, true, true, true, true, true, true, true, true, true, true, true, true, true, true, true, true, true, true, true, true, true, true, true, true, true, true, true, true, true, true, true, false, false, false] (some 100) HT_ HW_ hHeld ?_
           refine onc_ 39 #[true, true, true, true, true, true, true, true, true, true, true, true, true, true, true, true, true, true, true, true, true, true, true, true, true, true, true, true, true, true, true, true, true, true, true, true, true, true, true, true, false, false] (some 101) HT_ Try.func62 (impl_IsSpan.calls ((rd_T78 t320 x7_2).f0) ((rd_T78 t320 x7_2).f1) t339 _ A58.out) ?_
           rintro e w60 ⟨rfl, hb⟩
           have HS0_ := (hb.cell (World.block_lt_of_cell? _ _ (hHeld.1))).trans (hHeld.1)
           have HS1_ := (hb.cell (World.block_lt_of_cell? _ _ (hHeld.2))).trans (hHeld.2)
           refine sh3_ (Kd.R_below (ra_ HO_3) hb) (Kd.R_below (ra_ HO_6) hb) (below_step (bl_ HB) hb) ?_
           clear HO_3 HO_6 HB hb
           intro HO_3 HO_6 HB
           refine ⟨_, _, rfl, ⟨HS0_, HS1_⟩, pt_, fun hHeld => ?_⟩
           refine pur_ 40 #[true, true, true, true, true, true, true, true, true, true, true, true, true, true, true, true, true, true, true, true, true, true, true, true, true, true, true, true, true, true, true, true, true, true, true, true, true, true, true, true, true, false] (some 102) HT_ ?_
           refine pur_ 41 #[true, true, true, true, true, true, true, true, true, true, true, true, true, true, true, true, true, true, true, true, true, true, true, true, true, true, true, true, true, true, true, true, true, true, true, true, true, true, true, true, true, true] (some 103) HT_ ?_
           refine done_ (done_of HT_.out (by kernel_rfl)) ?_
           try go_wp2
           go_meet
           case rel => exact ⟨_, (!t339), (by first | rfl | (simp; done) | (simp [*]; done)), H', ⟨by have := HJ20.out; have := HK2.out; first | omega | exact Nat.le_refl _⟩, ⟨ra_ HO_3⟩, ⟨ra_ HO_6⟩, ⟨bl_ HB⟩⟩
         case rest =>
          clear HC33
          try clear p2
          try clear c3
          try clear p3
          try clear q3
          try clear hx3
          try clear c5
          try clear c6
          try clear p32
          try clear q32
          try clear hx32
          try clear p33
          try clear q33
          try clear hx33
          try clear c34
          try clear c34b0
          try clear c36
          try clear c37
          try clear c38
          try clear c39
          try clear c39b0
          try clear c39b1
          try clear c57
          try clear c57b0
          try clear hx325_0
          try clear hx325_1
          try clear hx326_0
          try clear hx326_1
          try clear hx338_0
          try clear hx338_1
          try clear p325
          try clear p326
          try clear p338
          try clear q325
          try clear q326
          try clear q338
          obtain ⟨kq, x103_32, rfl, HA, HJ32, HO_3, HO_6, HB⟩ := hcut
          cases kq with
          | zero => exact absurd HA.out (by simp [laws_FnGraphs.j2])
          | succ kj32 =>
           have H := HA.out
           clear HA
           simp only [laws_FnGraphs.j2] at H
           by_cases c61 : x103_32 = true
           ·subst c61
            try rw [if_pos rfl] at H
            exact absurd H (by simp)
           ·replace c61 := Bool.eq_false_iff.mpr c61
            subst c61
            have H1 : (if 0 ≤ x7_2 then (if x7_2 < (t320.length : Int) then (laws_FnGraphs.l1 kj32 l0 t315 t320 x7_2 ((rd_T78 t320 x7_2).f0)) else (none)) else (none)) = some true := by first | (rw [if_neg (show ¬ (false = true) by decide)] at H; exact H) | rfl
            clear H
            have H := H1
            clear H1
            replace H := ifn_ H
            obtain ⟨c62, H⟩ := H
            have c62b0 := decide_eq_true c62
            clear c62
            replace H := ifn_ H
            obtain ⟨c63, H⟩ := H
            have c63b0 := decide_eq_true c63
            clear c63
            have H' := Aside0.mk H
            clear H
            have p340 : 0 ≤ (x7_2 : Int) := od_
            have q340 : x7_2 < (t320.length : Int) := od_
            obtain ⟨ad340, e340, hx340_0, hx340_1⟩ := at_T78 (Kd.R_reads' HO_6.out).2.2 x7_2 p340 q340
            cases e340
            replace p340 := eq_true p340
            replace q340 := eq_true q340
            go_wp2
            go_loopg [8] kj32 (fun kq v8 w' => ∃ (x8_4 : Int), v8 = .int .i64 x8_4 ∧ Aside0 (laws_FnGraphs.l1 kq l0 t315 t320 x7_2 x8_4 = some true) ∧ Aside0 (kq ≤ kj32) ∧ Aside0 (Kd.R k96 96 w' w.heap.size (fun _ => True) (.slice Ao23 t315.length co23) t315) ∧ Aside0 (Kd.R k78 78 w' w.heap.size (fun _ => True) (.slice (some ad340) t320.length co25) t320) ∧ Aside0 (Below w.heap.size w w'))
            case atStart => exact ⟨((rd_T78 t320 x7_2).f0), (by first | rfl | (simp; done) | (simp [*]; done)), H', ⟨Nat.le_refl _⟩, ⟨ra_ HO_3⟩, ⟨ra_ HO_6⟩, ⟨bl_ HB⟩⟩
            case round =>
             clear H'
             try clear p2
             try clear c3
             try clear p3
             try clear q3
             try clear hx3
             try clear c5
             try clear c6
             try clear p32
             try clear q32
             try clear hx32
             try clear p33
             try clear q33
             try clear hx33
             try clear c34
             try clear c34b0
             try clear p34
             try clear q34
             try clear hx34
             try clear c36
             try clear c37
             try clear c38
             try clear c39
             try clear c39b0
             try clear c39b1
             try clear c57
             try clear c57b0
             try clear c61
             try clear c62
             try clear c62b0
             try clear c63
             try clear c63b0
             try clear hx325_0
             try clear hx325_1
             try clear hx326_0
             try clear hx326_1
             try clear hx338_0
             try clear hx338_1
             try clear hx340_0
             try clear hx340_1
             try clear p2
             try clear p3
             try clear p32
             try clear p325
             try clear p326
             try clear p33
             try clear p338
             try clear p340
             try clear q3
             try clear q32
             try clear q325
             try clear q326
             try clear q33
             try clear q338
             try clear q340
             obtain ⟨x8_4, rfl, HA, HK4, HO_3, HO_6, HB⟩ := hrel
             cases gk with
             | zero => exact absurd HA.out (by simp [laws_FnGraphs.l1])
             | succ k4 =>
              have H := HA.out
              clear HA
              simp only [laws_FnGraphs.l1] at H
              have HC64 := Aside0.mk H
              clear H
              go_upto_region 15 with (fail)
              go_cut [119] (fun v119 wc => ∃ (kq : Nat) (x119_63 : Bool), v119 = .bool x119_63 ∧ Aside0 (laws_FnGraphs.j4 kq l0 t315 t320 x7_2 x8_4 x119_63 = some true) ∧ Aside0 (kq ≤ k4) ∧ Aside0 (Kd.R k96 96 wc w.heap.size (fun _ => True) (.slice Ao23 t315.length co23) t315) ∧ Aside0 (Kd.R k78 78 wc w.heap.size (fun _ => True) (.slice (some ad340) t320.length co25) t320) ∧ Aside0 (Below w.heap.size w wc))
              case first =>
               have H := HC64.out
               clear HC64
               replace H := ifn_ H
               obtain ⟨c65, H⟩ := H
               have c65b0 := decide_eq_true c65
               clear c65
               (first | rw [c65b0] | (simp only [i64_w, i32_w]; rw [c65b0]) | skip)
               replace H := ifn_ H
               obtain ⟨c66, H⟩ := H
               have c66b0 := decide_eq_true c66
               clear c66
               by_cases c67 : x8_4 < ((rd_T78 t320 x7_2).f1)
               ·rw [if_pos c67] at H
                have c67b0 := decide_eq_true c67
                clear c67
                have H' := Aside0.mk H
                clear H
                have p341 : 0 ≤ (x7_2 : Int) := od_
                have q341 : x7_2 < (t320.length : Int) := od_
                obtain ⟨ad341, e341, hx341_0, hx341_1⟩ := at_T78 (Kd.R_reads' HO_6.out).2.2 x7_2 p341 q341
                obtain rfl : ad340 = ad341 := (by injection e341)
                replace p341 := eq_true p341
                replace q341 := eq_true q341
                go_wp2
                go_meet
                case rel => exact ⟨_, (decide (x8_4 ≤ 40)), (by first | rfl | (simp; done) | (simp [*]; done)), H', ⟨by have := HJ20.out; have := HK2.out; have := HJ32.out; have := HK4.out; first | omega | exact Nat.le_refl _⟩, ⟨ra_ HO_3⟩, ⟨ra_ HO_6⟩, ⟨bl_ HB⟩⟩
               ·rw [if_neg c67] at H
                have c67b0 := decide_eq_false c67
                clear c67
                have H' := Aside0.mk H
                clear H
                have p341 : 0 ≤ (x7_2 : Int) := od_
                have q341 : x7_2 < (t320.length : Int) := od_
                obtain ⟨ad341, e341, hx341_0, hx341_1⟩ := at_T78 (Kd.R_reads' HO_6.out).2.2 x7_2 p341 q341
                obtain rfl : ad340 = ad341 := (by injection e341)
                replace p341 := eq_true p341
                replace q341 := eq_true q341
                go_wp2
                go_meet
                case rel => exact ⟨_, (false), (by first | rfl | (simp; done) | (simp [*]; done)), H', ⟨by have := HJ20.out; have := HK2.out; have := HJ32.out; have := HK4.out; first | omega | exact Nat.le_refl _⟩, ⟨ra_ HO_3⟩, ⟨ra_ HO_6⟩, ⟨bl_ HB⟩⟩
              case rest =>
               clear HC64
               try clear p2
               try clear c3
               try clear p3
               try clear q3
               try clear hx3
               try clear c5
               try clear c6
               try clear p32
               try clear q32
               try clear hx32
               try clear p33
               try clear q33
               try clear hx33
               try clear c34
               try clear c34b0
               try clear p34
               try clear q34
               try clear hx34
               try clear c36
               try clear c37
               try clear c38
               try clear c39
               try clear c39b0
               try clear c39b1
               try clear c57
               try clear c57b0
               try clear c61
               try clear c62
               try clear c62b0
               try clear c63
               try clear c63b0
               try clear c65
               try clear c65b0
               try clear c66
               try clear c66b0
               try clear c67
               try clear c67b0
               try clear hx325_0
               try clear hx325_1
               try clear hx326_0
               try clear hx326_1
               try clear hx338_0
               try clear hx338_1
               try clear hx340_0
               try clear hx340_1
               try clear hx341_0
               try clear hx341_1
               try clear p2
               try clear p3
               try clear p32
               try clear p325
               try clear p326
               try clear p33
               try clear p338
               try clear p34
               try clear p340
               try clear p341
               try clear q3
               try clear q32
               try clear q325
               try clear q326
               try clear q33
               try clear q338
               try clear q34
               try clear q340
               try clear q341
               obtain ⟨kq, x119_63, rfl, HA, HJ63, HO_3, HO_6, HB⟩ := hcut
               cases kq with
               | zero => exact absurd HA.out (by simp [laws_FnGraphs.j4])
               | succ kj63 =>
                have H := HA.out
                clear HA
                simp only [laws_FnGraphs.j4] at H
                by_cases c68 : x119_63 = true
                ·subst c68
                 try rw [if_pos rfl] at H
                 replace H := ifn_ H
                 obtain ⟨c69, H⟩ := H
                 have c69b0 := decide_eq_true c69
                 clear c69
                 replace H := ifn_ H
                 obtain ⟨c70, H⟩ := H
                 have c70b0 := decide_eq_true c70
                 clear c70
                 replace H := bs_ H
                 obtain ⟨t343, A71, H⟩ := H
                 replace H := bs_ H
                 obtain ⟨t346, A72, H⟩ := H
                 replace H := bs_ H
                 obtain ⟨t349, A73, H⟩ := H
                 by_cases c74 : t349 = true
                 ·subst c74
                  try rw [if_pos rfl] at H
                  have H' := Aside0.mk H
                  clear H
                  have p342 : 0 ≤ (x7_2 : Int) := od_
                  have q342 : x7_2 < (t320.length : Int) := od_
                  obtain ⟨ad342, e342, hx342_0, hx342_1⟩ := at_T78 (Kd.R_reads' HO_6.out).2.2 x7_2 p342 q342
                  obtain rfl : ad340 = ad342 := (by injection e342)
                  replace p342 := eq_true p342
                  replace q342 := eq_true q342
                  go_wp2_with (first | ((with_reducible refine gate_callee (f := 34) rfl ?_); refine gl_ 128 Try.func34 (impl_LinksAt.calls kj63 _ _ t315 ((rd_T78 t320 x7_2).f0) t343 _ (cr_ HO_3) (rl_ HO_3) A71.out) ?_; rintro e w75 ⟨v344, rfl, ho0, hb⟩; refine ⟨_, rfl, sh4_ (Kd.R_below (ra_ HO_3) hb) (Kd.R_below (ra_ HO_6) hb) (Kd.R_lower ho0 (below_size (bl_ HB))) (below_step (bl_ HB) hb) ?_⟩; clear HO_3 HO_6 HB hb ho0; intro HO_3 HO_6 HO345 HB) | ((with_reducible refine gate_callee (f := 34) rfl ?_); refine gl_ 131 Try.func34 (impl_LinksAt.calls kj63 _ _ t315 x8_4 t346 _ (cr_ HO_3) (rl_ HO_3) A72.out) ?_; rintro e w76 ⟨v347, rfl, ho0, hb⟩; refine ⟨_, rfl, sh5_ (Kd.R_below (ra_ HO_3) hb) (Kd.R_below (ra_ HO_6) hb) (Kd.R_elder' (ra_ HO345) (Kd.R_base ho0) hb) (Kd.R_lower (Kd.R_new' ho0 (Kd.R_lt (ra_ HO345))) (below_size (bl_ HB))) (below_step (bl_ HB) hb) ?_⟩; clear HO_3 HO_6 HO345 HB hb ho0; intro HO_3 HO_6 HO345 HO348 HB; obtain ⟨Ao77, co77, eo77⟩ := Kd.R_slice HO345.out; subst eo77; obtain ⟨Ao78, co78, eo78⟩ := Kd.R_slice HO348.out; subst eo78) | ((with_reducible refine gate_callee (f := 61) rfl ?_); refine gl_ 132 Try.func61 (impl_SameLinks.calls kj63 _ _ t343 _ _ t346 true _ (cr_ HO345) (rl_ HO345) (cr_ HO348) (rl_ HO348) A73.out) ?_; rintro e w' ⟨rfl, ⟨nd, rfl⟩⟩; refine ⟨_, rfl, ?_⟩))
                  go_roundg kj63
                  case measure => have := HJ20.out; have := HK2.out; have := HJ32.out; have := HK4.out; have := HJ63.out; omega
                  case rel => exact ⟨(wrap64 (x8_4 + 1)), (by first | rfl | (simp; done) | (simp [*]; done)), H', ⟨by have := HJ20.out; have := HK2.out; have := HJ32.out; have := HK4.out; have := HJ63.out; omega⟩, ⟨ra_ HO_3⟩, ⟨ra_ HO_6⟩, ⟨bl_ HB⟩⟩
                 ·replace c74 := Bool.eq_false_iff.mpr c74
                  subst c74
                  have H1 : (some false) = some true := by first | (rw [if_neg (show ¬ (false = true) by decide)] at H; exact H) | rfl
                  clear H
                  have H := H1
                  clear H1
                  exact absurd H (by simp)
                ·replace c68 := Bool.eq_false_iff.mpr c68
                 subst c68
                 have H1 : (laws_FnGraphs.l0 kj63 l0 t315 t320 (wrap64 (x7_2 + 1))) = some true := by first | (rw [if_neg (show ¬ (false = true) by decide)] at H; exact H) | rfl
                 clear H
                 have H := H1
                 clear H1
                 have H' := Aside0.mk H
                 clear H
                 go_wp2
                 go_roundg kj63
                 case measure => have := HJ20.out; have := HK2.out; have := HJ32.out; have := HK4.out; have := HJ63.out; omega
                 case rel => exact ⟨(wrap64 (x7_2 + 1)), (by first | rfl | (simp; done) | (simp [*]; done)), H', ⟨by have := HJ20.out; have := HK2.out; have := HJ32.out; have := HK4.out; have := HJ63.out; omega⟩, ⟨ra_ HO_3⟩, ⟨ra_ HO_6⟩, ⟨bl_ HB⟩⟩
        ·rw [if_neg c32] at H
         have c32b0 : decide (x7_2 < (t320.length : Int)) = false := decide_eq_false c32
         clear c32
         replace H := bs_ H
         obtain ⟨⟨t350, t351⟩, A79, H⟩ := H
         dsimp only at H
         replace H := bs_ H
         obtain ⟨t354, A80, H⟩ := H
         have H' := Aside0.mk H
         clear H
         go_wp2_with (first | ((with_reducible refine gate_callee (f := 63) rfl ?_); refine gl_ 136 Try.func63 (spec_DrawNeighborsIn.calls k2 _ _ l0 t350 t351 _ (ck_ HR0 HB) HC0.out A79.out) ?_; rintro e w81 ⟨v352, rfl, ho0, hb⟩; refine ⟨_, rfl, sh4_ (Kd.R_below (ra_ HO_3) hb) (Kd.R_below (ra_ HO_6) hb) (Kd.R_lower ho0 (below_size (bl_ HB))) (below_step (bl_ HB) hb) ?_⟩; clear HO_3 HO_6 HB hb ho0; intro HO_3 HO_6 HO353 HB; obtain ⟨Ao82, co82, eo82⟩ := Kd.R_slice HO353.out; subst eo82) | ((with_reducible refine gate_callee (f := 57) rfl ?_); refine gl_ 141 Try.func57 (impl_NeighborsIn.calls k2 _ _ t350 t351 t354 _ (cr_ HO353) (rl_ HO353) A80.out) ?_; rintro e w83 ⟨v355, rfl, ho0, hb⟩; refine ⟨_, rfl, sh5_ (Kd.R_below (ra_ HO_3) hb) (Kd.R_below (ra_ HO_6) hb) (Kd.R_below (ra_ HO353) hb) (Kd.R_lower ho0 (below_size (bl_ HB))) (below_step (bl_ HB) hb) ?_⟩; clear HO_3 HO_6 HO353 HB hb ho0; intro HO_3 HO_6 HO353 HO356 HB))
         go_loopg [12] k2 (fun kq v12 w' => ∃ (x12_3 : Int), v12 = .int .i64 x12_3 ∧ Aside0 (laws_FnGraphs.l2 kq t350 t351 t354 x12_3 = some true) ∧ Aside0 (kq ≤ k2) ∧ Aside0 (Kd.R k103 103 w' w.heap.size (fun _ => True) (.slice Ao82 t350.length co82) t350) ∧ Aside0 (Kd.R (Kd.int .i64) 3 w' w.heap.size (fun _ => True) v355 t354) ∧ Aside0 (Below w.heap.size w w'))
         case atStart => exact ⟨(0), (by first | rfl | (simp; done) | (simp [*]; done)), H', ⟨Nat.le_refl _⟩, ⟨ra_ HO353⟩, ⟨ra_ HO356⟩, ⟨bl_ HB⟩⟩
         case round =>
          clear H'
          try clear p2
          try clear c3
          try clear p3
          try clear q3
          try clear hx3
          try clear c5
          try clear c6
          try clear p6
          try clear c7
          try clear c32
          try clear c32b0
          try clear p32
          try clear q32
          try clear hx32
          try clear p33
          try clear q33
          try clear hx33
          try clear c34
          try clear c34b0
          try clear p34
          try clear q34
          try clear hx34
          try clear c36
          try clear c37
          try clear c38
          try clear c39
          try clear c39b0
          try clear c39b1
          try clear c57
          try clear c57b0
          try clear c61
          try clear c62
          try clear c62b0
          try clear c63
          try clear c63b0
          try clear p64
          try clear c65
          try clear c65b0
          try clear c66
          try clear c66b0
          try clear c67
          try clear c67b0
          try clear c68
          try clear c69
          try clear c69b0
          try clear c70
          try clear c70b0
          try clear c74
          try clear hx325_0
          try clear hx325_1
          try clear hx326_0
          try clear hx326_1
          try clear hx338_0
          try clear hx338_1
          try clear hx340_0
          try clear hx340_1
          try clear hx341_0
          try clear hx341_1
          try clear hx342_0
          try clear hx342_1
          try clear p2
          try clear p3
          try clear p32
          try clear p325
          try clear p326
          try clear p33
          try clear p338
          try clear p34
          try clear p340
          try clear p341
          try clear p342
          try clear q3
          try clear q32
          try clear q325
          try clear q326
          try clear q33
          try clear q338
          try clear q34
          try clear q340
          try clear q341
          try clear q342
          obtain ⟨x12_3, rfl, HA, HK3, HO_9, HO_11, HB⟩ := hrel
          cases gk with
          | zero => exact absurd HA.out (by simp [laws_FnGraphs.l2])
          | succ k3 =>
           have H := HA.out
           clear HA
           simp only [laws_FnGraphs.l2] at H
           by_cases c84 : x12_3 < (t354.length : Int)
           ·rw [if_pos c84] at H
            have c84b0 := decide_eq_true c84
            clear c84
            replace H := ifn_ H
            obtain ⟨c85, H⟩ := H
            have c85b0 := decide_eq_true c85
            clear c85
            replace H := bs_ H
            obtain ⟨t358, A86, H⟩ := H
            replace H := bs_ H
            obtain ⟨t361, A87, H⟩ := H
            by_cases c88 : t361 = true
            ·subst c88
             try rw [if_pos rfl] at H
             by_cases c89 : x12_3 > 0
             ·rw [if_pos c89] at H
              have c89b0 : decide (0 < x12_3) = true := decide_eq_true c89
              clear c89
              obtain ⟨ji90, hji90⟩ : ∃ j_ : Int, (wrap64 (x12_3 - 1)) = j_ := ⟨_, rfl⟩
              replace H : (if 0 ≤ (ji90) then (if (ji90) < (t354.length : Int) then (if (rd t354 (ji90)) ≥ (rd t354 x12_3) then (some false) else (laws_FnGraphs.l2 k3 t350 t351 t354 (wrap64 (x12_3 + 1)))) else (none)) else (none)) = some true := by first | (rw [hji90] at H; exact H) | (simp only [hji90] at H ⊢; exact H)
              (try rw [hji90] at A86)
              (try rw [hji90] at A87)
              have hji90w : (IntKind.i64.wrap (x12_3 - 1)) = ji90 := (i64_w _).trans hji90
              replace H := ifn_ H
              obtain ⟨c91, H⟩ := H
              have c91b0 := decide_eq_true c91
              clear c91
              replace H := ifn_ H
              obtain ⟨c92, H⟩ := H
              have c92b0 := decide_eq_true c92
              clear c92
              by_cases c93 : (rd t354 (ji90)) ≥ (rd t354 x12_3)
              ·rw [if_pos c93] at H
               have c93b0 : decide ((rd t354 x12_3) ≤ (rd t354 (ji90))) = true := decide_eq_true c93
               clear c93
               exact absurd H (by simp)
              ·rw [if_neg c93] at H
               have c93b0 : decide ((rd t354 x12_3) ≤ (rd t354 (ji90))) = false := decide_eq_false c93
               clear c93
               have H' := Aside0.mk H
               clear H
               obtain ⟨Ao94, co94, eo94⟩ := Kd.R_slice HO_11.out
               subst eo94
               try go_wp2
               refine sh3_ (Kd.R_drew HO_9.out) (Kd.R_drew HO_11.out) (below_drew1 HB.out) ?_
               clear HO_9 HO_11 HB
               intro HO_9 HO_11 HB
               have p357 : 0 ≤ (x12_3 : Int) := od_
               have q357 : x12_3 < (t354.length : Int) := od_
               obtain ⟨ad357, e357, hx357_0⟩ := Kd.at_int (Kd.R_reads' HO_11.out).2.2 x12_3 p357 q357
               cases e357
               replace p357 := eq_true p357
               replace q357 := eq_true q357
               have p362 : 0 ≤ ((ji90) : Int) := od_
               have q362 : (ji90) < (t354.length : Int) := od_
               obtain ⟨ad362, e362, hx362_0⟩ := Kd.at_int (Kd.R_reads' HO_11.out).2.2 (ji90) p362 q362
               obtain rfl : ad357 = ad362 := (by injection e362)
               replace p362 := eq_true p362
               replace q362 := eq_true q362
               have p363 : 0 ≤ (x12_3 : Int) := od_
               have q363 : x12_3 < (t354.length : Int) := od_
               obtain ⟨ad363, e363, hx363_0⟩ := Kd.at_int (Kd.R_reads' HO_11.out).2.2 x12_3 p363 q363
               obtain rfl : ad357 = ad363 := (by injection e363)
               replace p363 := eq_true p363
               replace q363 := eq_true q363
               refine start_ (n := 25) (S := fun w' => w'.cell? (ad357.add (x12_3).toNat) = some (.int .i64 (rd t354 x12_3)) ∧ w'.cell? (ad357.add ((ji90)).toNat) = some (.int .i64 (rd t354 (ji90))) ∧ w'.cell? (ad357.add (x12_3).toNat) = some (.int .i64 (rd t354 x12_3))) (ds := []) #[false, false, false, false, false, false, false, false, false, false, false, false, false, false, false, false, false, false, false, false, false, false, false, false, false] (by kernel_rfl) rfl rfl ⟨hx357_0, hx362_0, hx363_0⟩ (fun hHeld => ?_); refine with_tabW laws_FnGraphs.tab24 laws_FnGraphs.bits24 (fun HT_ HW_ => ?_)
               generalize wr.drew = w95 at HO_9 HO_11 HB hx357_0 hx362_0 hx363_0 hHeld ⊢
               refine pur_ 0 #[true, false, false, false, false, false, false, false, false, false, false, false, false, false, false, false, false, false, false, false, false, false, false, false, false] (some 148) HT_ ?_
               refine pur_ 1 #[true, true, false, false, false, false, false, false, false, false, false, false, false, false, false, false, false, false, false, false, false, false, false, false, false] (some 149) HT_ ?_
               refine pur_ 2 #[true, true, true, false, false, false, false, false, false, false, false, false, false, false, false, false, false, false, false, false, false, false, false, false, false] (some 150) HT_ ?_
               refine pur_ 3 #[true, true, true, true, false, false, false, false, false, false, false, false, false, false, false, false, false, false, false, false, false, false, false, false, false] (some 151) HT_ ?_
               refine pur_ 6 #[true, true, true, true, false, false, true, false, false, false, false, false, false, false, false, false, false, false, false, false, false, false, false, false, false] (some 154) HT_ ?_
               refine tak_ 4 #[true, true, true, true, true, false, true, false, false, false, false, false, false, false, false, false, false, false, false, false, false, false, false, false, false] (some 152) HT_ HW_ hHeld ?_
               refine onc_ 5 #[true, true, true, true, true, true, true, false, false, false, false, false, false, false, false, false, false, false, false, false, false, false, false, false, false] (some 153) HT_ Try.func57 (impl_NeighborsIn.calls k3 _ _ t350 (rd t354 x12_3) t358 _ (cr_ HO_9) (rl_ HO_9) A86.out) ?_
               rintro e w96 ⟨v359, rfl, ho0, hb⟩
               have HS0_ := (hb.cell (World.block_lt_of_cell? _ _ (hHeld.1))).trans (hHeld.1)
               have HS1_ := (hb.cell (World.block_lt_of_cell? _ _ (hHeld.2.1))).trans (hHeld.2.1)
               have HS2_ := (hb.cell (World.block_lt_of_cell? _ _ (hHeld.2.2))).trans (hHeld.2.2)
               refine sh4_ (Kd.R_below (ra_ HO_9) hb) (Kd.R_elder' (ra_ HO_11) (Kd.R_base ho0) hb) (Kd.R_lower (Kd.R_new' ho0 (Kd.R_lt (ra_ HO_11))) (below_size (bl_ HB))) (below_step (bl_ HB) hb) ?_
               clear HO_9 HO_11 HB hb ho0
               intro HO_9 HO_11 HO360 HB
               obtain ⟨Ao97, co97, eo97⟩ := Kd.R_slice HO360.out
               (first | subst eo97 | (injection eo97 with f1_ f2_ f3_; have f4_ := f1_.symm; have f5_ := f3_.symm; clear f1_ f2_ f3_; subst f4_; subst f5_))
               refine ⟨_, _, rfl, ⟨HS0_, HS1_, HS2_⟩, pt_, fun hHeld => ?_⟩
               refine onc_ 7 #[true, true, true, true, true, true, true, true, false, false, false, false, false, false, false, false, false, false, false, false, false, false, false, false, false] (some 155) HT_ Try.func64 (laws_contains.calls k3 _ _ t358 t351 true _ (cr_ HO360) (rl_ HO360) A87.out) ?_
               rintro e w' ⟨rfl, ⟨nd, rfl⟩⟩
               refine ⟨_, _, rfl, ⟨hHeld.1, hHeld.2.1, hHeld.2.2⟩, pt_, fun hHeld => ?_⟩
               refine pur_ 8 #[true, true, true, true, true, true, true, true, true, false, false, false, false, false, false, false, false, false, false, false, false, false, false, false, false] (some 156) HT_ ?_
               refine pur_ 9 #[true, true, true, true, true, true, true, true, true, true, false, false, false, false, false, false, false, false, false, false, false, false, false, false, false] (some 157) HT_ ?_
               refine pur_ 10 #[true, true, true, true, true, true, true, true, true, true, true, false, false, false, false, false, false, false, false, false, false, false, false, false, false] (some 158) HT_ ?_
               refine pur_ 11 #[true, true, true, true, true, true, true, true, true, true, true, true, false, false, false, false, false, false, false, false, false, false, false, false, false] (some 159) HT_ ?_
               refine pur_ 12 #[true, true, true, true, true, true, true, true, true, true, true, true, true, false, false, false, false, false, false, false, false, false, false, false, false] (some 160) HT_ ?_
               refine pur_ 13 #[true, true, true, true, true, true, true, true, true, true, true, true, true, true, false, false, false, false, false, false, false, false, false, false, false] (some 161) HT_ ?_
               refine pur_ 14 #[true, true, true, true, true, true, true, true, true, true, true, true, true, true, true, false, false, false, false, false, false, false, false, false, false] (some 162) HT_ ?_
               refine pur_ 15 #[true, true, true, true, true, true, true, true, true, true, true, true, true, true, true, true, false, false, false, false, false, false, false, false, false] (some 163) HT_ ?_
               refine pur_ 16 #[true, true, true, true, true, true, true, true, true, true, true, true, true, true, true, true, true, false, false, false, false, false, false, false, false] (some 164) HT_ ?_
               refine pur_ 18 #[true, true, true, true, true, true, true, true, true, true, true, true, true, true, true, true, true, false, true, false, false, false, false, false, false] (some 166) HT_ ?_
               refine pur_ 19 #[true, true, true, true, true, true, true, true, true, true, true, true, true, true, true, true, true, false, true, true, false, false, false, false, false] (some 167) HT_ ?_
               refine pur_ 20 #[true, true, true, true, true, true, true, true, true, true, true, true, true, true, true, true, true, false, true, true, true, false, false, false, false] (some 168) HT_ ?_
               refine tak_ 17 #[true, true, true, true, true, true, true, true, true, true, true, true, true, true, true, true, true, true, true, true, true, false, false, false, false] (some 165) HT_ HW_ hHeld ?_
               refine tak_ 21 #[true, true, true, true, true, true, true, true, true, true, true, true, true, true, true, true, true, true, true, true, true, true, false, false, false] (some 169) HT_ HW_ hHeld ?_
               refine pur_ 22 #[true, true, true, true, true, true, true, true, true, true, true, true, true, true, true, true, true, true, true, true, true, true, true, false, false] (some 170) HT_ ?_
               refine pur_ 23 #[true, true, true, true, true, true, true, true, true, true, true, true, true, true, true, true, true, true, true, true, true, true, true, true, false] (some 171) HT_ ?_
               refine pur_ 24 #[true, true, true, true, true, true, true, true, true, true, true, true, true, true, true, true, true, true, true, true, true, true, true, true, true] (some 172) HT_ ?_
               refine done_ (done_of HT_.out (by kernel_rfl)) ?_
               try go_wp2
               go_roundg k3
               case measure => have := HJ20.out; have := HK2.out; have := HK3.out; omega
               case rel => exact ⟨(wrap64 (x12_3 + 1)), (by first | rfl | (simp; done) | (simp [*]; done)), H', ⟨by have := HJ20.out; have := HK2.out; have := HK3.out; omega⟩, ⟨ra_ HO_9⟩, ⟨by (with_reducible repeat (first | apply Kd.R_alloc | apply Kd.R_drewN | apply Kd.R_drew)); exact Kd.R_mono HO_11.out (fun _ hk => trivial)⟩, ⟨bl_ HB⟩⟩
             ·rw [if_neg c89] at H
              have c89b0 : decide (0 < x12_3) = false := decide_eq_false c89
              clear c89
              have H' := Aside0.mk H
              clear H
              obtain ⟨Ao98, co98, eo98⟩ := Kd.R_slice HO_11.out
              subst eo98
              try go_wp2
              refine sh3_ (Kd.R_drew HO_9.out) (Kd.R_drew HO_11.out) (below_drew1 HB.out) ?_
              clear HO_9 HO_11 HB
              intro HO_9 HO_11 HB
              have p357 : 0 ≤ (x12_3 : Int) := od_
              have q357 : x12_3 < (t354.length : Int) := od_
              obtain ⟨ad357, e357, hx357_0⟩ := Kd.at_int (Kd.R_reads' HO_11.out).2.2 x12_3 p357 q357
              cases e357
              replace p357 := eq_true p357
              replace q357 := eq_true q357
              refine start_ (n := 25) (S := fun w' => w'.cell? (ad357.add (x12_3).toNat) = some (.int .i64 (rd t354 x12_3))) (ds := []) #[false, false, false, false, false, false, false, false, false, false, false, false, false, false, false, false, false, false, false, false, false, false, false, false, false] (by kernel_rfl) rfl rfl (hx357_0) (fun hHeld => ?_); refine with_tabW laws_FnGraphs.tab24 laws_FnGraphs.bits24 (fun HT_ HW_ => ?_)
              generalize wr.drew = w99 at HO_9 HO_11 HB hx357_0 hHeld ⊢
              refine pur_ 0 #[true, false, false, false, false, false, false, false, false, false, false, false, false, false, false, false, false, false, false, false, false, false, false, false, false] (some 148) HT_ ?_
              refine pur_ 1 #[true, true, false, false, false, false, false, false, false, false, false, false, false, false, false, false, false, false, false, false, false, false, false, false, false] (some 149) HT_ ?_
              refine pur_ 2 #[true, true, true, false, false, false, false, false, false, false, false, false, false, false, false, false, false, false, false, false, false, false, false, false, false] (some 150) HT_ ?_
              refine pur_ 3 #[true, true, true, true, false, false, false, false, false, false, false, false, false, false, false, false, false, false, false, false, false, false, false, false, false] (some 151) HT_ ?_
              refine pur_ 6 #[true, true, true, true, false, false, true, false, false, false, false, false, false, false, false, false, false, false, false, false, false, false, false, false, false] (some 154) HT_ ?_
              refine take_ (i := 4) (N := some 152) (v := ?_) (a' := ?_) #[true, true, true, true, true, false, true, false, false, false, false, false, false, false, false, false, false, false, false, false, false, false, false, false, false] rfl rfl (take_ofW HT_.out HW_.out (by kernel_rfl)) (fun _ _ _ h => h) (Or.inl ⟨by rfl, ?_⟩) hHeld ?_ ?_
              rotate_left
              ·intro w' s0
               go_simp
               with_reducible rfl
              rotate_left
              ·simp only [Act.put, List.setIfInBounds_toArray, List.set_cons_zero, List.set_cons_succ, i64_w, i32_w]
               rfl
              refine one_ (i := 5) (N := some 153) #[true, true, true, true, true, true, true, false, false, false, false, false, false, false, false, false, false, false, false, false, false, false, false, false, false] rfl rfl (one_of HT_.out (by kernel_rfl)) (by decide) (fun K hK => ?_)
              refine goes_ Try.func57 (by kernel_rfl) rfl #[.slice Ao82 t350.length co82, .int .i64 (rd t354 x12_3)] (by rfl) rfl rfl mp_ ?_
              with_reducible refine (impl_NeighborsIn.calls k3 _ _ t350 (rd t354 x12_3) t358 _ ?side1 ?side2 A86.out).mono ?_
              (case side1 => repeat (first | exact (Kd.R_reads' HO_9.out).2.2 | (with_reducible refine Kd.C_alloc ?_ _) | (with_reducible refine Kd.C_drewN ?_ _) | (with_reducible refine Kd.C_drew ?_)))
              (case side2 => exact (Kd.R_reads' HO_9.out).2.1)
              rintro e w100 ⟨v359, rfl, ho0, hb⟩
              have HS0_ := (hb.cell (World.block_lt_of_cell? _ _ (hHeld))).trans (hHeld)
              refine ⟨_, rfl, sh4_ (Kd.R_below (ra_ HO_9) hb) (Kd.R_elder' (ra_ HO_11) (Kd.R_base ho0) hb) (Kd.R_lower (Kd.R_new' ho0 (Kd.R_lt (ra_ HO_11))) (below_size (bl_ HB))) (below_step (bl_ HB) hb) ?_⟩
              clear HO_9 HO_11 HB hb ho0
              intro HO_9 HO_11 HO360 HB
              obtain ⟨Ao101, co101, eo101⟩ := Kd.R_slice HO360.out
              (first | subst eo101 | (injection eo101 with f1_ f2_ f3_; have f4_ := f1_.symm; have f5_ := f3_.symm; clear f1_ f2_ f3_; subst f4_; subst f5_))
              refine hK.out _ _ (HS0_) (fun hHeld => ?_)
              clear hK K
              refine norm_ (a' := ?_) ?_ ?_
              rotate_left
              ·show Act.put _ (some 153) _ = _
               simp only [Act.put, List.setIfInBounds_toArray, List.set_cons_zero, List.set_cons_succ, i64_w, i32_w]
               rfl
              refine one_ (i := 7) (N := some 155) #[true, true, true, true, true, true, true, true, false, false, false, false, false, false, false, false, false, false, false, false, false, false, false, false, false] rfl rfl (one_of HT_.out (by kernel_rfl)) (by decide) (fun K hK => ?_)
              refine goes_ Try.func64 (by kernel_rfl) rfl #[.slice Ao101 t358.length co101, .int .i64 t351] (by rfl) rfl rfl mp_ ?_
              with_reducible refine (laws_contains.calls k3 _ _ t358 t351 true _ ?side1 ?side2 A87.out).mono ?_
              (case side1 => repeat (first | exact (Kd.R_reads' HO360.out).2.2 | (with_reducible refine Kd.C_alloc ?_ _) | (with_reducible refine Kd.C_drewN ?_ _) | (with_reducible refine Kd.C_drew ?_)))
              (case side2 => exact (Kd.R_reads' HO360.out).2.1)
              rintro e w' ⟨rfl, ⟨nd, rfl⟩⟩
              refine ⟨_, rfl, ?_⟩
              refine hK.out _ _ (hHeld) (fun hHeld => ?_)
              clear hK K
              refine norm_ (a' := ?_) ?_ ?_
              rotate_left
              ·show Act.put _ (some 155) _ = _
               simp only [Act.put, List.setIfInBounds_toArray, List.set_cons_zero, List.set_cons_succ, i64_w, i32_w]
               rfl
              refine pur_ 8 #[true, true, true, true, true, true, true, true, true, false, false, false, false, false, false, false, false, false, false, false, false, false, false, false, false] (some 156) HT_ ?_
              refine pur_ 9 #[true, true, true, true, true, true, true, true, true, true, false, false, false, false, false, false, false, false, false, false, false, false, false, false, false] (some 157) HT_ ?_
              refine pur_ 10 #[true, true, true, true, true, true, true, true, true, true, true, false, false, false, false, false, false, false, false, false, false, false, false, false, false] (some 158) HT_ ?_
              refine pur_ 11 #[true, true, true, true, true, true, true, true, true, true, true, true, false, false, false, false, false, false, false, false, false, false, false, false, false] (some 159) HT_ ?_
              refine pur_ 12 #[true, true, true, true, true, true, true, true, true, true, true, true, true, false, false, false, false, false, false, false, false, false, false, false, false] (some 160) HT_ ?_
              refine pure_ (i := 13) (N := some 161) (v := undef) (a' := ?_) #[true, true, true, true, true, true, true, true, true, true, true, true, true, true, false, false, false, false, false, false, false, false, false, false, false] rfl rfl (any_of HT_.out (by kernel_rfl)) (fun _ _ _ h => h) (Or.inr ⟨by rfl, rfl⟩) ?_ ?_
              rotate_left
              ·simp only [Act.put, List.setIfInBounds_toArray, List.set_cons_zero, List.set_cons_succ, i64_w, i32_w]
               rfl
              refine pure_ (i := 14) (N := some 162) (v := undef) (a' := ?_) #[true, true, true, true, true, true, true, true, true, true, true, true, true, true, true, false, false, false, false, false, false, false, false, false, false] rfl rfl (any_of HT_.out (by kernel_rfl)) (fun _ _ _ h => h) (Or.inr ⟨by rfl, rfl⟩) ?_ ?_
              rotate_left
              ·simp only [Act.put, List.setIfInBounds_toArray, List.set_cons_zero, List.set_cons_succ, i64_w, i32_w]
               rfl
              refine pure_ (i := 15) (N := some 163) (v := undef) (a' := ?_) #[true, true, true, true, true, true, true, true, true, true, true, true, true, true, true, true, false, false, false, false, false, false, false, false, false] rfl rfl (any_of HT_.out (by kernel_rfl)) (fun _ _ _ h => h) (Or.inr ⟨by rfl, rfl⟩) ?_ ?_
              rotate_left
              ·simp only [Act.put, List.setIfInBounds_toArray, List.set_cons_zero, List.set_cons_succ, i64_w, i32_w]
               rfl
              refine pure_ (i := 16) (N := some 164) (v := undef) (a' := ?_) #[true, true, true, true, true, true, true, true, true, true, true, true, true, true, true, true, true, false, false, false, false, false, false, false, false] rfl rfl (any_of HT_.out (by kernel_rfl)) (fun _ _ _ h => h) (Or.inr ⟨by rfl, rfl⟩) ?_ ?_
              rotate_left
              ·simp only [Act.put, List.setIfInBounds_toArray, List.set_cons_zero, List.set_cons_succ, i64_w, i32_w]
               rfl
              refine pure_ (i := 17) (N := some 165) (v := undef) (a' := ?_) #[true, true, true, true, true, true, true, true, true, true, true, true, true, true, true, true, true, true, false, false, false, false, false, false, false] rfl rfl (any_of HT_.out (by kernel_rfl)) (fun _ _ _ h => h) (Or.inr ⟨by rfl, rfl⟩) ?_ ?_
              rotate_left
              ·simp only [Act.put, List.setIfInBounds_toArray, List.set_cons_zero, List.set_cons_succ, i64_w, i32_w]
               rfl
              refine pure_ (i := 18) (N := some 166) (v := undef) (a' := ?_) #[true, true, true, true, true, true, true, true, true, true, true, true, true, true, true, true, true, true, true, false, false, false, false, false, false] rfl rfl (any_of HT_.out (by kernel_rfl)) (fun _ _ _ h => h) (Or.inr ⟨by rfl, rfl⟩) ?_ ?_
              rotate_left
              ·simp only [Act.put, List.setIfInBounds_toArray, List.set_cons_zero, List.set_cons_succ, i64_w, i32_w]
               rfl
              refine pure_ (i := 19) (N := some 167) (v := undef) (a' := ?_) #[true, true, true, true, true, true, true, true, true, true, true, true, true, true, true, true, true, true, true, true, false, false, false, false, false] rfl rfl (any_of HT_.out (by kernel_rfl)) (fun _ _ _ h => h) (Or.inr ⟨by rfl, rfl⟩) ?_ ?_
              rotate_left
              ·simp only [Act.put, List.setIfInBounds_toArray, List.set_cons_zero, List.set_cons_succ, i64_w, i32_w]
               rfl
              refine pure_ (i := 20) (N := some 168) (v := undef) (a' := ?_) #[true, true, true, true, true, true, true, true, true, true, true, true, true, true, true, true, true, true, true, true, true, false, false, false, false] rfl rfl (any_of HT_.out (by kernel_rfl)) (fun _ _ _ h => h) (Or.inr ⟨by rfl, rfl⟩) ?_ ?_
              rotate_left
              ·simp only [Act.put, List.setIfInBounds_toArray, List.set_cons_zero, List.set_cons_succ, i64_w, i32_w]
               rfl
              refine pure_ (i := 21) (N := some 169) (v := undef) (a' := ?_) #[true, true, true, true, true, true, true, true, true, true, true, true, true, true, true, true, true, true, true, true, true, true, false, false, false] rfl rfl (any_of HT_.out (by kernel_rfl)) (fun _ _ _ h => h) (Or.inr ⟨by rfl, rfl⟩) ?_ ?_
              rotate_left
              ·simp only [Act.put, List.setIfInBounds_toArray, List.set_cons_zero, List.set_cons_succ, i64_w, i32_w]
               rfl
              refine pure_ (i := 22) (N := some 170) (v := undef) (a' := ?_) #[true, true, true, true, true, true, true, true, true, true, true, true, true, true, true, true, true, true, true, true, true, true, true, false, false] rfl rfl (any_of HT_.out (by kernel_rfl)) (fun _ _ _ h => h) (Or.inr ⟨by rfl, rfl⟩) ?_ ?_
              rotate_left
              ·simp only [Act.put, List.setIfInBounds_toArray, List.set_cons_zero, List.set_cons_succ, i64_w, i32_w]
               rfl
              refine pur_ 23 #[true, true, true, true, true, true, true, true, true, true, true, true, true, true, true, true, true, true, true, true, true, true, true, true, false] (some 171) HT_ ?_
              refine pur_ 24 #[true, true, true, true, true, true, true, true, true, true, true, true, true, true, true, true, true, true, true, true, true, true, true, true, true] (some 172) HT_ ?_
              refine done_ (done_of HT_.out (by kernel_rfl)) ?_
              try go_wp2
              go_roundg k3
              case measure => have := HJ20.out; have := HK2.out; have := HK3.out; omega
              case rel => exact ⟨(wrap64 (x12_3 + 1)), (by first | rfl | (simp; done) | (simp [*]; done)), H', ⟨by have := HJ20.out; have := HK2.out; have := HK3.out; omega⟩, ⟨ra_ HO_9⟩, ⟨by (with_reducible repeat (first | apply Kd.R_alloc | apply Kd.R_drewN | apply Kd.R_drew)); exact Kd.R_mono HO_11.out (fun _ hk => trivial)⟩, ⟨bl_ HB⟩⟩
            ·replace c88 := Bool.eq_false_iff.mpr c88
             subst c88
             have H1 : (some false) = some true := by first | (rw [if_neg (show ¬ (false = true) by decide)] at H; exact H) | rfl
             clear H
             have H := H1
             clear H1
             exact absurd H (by simp)
           ·rw [if_neg c84] at H
            have c84b0 : decide (x12_3 < (t354.length : Int)) = false := decide_eq_false c84
            clear c84
            clear H
            obtain ⟨Ao102, co102, eo102⟩ := Kd.R_slice HO_11.out
            subst eo102
            go_wp2
            go_ret
            exact ⟨by first | (rw [hRT_.out]; rfl) | exact er_, bl_ HB⟩

/-- THE ONE PURE STATEMENT of laws_FnGraphs: yours. -/
def laws_FnGraphs.Pure : Prop := ∀ (l0 : List Int), l0.length ≤ maxLen → l0.length * 1 ≤ 140737488351232 → (∀ x ∈ l0, (Lit.int .u8 x).wf = true) → ∃ k, laws_FnGraphs.f k l0 = some true
theorem laws_FnGraphs.walk (P : laws_FnGraphs.Pure) (a0 : Option Addr) (len0 cap0 : Nat) (z0 : List Int) (w : World) (w0 : (a0 = none ∧ len0 = 0 ∧ cap0 = 0 ∧ z0 = []) ∨ ∃ x, a0 = some x ∧ len0 ≤ cap0 ∧ cap0 ≤ maxLen ∧ z0.length = cap0 ∧ (∀ i, i < z0.length → w.cell? (x.add i) = some (.int .u8 (z0.getD i 0))) ∧ ∀ n ∈ z0, (Lit.int .u8 n).wf = true) (y0 : len0 * 1 ≤ 140737488351232) :
  Calls Try.prog 12 #[.slice a0 len0 cap0] w fun e w' => e = .returned (.bool true) ∧ Below w.heap.size w w' := by
 obtain ⟨l0, rfl, hr0, hm0, hw0, hc0⟩ := ReadsInt.ofRowC w0
 obtain ⟨k, h⟩ := P l0 hm0 y0 hw0
 refine (laws_FnGraphs.calls k _ _ l0 true w (Kd.C_of_reads (d := (0 : Int)) (h1 := fun _ => rfl) hr0) hc0 h).mono ?_
 rintro e w' ⟨rfl, hd⟩
 exact ⟨rfl, hd⟩

end Go.Proofs.Ytlljhblilicnfaa.PFnGraphs
