-- Written by a program of this session for this claim (the kit's printer with changes).
import Derived.Test.YtcjfalmhohcifaaQFnExactLostTicksx0
import Derived.Test.YtcjfalmhohcifaaQFnExactLostTicksx1
import Derived.Test.YtcjfalmhohcifaaQFnExactLostTicksx3
import Derived.Test.YtcjfalmhohcifaaQFnExactLostTicksx4
namespace Go.Proofs.Ytcjfalmhohcifaa.PFnExactLostTicks
open Go.RowKit Go.Proofs.YtcjfalmhohcifaaW.PrintWords Go.Proofs.YtcjfalmhohcifaaW.PrintLast Go.Proofs.YtcjfalmhohcifaaW.PrintMore
attribute [local go_sem] max2_int min2_int max_two min_two max_three min_three max_four min_four   -- for this text's walks alone
set_option linter.unusedVariables false
set_option linter.unusedSimpArgs false

/-! ### impl_CutClouds: function 23 -/
mutual
def impl_CutClouds.l0 : Nat → List (S87) → List (S82) → List (S82) → Int → Int → Option ((List (S82)))
 | 0, _, _, _, _, _ => none
 | k + 1, x1, x5, x11, x12, x13 => if x13 < x12 then (if 0 ≤ x13 then (if x13 < (x11.length : Int) then ((impl_spanOf.f ((rd_T82 x11 x13).f0) ((rd_T82 x11 x13).f1) ((rd_T82 x11 x13).f2) ((rd_T82 x11 x13).f3)).bind fun bt280 => ((impl_CloudSpans.f k x1 ((rd_T82 x11 x13).f0)).bind fun t285 => ((impl_CloudSpans.f k x1 ((rd_T82 x11 x13).f1)).bind fun t288 => ((impl_Span_49.f k (([t285, t288] : List (List (S73))))).bind fun t294 => ((impl_CutSpans.f k (([(⟨bt280.1, bt280.2⟩ : S73)] : List (S73))) t294).bind fun t297 => (impl_CutClouds.l1 k x1 x5 x11 x12 x13 t297 (t297.length : Int) 0 ((rd_T82 x11 x13).f0) ((rd_T82 x11 x13).f1) ((rd_T82 x11 x13).f2) ((rd_T82 x11 x13).f3))))))) else (none)) else (none)) else (some x5)
def impl_CutClouds.l1 : Nat → List (S87) → List (S82) → List (S82) → Int → Int → List (S73) → Int → Int → Int → Int → Int → Int → Option ((List (S82)))
 | 0, _, _, _, _, _, _, _, _, _, _, _, _ => none
 | k + 1, x1, x5, x11, x12, x13, x30, x31, x32, x280000, x280001, x280002, x280003 => if x32 < x31 then (if 0 ≤ x32 then (if x32 < (x30.length : Int) then (if x5.length < 4398046511104 then (impl_CutClouds.l1 k x1 (x5 ++ [(⟨x280000, x280001, (rd_T73 x30 x32).f0, (rd_T73 x30 x32).f1⟩ : S82)]) x11 x12 x13 x30 x31 (wrap64 (x32 + 1)) x280000 x280001 x280002 x280003) else (none)) else (none)) else (none)) else (impl_CutClouds.l0 k x1 x5 x11 x12 (wrap64 (x13 + 1)))
end
def impl_CutClouds.f (k : Nat) (l0 : List (S82)) (l1 : List (S87)) : Option ((List (S82))) := impl_CutClouds.l0 k l1 (([] : List (S82))) l0 (l0.length : Int) 0
theorem impl_CutClouds.mono_l : ∀ k, (∀ y0 y1 y2 y3 y4, LeO (impl_CutClouds.l0 k y0 y1 y2 y3 y4) (impl_CutClouds.l0 (k + 1) y0 y1 y2 y3 y4)) ∧ (∀ y0 y1 y2 y3 y4 y5 y6 y7 y8 y9 y10 y11, LeO (impl_CutClouds.l1 k y0 y1 y2 y3 y4 y5 y6 y7 y8 y9 y10 y11) (impl_CutClouds.l1 (k + 1) y0 y1 y2 y3 y4 y5 y6 y7 y8 y9 y10 y11))
 | 0 => ⟨fun _ _ _ _ _ r h => by simp [impl_CutClouds.l0] at h, fun _ _ _ _ _ _ _ _ _ _ _ _ r h => by simp [impl_CutClouds.l1] at h⟩
 | k + 1 => by
  obtain ⟨ih0, ih1⟩ := impl_CutClouds.mono_l k
  refine ⟨?_, ?_⟩
  ·intro y0 y1 y2 y3 y4
   unfold impl_CutClouds.l0
   repeat' first | (with_reducible first | exact ih0 _ _ _ _ _ | exact ih1 _ _ _ _ _ _ _ _ _ _ _ _ | exact impl_CloudSpans.mono _ _ _ | exact impl_CutSpans.mono _ _ _ | exact impl_Span_49.mono _ _ | exact LeO.refl _ | exact LeO.none _ | refine LeO.ite ?_ ?_ | refine LeO.bind ?_ (fun _ => ?_)) | exact LeO.none _ | refine LeO.ite ?_ ?_ | refine LeO.bind ?_ (fun _ => ?_)
  ·intro y0 y1 y2 y3 y4 y5 y6 y7 y8 y9 y10 y11
   unfold impl_CutClouds.l1
   repeat' first | (with_reducible first | exact ih0 _ _ _ _ _ | exact ih1 _ _ _ _ _ _ _ _ _ _ _ _ | exact impl_CloudSpans.mono _ _ _ | exact impl_CutSpans.mono _ _ _ | exact impl_Span_49.mono _ _ | exact LeO.refl _ | exact LeO.none _ | refine LeO.ite ?_ ?_ | refine LeO.bind ?_ (fun _ => ?_)) | exact LeO.none _ | refine LeO.ite ?_ ?_ | refine LeO.bind ?_ (fun _ => ?_)
theorem impl_CutClouds.mono : ∀ a0 a1 k, LeO (impl_CutClouds.f k a0 a1) (impl_CutClouds.f (k + 1) a0 a1) := by
 intro a0 a1 k
 obtain ⟨ih0, ih1⟩ := impl_CutClouds.mono_l k
 unfold impl_CutClouds.f
 repeat' first | (with_reducible first | exact ih0 _ _ _ _ _ | exact ih1 _ _ _ _ _ _ _ _ _ _ _ _ | exact impl_CloudSpans.mono _ _ _ | exact impl_CutSpans.mono _ _ _ | exact impl_Span_49.mono _ _ | exact LeO.refl _ | exact LeO.none _ | refine LeO.ite ?_ ?_ | refine LeO.bind ?_ (fun _ => ?_)) | exact LeO.none _ | refine LeO.ite ?_ ?_ | refine LeO.bind ?_ (fun _ => ?_)
def impl_CutClouds.T5 : Bool × List (List Nat × List Nat) := (true, [([], []), ([0], [0]), ([1], [1]), ([], []), ([], []), ([4], [4]), ([3, 5, 1], [3, 5]), ([], []), ([], []), ([8], [8]), ([7, 9, 6], [7, 9]), ([6, 10], [6, 10]), ([11, 10], [11]), ([2, 12, 12], [2, 12]), ([13], [13]), ([], [])])
def impl_CutClouds.B5 : List Nat := [0, 1, 3, 0, 0, 16, 59, 0, 0, 256, 1019, 2043, 4091, 8191, 16383, 0]
theorem impl_CutClouds.tab5 : rtab .any (opsOf Try.f23 5) = impl_CutClouds.T5 := by kernel_rfl
theorem impl_CutClouds.bits5 : waitsOk impl_CutClouds.T5.2 impl_CutClouds.B5 = true := by kernel_rfl
set_option maxHeartbeats 8000000 in
set_option maxRecDepth 100000 in
theorem impl_CutClouds.calls (k : Nat) (A0 : Option Addr) (c0 : Nat) (l0 : List (S82)) (A1 : Option Addr) (c1 : Nat) (l1 : List (S87)) (r : List (S82)) (w : World) (hr0 : Kd.C k82 w A0 l0.length l0) (hc0 : l0.length ≤ c0) (hr1 : Kd.C k87 w A1 l1.length l1) (hc1 : l1.length ≤ c1) (h : impl_CutClouds.f k l0 l1 = some r) :
  Calls Try.prog 23 #[.slice A0 l0.length c0, .slice A1 l1.length c1] w fun e w' => ∃ v0_ : Value, e = .returned (v0_) ∧ Kd.R k82 82 w' w.heap.size (fun _ => True) v0_ r ∧ Below w.heap.size w w' := by
 have hu82 := Try.underlying82
 have hu73 := Try.underlying73
 have HR0 := Aside0.mk hr0
 have HC0 := Aside0.mk hc0
 clear hr0 hc0
 have HR1 := Aside0.mk hr1
 have HC1 := Aside0.mk hc1
 clear hr1 hc1
 have HB := Aside0.mk (Below.refl w.heap.size w)
 have H := h
 clear h
 unfold impl_CutClouds.f at H
 replace H : ∃ y_ : List (S82), Aside0 (y_ = (([] : List (S82)))) ∧ (impl_CutClouds.l0 k l1 y_ l0 (l0.length : Int) 0) = some r := ⟨_, ⟨rfl⟩, yh_ H⟩
 obtain ⟨y275, Ny275, H⟩ := H
 have H' := Aside0.mk H
 clear H
 go_enter Try.func23, Try.ntmps23
 go_wp2_with (first | ((with_reducible refine gate_dst (N := 10) rfl ?_); refine Kd.R_lit k82 _ 82 ?hg (N := 10) ?hd (xs := ([] : List (S82))) (inner := []) (ok := fun _ => True) (okp := fun _ => True) ?hr ?hp (fun _ hk => hk) trivial (Below.refl _ _) (Nat.le_refl _) (by simp) ?_; (case hd => rfl); (case hg => rfl); (case hr => first | (go_simp; done) | (go_simp; rfl)); (case hp => exact (Reps.none _ _)); intro v276 w3 ho4 hb hg_ hnew_; clear hg_ hnew_; (first | rw [← Ny275.out] at ho4 | (simp only [Int.reduceToNat] at ho4; rw [← Ny275.out] at ho4)); refine sh2_ (Kd.R_lower ho4 (below_size (bl_ HB))) (below_step (bl_ HB) hb) ?_; clear HB hb ho4; intro HO277 HB))
 go_loopg [5, 13] k (fun kq v5 v13 w' => ∃ (x5_1 : List (S82)) (x13_1 : Int), v13 = .int .i64 x13_1 ∧ Aside0 (impl_CutClouds.l0 kq l1 x5_1 l0 (l0.length : Int) x13_1 = some r) ∧ Aside0 (kq ≤ k) ∧ Aside0 (Kd.R k82 82 w' w.heap.size (fun _ => True) v5 x5_1) ∧ Aside0 (Below w.heap.size w w'))
 case atStart => exact ⟨(y275), (0), (by first | rfl | (simp; done) | (simp [*]; done)), H', ⟨Nat.le_refl _⟩, ⟨ra_ HO277⟩, ⟨bl_ HB⟩⟩
 case round =>
  clear H'
  try clear c1
  try clear c2
  try clear p2
  obtain ⟨x5_1, x13_1, rfl, HA, HK1, HO_5, HB⟩ := hrel
  cases gk with
  | zero => exact absurd HA.out (by simp [impl_CutClouds.l0])
  | succ k1 =>
   have H := HA.out
   clear HA
   simp only [impl_CutClouds.l0] at H
   by_cases c5 : x13_1 < (l0.length : Int)
   ·rw [if_pos c5] at H
    have c5b0 := decide_eq_true c5
    clear c5
    replace H := ifn_ H
    obtain ⟨c6, H⟩ := H
    have c6b0 := decide_eq_true c6
    clear c6
    replace H := ifn_ H
    obtain ⟨c7, H⟩ := H
    have c7b0 := decide_eq_true c7
    clear c7
    replace H := bs_ H
    obtain ⟨⟨t280, t281⟩, A8, H⟩ := H
    dsimp only at H
    replace H : ∃ y_ : List (S73), Aside0 (y_ = (([(⟨t280, t281⟩ : S73)] : List (S73)))) ∧ ((impl_CloudSpans.f k1 l1 ((rd_T82 l0 x13_1).f0)).bind fun t285 => ((impl_CloudSpans.f k1 l1 ((rd_T82 l0 x13_1).f1)).bind fun t288 => ((impl_Span_49.f k1 (([t285, t288] : List (List (S73))))).bind fun t294 => ((impl_CutSpans.f k1 y_ t294).bind fun t297 => (impl_CutClouds.l1 k1 l1 x5_1 l0 (l0.length : Int) x13_1 t297 (t297.length : Int) 0 ((rd_T82 l0 x13_1).f0) ((rd_T82 l0 x13_1).f1) ((rd_T82 l0 x13_1).f2) ((rd_T82 l0 x13_1).f3)))))) = some r := ⟨_, ⟨rfl⟩, yh_ H⟩
    obtain ⟨y282, Ny282, H⟩ := H
    replace H := bs_ H
    obtain ⟨t285, A9, H⟩ := H
    replace H := bs_ H
    obtain ⟨t288, A10, H⟩ := H
    replace H : ∃ y_ : List (List (S73)), Aside0 (y_ = (([t285, t288] : List (List (S73))))) ∧ ((impl_Span_49.f k1 y_).bind fun t294 => ((impl_CutSpans.f k1 y282 t294).bind fun t297 => (impl_CutClouds.l1 k1 l1 x5_1 l0 (l0.length : Int) x13_1 t297 (t297.length : Int) 0 ((rd_T82 l0 x13_1).f0) ((rd_T82 l0 x13_1).f1) ((rd_T82 l0 x13_1).f2) ((rd_T82 l0 x13_1).f3)))) = some r := ⟨_, ⟨rfl⟩, yh_ H⟩
    obtain ⟨y291, Ny291, H⟩ := H
    replace H := bs_ H
    obtain ⟨t294, A11, H⟩ := H
    replace H := bs_ H
    obtain ⟨t297, A12, H⟩ := H
    have H' := Aside0.mk H
    clear H
    have p278 : 0 ≤ (x13_1 : Int) := od_
    have q278 : x13_1 < (l0.length : Int) := od_
    obtain ⟨ad278, e278, hx278_0, hx278_1, hx278_2, hx278_3⟩ := at_T82 HR0.out x13_1 p278 q278
    cases e278
    replace hx278_0 := hbc_ HB hx278_0
    replace hx278_1 := hbc_ HB hx278_1
    replace hx278_2 := hbc_ HB hx278_2
    replace hx278_3 := hbc_ HB hx278_3
    replace p278 := eq_true p278
    replace q278 := eq_true q278
    try go_wp2_with (first | ((with_reducible refine gd_ 7 ?_); refine bx_ 7 82 #[.int .i64 0, .int .i64 0, .int .i64 0, .int .i64 0] ?_; intro gb279 hg w13 hbox hb; refine sh5_ (Kd.R_below (Kd.R_elderB (ra_ HO_5) gb279 (Nat.le_of_eq hg.symm)) hb) (below_step (bl_ HB) hb) hbox (ge_ hg (bl_ HB)) (ge_ hg (bl_ HB)) ?_; clear HO_5 HB hb hbox hg; intro HO_5 HB BK279 GW279 GE279; have hcz14 := cf4_ BK279))
    have n0_ : Aside0 (Kd.R k82 82 ((((w13.setCell ⟨gb279, 0, none⟩ (.int .i64 ((rd_T82 l0 x13_1).f0))).setCell ⟨gb279, 1, none⟩ (.int .i64 ((rd_T82 l0 x13_1).f1))).setCell ⟨gb279, 2, none⟩ (.int .i64 ((rd_T82 l0 x13_1).f2))).setCell ⟨gb279, 3, none⟩ (.int .i64 ((rd_T82 l0 x13_1).f3))) w.heap.size (fun k_ => k_ ≠ gb279) u5 x5_1) := ⟨by (with_reducible repeat (first | apply Kd.R_alloc | apply Kd.R_drewN | apply Kd.R_drew)); exact Kd.R_mono (Kd.R_far (p := ⟨gb279, 3, none⟩) (Kd.R_far (p := ⟨gb279, 2, none⟩) (Kd.R_far (p := ⟨gb279, 1, none⟩) (Kd.R_far (p := ⟨gb279, 0, none⟩) (Kd.R_mono HO_5.out (fun k_ hk => (⟨hk, hk.2⟩ : _ ∧ k_ ≠ gb279))) (fun _ hk => hk.2) (.int .i64 ((rd_T82 l0 x13_1).f0))) (fun _ hk => hk.2) (.int .i64 ((rd_T82 l0 x13_1).f1))) (fun _ hk => hk.2) (.int .i64 ((rd_T82 l0 x13_1).f2))) (fun _ hk => hk.2) (.int .i64 ((rd_T82 l0 x13_1).f3))) (fun _ hk => hk.1.2)⟩
    have n1_ : Aside0 (((((w13.setCell ⟨gb279, 0, none⟩ (.int .i64 ((rd_T82 l0 x13_1).f0))).setCell ⟨gb279, 1, none⟩ (.int .i64 ((rd_T82 l0 x13_1).f1))).setCell ⟨gb279, 2, none⟩ (.int .i64 ((rd_T82 l0 x13_1).f2))).setCell ⟨gb279, 3, none⟩ (.int .i64 ((rd_T82 l0 x13_1).f3))).heap[gb279]? = some (.cells #[.int .i64 ((rd_T82 l0 x13_1).f0), .int .i64 ((rd_T82 l0 x13_1).f1), .int .i64 ((rd_T82 l0 x13_1).f2), .int .i64 ((rd_T82 l0 x13_1).f3)] 82 (0, 0))) := ⟨by (with_reducible repeat (first | refine blk_drewN ?_ _ | refine blk_drew ?_ | refine blk_alloc ?_ _)); refine blk_put (cs := #[.int .i64 ((rd_T82 l0 x13_1).f0), .int .i64 ((rd_T82 l0 x13_1).f1), .int .i64 ((rd_T82 l0 x13_1).f2), .int .i64 0]) ?_ 3 _ rfl; (with_reducible repeat (first | refine blk_drewN ?_ _ | refine blk_drew ?_ | refine blk_alloc ?_ _)); refine blk_put (cs := #[.int .i64 ((rd_T82 l0 x13_1).f0), .int .i64 ((rd_T82 l0 x13_1).f1), .int .i64 0, .int .i64 0]) ?_ 2 _ rfl; (with_reducible repeat (first | refine blk_drewN ?_ _ | refine blk_drew ?_ | refine blk_alloc ?_ _)); refine blk_put (cs := #[.int .i64 ((rd_T82 l0 x13_1).f0), .int .i64 0, .int .i64 0, .int .i64 0]) ?_ 1 _ rfl; (with_reducible repeat (first | refine blk_drewN ?_ _ | refine blk_drew ?_ | refine blk_alloc ?_ _)); refine blk_put (cs := #[.int .i64 0, .int .i64 0, .int .i64 0, .int .i64 0]) ?_ 0 _ rfl; (with_reducible repeat (first | refine blk_drewN ?_ _ | refine blk_drew ?_ | refine blk_alloc ?_ _)); exact BK279.out⟩
    have n2_ : Aside0 (Below w.heap.size w ((((w13.setCell ⟨gb279, 0, none⟩ (.int .i64 ((rd_T82 l0 x13_1).f0))).setCell ⟨gb279, 1, none⟩ (.int .i64 ((rd_T82 l0 x13_1).f1))).setCell ⟨gb279, 2, none⟩ (.int .i64 ((rd_T82 l0 x13_1).f2))).setCell ⟨gb279, 3, none⟩ (.int .i64 ((rd_T82 l0 x13_1).f3)))) := ⟨bl1_ HB GE279⟩
    (try clear HO_5)
    (try clear BK279)
    (try clear HB)
    generalize ((((w13.setCell ⟨gb279, 0, none⟩ (.int .i64 ((rd_T82 l0 x13_1).f0))).setCell ⟨gb279, 1, none⟩ (.int .i64 ((rd_T82 l0 x13_1).f1))).setCell ⟨gb279, 2, none⟩ (.int .i64 ((rd_T82 l0 x13_1).f2))).setCell ⟨gb279, 3, none⟩ (.int .i64 ((rd_T82 l0 x13_1).f3))) = w15 at n0_ n1_ n2_ ⊢
    have HO_5 := n0_
    have BK279 := n1_
    have HB := n2_
    clear n0_ n1_ n2_
    refine sh3_ (Kd.R_drew HO_5.out) (blk_drew BK279.out) (below_drew1 HB.out) ?_
    clear HO_5 BK279 HB
    intro HO_5 BK279 HB
    refine start_ (n := 16) (S := fun w' => True) (ds := []) #[false, false, false, false, false, false, false, false, false, false, false, false, false, false, false, false] (by kernel_rfl) rfl rfl trivial (fun hHeld => ?_); refine with_tabW impl_CutClouds.tab5 impl_CutClouds.bits5 (fun HT_ HW_ => ?_)
    generalize w15.drew = w16 at HO_5 BK279 HB hHeld ⊢
    refine pur_ 3 #[false, false, false, true, false, false, false, false, false, false, false, false, false, false, false, false] (some 20) HT_ ?_
    refine pur_ 4 #[false, false, false, true, true, false, false, false, false, false, false, false, false, false, false, false] (some 21) HT_ ?_
    refine pur_ 7 #[false, false, false, true, true, false, false, true, false, false, false, false, false, false, false, false] (some 24) HT_ ?_
    refine pur_ 8 #[false, false, false, true, true, false, false, true, true, false, false, false, false, false, false, false] (some 25) HT_ ?_
    refine pur_ 15 #[false, false, false, true, true, false, false, true, true, false, false, false, false, false, false, true] (some 32) HT_ ?_
    refine inv_at [0, 1, 2, 5, 6, 9, 10, 11, 12, 13, 14] (fun a0_ b a w' => ∃ (v283 : Value) (v286 : Value) (v289 : Value) (v292 : Value) (v295 : Value) (v298 : Value), a = putSel a0_ b [(0, 17, .agg #[.int .i64 ((rd_T82 l0 x13_1).f0), .int .i64 ((rd_T82 l0 x13_1).f1), .int .i64 ((rd_T82 l0 x13_1).f2), .int .i64 ((rd_T82 l0 x13_1).f3)]), (1, 18, .agg #[.int .i64 t280, .int .i64 t281]), (2, 19, v283), (5, 22, .int .i64 ((rd_T82 l0 x13_1).f0)), (6, 23, v286), (9, 26, .int .i64 ((rd_T82 l0 x13_1).f1)), (10, 27, v289), (11, 28, v292), (12, 29, v295), (13, 30, v298), (14, 31, .int .i64 (t297.length : Int))] ∧ (Kd.R k82 82 w' w.heap.size (fun k_ => k_ ≠ gb279) u5 x5_1) ∧ (w'.heap[gb279]? = some (.cells #[.int .i64 ((rd_T82 l0 x13_1).f0), .int .i64 ((rd_T82 l0 x13_1).f1), .int .i64 ((rd_T82 l0 x13_1).f2), .int .i64 ((rd_T82 l0 x13_1).f3)] 82 (0, 0))) ∧ (Below w.heap.size w w') ∧ (b 2 = true → Kd.R k73 73 w' w.heap.size (fun _ => True) v283 y282) ∧ (b 6 = true → b 11 = false → Kd.R k73 73 w' w.heap.size (fun _ => True) v286 t285) ∧ (b 10 = true → b 11 = false → Kd.R k73 73 w' w.heap.size (fun _ => True) v289 t288) ∧ (b 11 = true → Kd.N (Kd.slice 73 k73) 28 w' w.heap.size (fun k_ => some k_ ≠ (u5 : Value).ownBlock ∧ k_ ≠ gb279) v292 y291) ∧ (b 12 = true → Kd.R k73 73 w' w.heap.size (fun _ => True) v295 t294) ∧ (b 13 = true → Kd.R k73 73 w' w.heap.size (fun _ => True) v298 t297)) HT_.out HW_.out (by kernel_rfl) (by kernel_rfl) ?_ ?_ ?_
    ·exact ⟨.bool false, .bool false, .bool false, .bool false, .bool false, .bool false, by simp only [putSel, Bool.false_eq_true, if_false], HO_5.out, BK279.out, HB.out, fun h_ => absurd h_ (by decide), fun h_ => absurd h_ (by decide), fun h_ => absurd h_ (by decide), fun h_ => absurd h_ (by decide), fun h_ => absurd h_ (by decide), fun h_ => absurd h_ (by decide)⟩
    ·skip
     clear BK279 HB HO_5
     refine steps_cons ?_ ?_
     ·rintro b a w' ⟨v283, v286, v289, v292, v295, v298, ha, Q_HO_5, Q_BK279, Q_HB, Q_HO284, Q_HO287, Q_HO290, Q_HO293, Q_HO296, Q_HO299⟩ hb_ hon hoff
      refine ⟨_, rfl, fun K hK => ?_⟩
      have e7 : a.tmps[7]? = some (.pointer (some ⟨gb279, 0, none⟩)) := by rw [ha]; exact (putSel_off rfl).trans rfl
      replace ha := Aside0.mk ha
      have HO_5 := Aside0.mk Q_HO_5
      have BK279 := Aside0.mk Q_BK279
      have HB := Aside0.mk Q_HB
      have hc0_ : w'.cell? ⟨gb279, 0, none⟩ = some (.int .i64 ((rd_T82 l0 x13_1).f0)) := bc_ BK279 0 rfl
      have hc1_ : w'.cell? ⟨gb279, 1, none⟩ = some (.int .i64 ((rd_T82 l0 x13_1).f1)) := bc_ BK279 1 rfl
      have hc2_ : w'.cell? ⟨gb279, 2, none⟩ = some (.int .i64 ((rd_T82 l0 x13_1).f2)) := bc_ BK279 2 rfl
      have hc3_ : w'.cell? ⟨gb279, 3, none⟩ = some (.int .i64 ((rd_T82 l0 x13_1).f3)) := bc_ BK279 3 rfl
      refine value_ (w1 := w') (v := .agg #[.int .i64 ((rd_T82 l0 x13_1).f0), .int .i64 ((rd_T82 l0 x13_1).f1), .int .i64 ((rd_T82 l0 x13_1).f2), .int .i64 ((rd_T82 l0 x13_1).f3)]) (by rfl) rfl ?_ ?_
      ·go_simp
       (try simp only [i64_w])
       try rfl
      refine hK.out _ _ ⟨v283, v286, v289, v292, v295, v298, (by rw [ha.out]; exact putSel_upk 0 hb_ rfl rfl rfl), Q_HO_5, Q_BK279, Q_HB, fun h0_ => absurd ((hoff 2 (by kernel_rfl)).symm.trans h0_) (by decide), fun h0_ _ => absurd ((hoff 6 (by kernel_rfl)).symm.trans h0_) (by decide), fun h0_ _ => absurd ((hoff 10 (by kernel_rfl)).symm.trans h0_) (by decide), fun h0_ => absurd ((hoff 11 (by kernel_rfl)).symm.trans h0_) (by decide), fun h0_ => absurd ((hoff 12 (by kernel_rfl)).symm.trans h0_) (by decide), fun h0_ => absurd ((hoff 13 (by kernel_rfl)).symm.trans h0_) (by decide)⟩
     refine steps_cons ?_ ?_
     ·rintro b a w' ⟨v283, v286, v289, v292, v295, v298, ha, Q_HO_5, Q_BK279, Q_HB, Q_HO284, Q_HO287, Q_HO290, Q_HO293, Q_HO296, Q_HO299⟩ hb_ hon hoff
      refine ⟨_, rfl, fun K hK => ?_⟩
      have e17 : a.tmps[17]? = some (.agg #[.int .i64 ((rd_T82 l0 x13_1).f0), .int .i64 ((rd_T82 l0 x13_1).f1), .int .i64 ((rd_T82 l0 x13_1).f2), .int .i64 ((rd_T82 l0 x13_1).f3)]) := by rw [ha]; exact putSel_on (e := (0, 17, .agg #[.int .i64 ((rd_T82 l0 x13_1).f0), .int .i64 ((rd_T82 l0 x13_1).f1), .int .i64 ((rd_T82 l0 x13_1).f2), .int .i64 ((rd_T82 l0 x13_1).f3)])) 0 rfl rfl (hon 0 (by kernel_rfl)) rfl
      replace ha := Aside0.mk ha
      have HO_5 := Aside0.mk Q_HO_5
      have BK279 := Aside0.mk Q_BK279
      have HB := Aside0.mk Q_HB
      refine goes_ Try.func61 (by kernel_rfl) rfl #[.agg #[.int .i64 ((rd_T82 l0 x13_1).f0), .int .i64 ((rd_T82 l0 x13_1).f1), .int .i64 ((rd_T82 l0 x13_1).f2), .int .i64 ((rd_T82 l0 x13_1).f3)]] (by rfl) rfl rfl (by first | (simp only [List.map_toArray, List.map_cons, List.map_nil, Act.eval, Array.getD_eq_getD_getElem?, Option.getD_some, e17]; done) | (simp only [List.map_toArray, List.map_cons, List.map_nil, Act.eval, Array.getD_eq_getD_getElem?, Option.getD_some, e17]; rfl)) ?_
      with_reducible refine (impl_spanOf.calls ((rd_T82 l0 x13_1).f0) ((rd_T82 l0 x13_1).f1) ((rd_T82 l0 x13_1).f2) ((rd_T82 l0 x13_1).f3) t280 t281 _ A8.out).mono ?_
      rintro e w17 ⟨rfl, hb⟩
      refine ⟨_, rfl, sh3_ (Kd.R_below (ra_ HO_5) hb) (blk_below (bk_ BK279) hb) (below_step (bl1_ HB GE279) hb) ?_⟩
      clear HO_5 BK279 HB hb
      intro HO_5 BK279 HB
      refine hK.out _ _ ⟨v283, v286, v289, v292, v295, v298, (by rw [ha.out]; exact putSel_upk 1 hb_ rfl rfl rfl), (ra_ HO_5), (bk_ BK279), (bl1_ HB GE279), fun h0_ => absurd ((hoff 2 (by kernel_rfl)).symm.trans h0_) (by decide), fun h0_ _ => absurd ((hoff 6 (by kernel_rfl)).symm.trans h0_) (by decide), fun h0_ _ => absurd ((hoff 10 (by kernel_rfl)).symm.trans h0_) (by decide), fun h0_ => absurd ((hoff 11 (by kernel_rfl)).symm.trans h0_) (by decide), fun h0_ => absurd ((hoff 12 (by kernel_rfl)).symm.trans h0_) (by decide), fun h0_ => absurd ((hoff 13 (by kernel_rfl)).symm.trans h0_) (by decide)⟩
     refine steps_cons ?_ ?_
     ·rintro b a w' ⟨v283, v286, v289, v292, v295, v298, ha, Q_HO_5, Q_BK279, Q_HB, Q_HO284, Q_HO287, Q_HO290, Q_HO293, Q_HO296, Q_HO299⟩ hb_ hon hoff
      refine ⟨_, rfl, fun K hK => ?_⟩
      have e18 : a.tmps[18]? = some (.agg #[.int .i64 t280, .int .i64 t281]) := by rw [ha]; exact putSel_on (e := (1, 18, .agg #[.int .i64 t280, .int .i64 t281])) 1 rfl rfl (hon 1 (by kernel_rfl)) rfl
      replace ha := Aside0.mk ha
      have HO_5 := Aside0.mk Q_HO_5
      have BK279 := Aside0.mk Q_BK279
      have HB := Aside0.mk Q_HB
      refine Kd.R_lit_step k73 _ 73 ?hg (N := 19) ?hd (xs := ([(⟨t280, t281⟩ : S73)] : List (S73))) (inner := [.int .i64 t280, .int .i64 t281]) (ok := fun _ => True) (okp := fun _ => True) ?hr ?hp (fun _ hk => hk) trivial (Below.refl _ _) (Nat.le_refl _) (by simp) ?_; (case hd => rfl); (case hg => rfl); (case hr => first | (go_simp; done) | (go_simp; rfl)); (case hp => exact (Reps.c2 (show Kd.M k73 _ _ _ (⟨t280, t281⟩ : S73) [.int .i64 t280, .int .i64 t281] from (k73_mkM _ _ _ (⟨t280, t281⟩ : S73) )) (Reps.none _ _)))
      intro v283 w19 ho20 hb hg_ hnew_
      clear hg_ hnew_
      (first | rw [← Ny282.out] at ho20 | (simp only [Int.reduceToNat] at ho20; rw [← Ny282.out] at ho20))
      have n0_ := Aside0.mk (Kd.R_below (ra_ HO_5) hb)
      have n1_ := Aside0.mk (Kd.R_lower ho20 (below_size (bl1_ HB GE279)))
      have n2_ := Aside0.mk (blk_below (bk_ BK279) hb)
      have n3_ := Aside0.mk (below_step (bl1_ HB GE279) hb)
      have z_HO287 := fun (h0_ : b 6 = true) (h1_ : b 11 = false) => (show Kd.R k73 73 w19 w.heap.size (fun _ => True) v286 t285 from by first | exact (Kd.R_elder' (by (with_reducible repeat (first | apply Kd.R_alloc | apply Kd.R_drewN | apply Kd.R_drew)); exact (Q_HO287 h0_ h1_)) (Kd.R_base ho20) hb) | exact Kd.R_mono (Kd.R_elder' (by (with_reducible repeat (first | apply Kd.R_alloc | apply Kd.R_drewN | apply Kd.R_drew)); exact (Q_HO287 h0_ h1_)) (Kd.R_base ho20) hb) (fun _ h_ => by first | trivial | exact h_ | exact h_.1))
      have z_HO290 := fun (h0_ : b 10 = true) (h1_ : b 11 = false) => (show Kd.R k73 73 w19 w.heap.size (fun _ => True) v289 t288 from by first | exact (Kd.R_elder' (by (with_reducible repeat (first | apply Kd.R_alloc | apply Kd.R_drewN | apply Kd.R_drew)); exact (Q_HO290 h0_ h1_)) (Kd.R_base ho20) hb) | exact Kd.R_mono (Kd.R_elder' (by (with_reducible repeat (first | apply Kd.R_alloc | apply Kd.R_drewN | apply Kd.R_drew)); exact (Q_HO290 h0_ h1_)) (Kd.R_base ho20) hb) (fun _ h_ => by first | trivial | exact h_ | exact h_.1))
      have z_HO293 := fun (h0_ : b 11 = true) => (show Kd.N (Kd.slice 73 k73) 28 w19 w.heap.size (fun k_ => some k_ ≠ (u5 : Value).ownBlock ∧ k_ ≠ gb279) v292 y291 from by first | exact (Kd.N_elder' (by (with_reducible repeat (first | apply Kd.N_alloc | apply Kd.N_drewN | apply Kd.N_drew)); exact (Q_HO293 h0_)) (Kd.R_base ho20) hb) | exact Kd.N_mono (Kd.N_elder' (by (with_reducible repeat (first | apply Kd.N_alloc | apply Kd.N_drewN | apply Kd.N_drew)); exact (Q_HO293 h0_)) (Kd.R_base ho20) hb) (fun _ h_ => by first | trivial | exact h_ | exact h_.1))
      have z_HO296 := fun (h0_ : b 12 = true) => (show Kd.R k73 73 w19 w.heap.size (fun _ => True) v295 t294 from by first | exact (Kd.R_elder' (by (with_reducible repeat (first | apply Kd.R_alloc | apply Kd.R_drewN | apply Kd.R_drew)); exact (Q_HO296 h0_)) (Kd.R_base ho20) hb) | exact Kd.R_mono (Kd.R_elder' (by (with_reducible repeat (first | apply Kd.R_alloc | apply Kd.R_drewN | apply Kd.R_drew)); exact (Q_HO296 h0_)) (Kd.R_base ho20) hb) (fun _ h_ => by first | trivial | exact h_ | exact h_.1))
      clear HO_5
      clear BK279
      clear HB
      have HO_5 := n0_
      have HO284 := n1_
      have BK279 := n2_
      have HB := n3_
      clear n0_ n1_ n2_ n3_
      clear hb ho20
      refine hK.out _ _ ⟨v283, v286, v289, v292, v295, v298, (by rw [ha.out]; exact putSel_upk 2 hb_ rfl rfl rfl), (ra_ HO_5), (bk_ BK279), (bl1_ HB GE279), fun _ => (ro_ HO284), z_HO287, z_HO290, z_HO293, z_HO296, fun h0_ => absurd ((hoff 13 (by kernel_rfl)).symm.trans h0_) (by decide)⟩
     refine steps_cons ?_ ?_
     ·rintro b a w' ⟨v283, v286, v289, v292, v295, v298, ha, Q_HO_5, Q_BK279, Q_HB, Q_HO284, Q_HO287, Q_HO290, Q_HO293, Q_HO296, Q_HO299⟩ hb_ hon hoff
      refine ⟨_, rfl, fun K hK => ?_⟩
      have e21 : a.tmps[21]? = some (.pointer (some ⟨gb279, 0, none⟩)) := by rw [ha]; exact (putSel_off rfl).trans rfl
      replace ha := Aside0.mk ha
      have HO_5 := Aside0.mk Q_HO_5
      have BK279 := Aside0.mk Q_BK279
      have HB := Aside0.mk Q_HB
      have hc0_ : w'.cell? ⟨gb279, 0, none⟩ = some (.int .i64 ((rd_T82 l0 x13_1).f0)) := bc_ BK279 0 rfl
      have hc1_ : w'.cell? ⟨gb279, 1, none⟩ = some (.int .i64 ((rd_T82 l0 x13_1).f1)) := bc_ BK279 1 rfl
      have hc2_ : w'.cell? ⟨gb279, 2, none⟩ = some (.int .i64 ((rd_T82 l0 x13_1).f2)) := bc_ BK279 2 rfl
      have hc3_ : w'.cell? ⟨gb279, 3, none⟩ = some (.int .i64 ((rd_T82 l0 x13_1).f3)) := bc_ BK279 3 rfl
      refine value_ (w1 := w') (v := .int .i64 ((rd_T82 l0 x13_1).f0)) (by rfl) rfl ?_ ?_
      ·go_simp
       (try simp only [i64_w])
       try rfl
      refine hK.out _ _ ⟨v283, v286, v289, v292, v295, v298, (by rw [ha.out]; exact putSel_upk 3 hb_ rfl rfl rfl), Q_HO_5, Q_BK279, Q_HB, Q_HO284, fun h0_ _ => absurd ((hoff 6 (by kernel_rfl)).symm.trans h0_) (by decide), fun h0_ _ => absurd ((hoff 10 (by kernel_rfl)).symm.trans h0_) (by decide), fun h0_ => absurd ((hoff 11 (by kernel_rfl)).symm.trans h0_) (by decide), fun h0_ => absurd ((hoff 12 (by kernel_rfl)).symm.trans h0_) (by decide), fun h0_ => absurd ((hoff 13 (by kernel_rfl)).symm.trans h0_) (by decide)⟩
     refine steps_cons ?_ ?_
     ·rintro b a w' ⟨v283, v286, v289, v292, v295, v298, ha, Q_HO_5, Q_BK279, Q_HB, Q_HO284, Q_HO287, Q_HO290, Q_HO293, Q_HO296, Q_HO299⟩ hb_ hon hoff
      refine ⟨_, rfl, fun K hK => ?_⟩
      have e20 : a.tmps[20]? = some (.slice A1 l1.length c1) := by rw [ha]; exact (putSel_off rfl).trans rfl
      have e22 : a.tmps[22]? = some (.int .i64 ((rd_T82 l0 x13_1).f0)) := by rw [ha]; exact putSel_on (e := (5, 22, .int .i64 ((rd_T82 l0 x13_1).f0))) 3 rfl rfl (hon 5 (by kernel_rfl)) rfl
      replace ha := Aside0.mk ha
      have HO_5 := Aside0.mk Q_HO_5
      have BK279 := Aside0.mk Q_BK279
      have HB := Aside0.mk Q_HB
      refine goes_ Try.func62 (by kernel_rfl) rfl #[.slice A1 l1.length c1, .int .i64 ((rd_T82 l0 x13_1).f0)] (by rfl) rfl rfl (by first | (simp only [List.map_toArray, List.map_cons, List.map_nil, Act.eval, Array.getD_eq_getD_getElem?, Option.getD_some, e20, e22]; done) | (simp only [List.map_toArray, List.map_cons, List.map_nil, Act.eval, Array.getD_eq_getD_getElem?, Option.getD_some, e20, e22]; rfl)) ?_
      with_reducible refine (impl_CloudSpans.calls k1 _ _ l1 ((rd_T82 l0 x13_1).f0) t285 _ ?side1 ?side2 A9.out).mono ?_
      (case side1 => exact ck_ HR1 HB)
      (case side2 => exact HC1.out)
      rintro e w19 ⟨v286, rfl, ho0, hb⟩
      refine ⟨_, rfl, ?_⟩
      have n0_ := Aside0.mk (Kd.R_below (ra_ HO_5) hb)
      have n1_ := Aside0.mk (Kd.R_lower ho0 (below_size (bl1_ HB GE279)))
      have n2_ := Aside0.mk (blk_below (bk_ BK279) hb)
      have n3_ := Aside0.mk (below_step (bl1_ HB GE279) hb)
      have z_HO284 := fun (h0_ : b 2 = true) => (show Kd.R k73 73 w19 w.heap.size (fun _ => True) v283 y282 from by first | exact (Kd.R_elder' (by (with_reducible repeat (first | apply Kd.R_alloc | apply Kd.R_drewN | apply Kd.R_drew)); exact (Q_HO284 h0_)) (Kd.R_base ho0) hb) | exact Kd.R_mono (Kd.R_elder' (by (with_reducible repeat (first | apply Kd.R_alloc | apply Kd.R_drewN | apply Kd.R_drew)); exact (Q_HO284 h0_)) (Kd.R_base ho0) hb) (fun _ h_ => by first | trivial | exact h_ | exact h_.1))
      clear HO_5
      clear BK279
      clear HB
      have HO_5 := n0_
      have HO287 := n1_
      have BK279 := n2_
      have HB := n3_
      clear n0_ n1_ n2_ n3_
      (try clear hb)
      (try clear hb2)
      (try clear hk)
      (try clear hi)
      (try clear ho0)
      refine hK.out _ _ ⟨v283, v286, v289, v292, v295, v298, (by rw [ha.out]; exact putSel_upk 4 hb_ rfl rfl rfl), (ra_ HO_5), (bk_ BK279), (bl1_ HB GE279), z_HO284, fun _ _ => (ra_ HO287), fun h0_ _ => absurd ((hoff 10 (by kernel_rfl)).symm.trans h0_) (by decide), fun h0_ => absurd ((hoff 11 (by kernel_rfl)).symm.trans h0_) (by decide), fun h0_ => absurd ((hoff 12 (by kernel_rfl)).symm.trans h0_) (by decide), fun h0_ => absurd ((hoff 13 (by kernel_rfl)).symm.trans h0_) (by decide)⟩
     refine steps_cons ?_ ?_
     ·rintro b a w' ⟨v283, v286, v289, v292, v295, v298, ha, Q_HO_5, Q_BK279, Q_HB, Q_HO284, Q_HO287, Q_HO290, Q_HO293, Q_HO296, Q_HO299⟩ hb_ hon hoff
      refine ⟨_, rfl, fun K hK => ?_⟩
      have e25 : a.tmps[25]? = some (.pointer (some ⟨gb279, 1, none⟩)) := by rw [ha]; exact (putSel_off rfl).trans rfl
      replace ha := Aside0.mk ha
      have HO_5 := Aside0.mk Q_HO_5
      have BK279 := Aside0.mk Q_BK279
      have HB := Aside0.mk Q_HB
      have hc0_ : w'.cell? ⟨gb279, 0, none⟩ = some (.int .i64 ((rd_T82 l0 x13_1).f0)) := bc_ BK279 0 rfl
      have hc1_ : w'.cell? ⟨gb279, 1, none⟩ = some (.int .i64 ((rd_T82 l0 x13_1).f1)) := bc_ BK279 1 rfl
      have hc2_ : w'.cell? ⟨gb279, 2, none⟩ = some (.int .i64 ((rd_T82 l0 x13_1).f2)) := bc_ BK279 2 rfl
      have hc3_ : w'.cell? ⟨gb279, 3, none⟩ = some (.int .i64 ((rd_T82 l0 x13_1).f3)) := bc_ BK279 3 rfl
      refine value_ (w1 := w') (v := .int .i64 ((rd_T82 l0 x13_1).f1)) (by rfl) rfl ?_ ?_
      ·go_simp
       (try simp only [i64_w])
       try rfl
      refine hK.out _ _ ⟨v283, v286, v289, v292, v295, v298, (by rw [ha.out]; exact putSel_upk 5 hb_ rfl rfl rfl), Q_HO_5, Q_BK279, Q_HB, Q_HO284, Q_HO287, fun h0_ _ => absurd ((hoff 10 (by kernel_rfl)).symm.trans h0_) (by decide), fun h0_ => absurd ((hoff 11 (by kernel_rfl)).symm.trans h0_) (by decide), fun h0_ => absurd ((hoff 12 (by kernel_rfl)).symm.trans h0_) (by decide), fun h0_ => absurd ((hoff 13 (by kernel_rfl)).symm.trans h0_) (by decide)⟩
     refine steps_cons ?_ ?_
     ·rintro b a w' ⟨v283, v286, v289, v292, v295, v298, ha, Q_HO_5, Q_BK279, Q_HB, Q_HO284, Q_HO287, Q_HO290, Q_HO293, Q_HO296, Q_HO299⟩ hb_ hon hoff
      refine ⟨_, rfl, fun K hK => ?_⟩
      have e24 : a.tmps[24]? = some (.slice A1 l1.length c1) := by rw [ha]; exact (putSel_off rfl).trans rfl
      have e26 : a.tmps[26]? = some (.int .i64 ((rd_T82 l0 x13_1).f1)) := by rw [ha]; exact putSel_on (e := (9, 26, .int .i64 ((rd_T82 l0 x13_1).f1))) 5 rfl rfl (hon 9 (by kernel_rfl)) rfl
      replace ha := Aside0.mk ha
      have HO_5 := Aside0.mk Q_HO_5
      have BK279 := Aside0.mk Q_BK279
      have HB := Aside0.mk Q_HB
      have HO287 := Aside0.mk (Q_HO287 (hon 6 (by kernel_rfl)) (hoff 11 (by kernel_rfl)))
      refine goes_ Try.func62 (by kernel_rfl) rfl #[.slice A1 l1.length c1, .int .i64 ((rd_T82 l0 x13_1).f1)] (by rfl) rfl rfl (by first | (simp only [List.map_toArray, List.map_cons, List.map_nil, Act.eval, Array.getD_eq_getD_getElem?, Option.getD_some, e24, e26]; done) | (simp only [List.map_toArray, List.map_cons, List.map_nil, Act.eval, Array.getD_eq_getD_getElem?, Option.getD_some, e24, e26]; rfl)) ?_
      with_reducible refine (impl_CloudSpans.calls k1 _ _ l1 ((rd_T82 l0 x13_1).f1) t288 _ ?side1 ?side2 A10.out).mono ?_
      (case side1 => exact ck_ HR1 HB)
      (case side2 => exact HC1.out)
      rintro e w20 ⟨v289, rfl, ho0, hb⟩
      refine ⟨_, rfl, ?_⟩
      have n0_ := Aside0.mk (Kd.R_below (ra_ HO_5) hb)
      have n1_ := Aside0.mk (Kd.R_elder' (ra_ HO287) (Kd.R_base ho0) hb)
      have n2_ := Aside0.mk (Kd.R_lower (Kd.R_new' ho0 (Kd.R_lt (ra_ HO287))) (below_size (bl1_ HB GE279)))
      have n3_ := Aside0.mk (blk_below (bk_ BK279) hb)
      have n4_ := Aside0.mk (below_step (bl1_ HB GE279) hb)
      have z_HO284 := fun (h0_ : b 2 = true) => (show Kd.R k73 73 w20 w.heap.size (fun _ => True) v283 y282 from by first | exact (Kd.R_elder' (by (with_reducible repeat (first | apply Kd.R_alloc | apply Kd.R_drewN | apply Kd.R_drew)); exact (Q_HO284 h0_)) (Kd.R_base ho0) hb) | exact Kd.R_mono (Kd.R_elder' (by (with_reducible repeat (first | apply Kd.R_alloc | apply Kd.R_drewN | apply Kd.R_drew)); exact (Q_HO284 h0_)) (Kd.R_base ho0) hb) (fun _ h_ => by first | trivial | exact h_ | exact h_.1))
      clear HO_5
      clear HO287
      clear BK279
      clear HB
      have HO_5 := n0_
      have HO287 := n1_
      have HO290 := n2_
      have BK279 := n3_
      have HB := n4_
      clear n0_ n1_ n2_ n3_ n4_
      (try clear hb)
      (try clear hb2)
      (try clear hk)
      (try clear hi)
      (try clear ho0)
      refine hK.out _ _ ⟨v283, v286, v289, v292, v295, v298, (by rw [ha.out]; exact putSel_upk 6 hb_ rfl rfl rfl), (ra_ HO_5), (bk_ BK279), (bl1_ HB GE279), z_HO284, fun _ _ => (ro_ HO287), fun _ _ => (ro_ HO290), fun h0_ => absurd ((hoff 11 (by kernel_rfl)).symm.trans h0_) (by decide), fun h0_ => absurd ((hoff 12 (by kernel_rfl)).symm.trans h0_) (by decide), fun h0_ => absurd ((hoff 13 (by kernel_rfl)).symm.trans h0_) (by decide)⟩
     refine steps_cons ?_ ?_
     ·rintro b a w' ⟨v283, v286, v289, v292, v295, v298, ha, Q_HO_5, Q_BK279, Q_HB, Q_HO284, Q_HO287, Q_HO290, Q_HO293, Q_HO296, Q_HO299⟩ hb_ hon hoff
      refine ⟨_, rfl, fun K hK => ?_⟩
      have e23 : a.tmps[23]? = some (v286) := by rw [ha]; exact putSel_on (e := (6, 23, v286)) 4 rfl rfl (hon 6 (by kernel_rfl)) rfl
      have e27 : a.tmps[27]? = some (v289) := by rw [ha]; exact putSel_on (e := (10, 27, v289)) 6 rfl rfl (hon 10 (by kernel_rfl)) rfl
      replace ha := Aside0.mk ha
      have HO_5 := Aside0.mk Q_HO_5
      have BK279 := Aside0.mk Q_BK279
      have HB := Aside0.mk Q_HB
      have HO287 := Aside0.mk (Q_HO287 (hon 6 (by kernel_rfl)) hb_)
      have HO290 := Aside0.mk (Q_HO290 (hon 10 (by kernel_rfl)) hb_)
      obtain ⟨Ao21, co21, eo21⟩ := Kd.R_slice HO287.out
      (first | subst eo21 | (injection eo21 with f1_ f2_ f3_; have f4_ := f1_.symm; have f5_ := f3_.symm; clear f1_ f2_ f3_; subst f4_; subst f5_))
      obtain ⟨Ao22, co22, eo22⟩ := Kd.R_slice HO290.out
      (first | subst eo22 | (injection eo22 with f1_ f2_ f3_; have f4_ := f1_.symm; have f5_ := f3_.symm; clear f1_ f2_ f3_; subst f4_; subst f5_))
      refine Kd.N_lit_step (Kd.slice 73 k73) _ 28 ?hg (N' := 28) ?hd (xs := ([t285, t288] : List (List (S73)))) (inner := [.slice Ao21 t285.length co21, .slice Ao22 t288.length co22]) (ok := (fun k_ => some k_ ≠ (u5 : Value).ownBlock ∧ k_ ≠ gb279)) (okp := (fun k_ => some k_ ≠ (u5 : Value).ownBlock ∧ k_ ≠ gb279)) ?hr ?hp (fun _ hk => hk) ((show ∀ k_, w'.heap.size ≤ k_ → (fun k_ => some k_ ≠ (u5 : Value).ownBlock ∧ k_ ≠ gb279) k_ from fun k_ hk => ⟨Kd.fresh' (Kd.R_lt (ra_ HO_5)) k_ hk, Kd.freshB (g := gb279) (o := .cells #[.int .i64 ((rd_T82 l0 x13_1).f0), .int .i64 ((rd_T82 l0 x13_1).f1), .int .i64 ((rd_T82 l0 x13_1).f2), .int .i64 ((rd_T82 l0 x13_1).f3)] 82 (0, 0)) (bk_ BK279) k_ hk⟩) _ (Nat.le_refl _)) (Below.refl _ _) (Nat.le_refl _) (by simp) ?_; (case hd => rfl); (case hg => rfl); (case hr => first | (go_simp; done) | (go_simp; rfl)); (case hp => exact (Reps.one (show Kd.FK (Kd.slice 73 k73) _ _ t285 [.slice Ao21 t285.length co21] from (Kd.FK_slice_mk (Kd.R_reads' (Kd.R_mono (ok' := (fun k_ => some k_ ≠ (u5 : Value).ownBlock ∧ k_ ≠ gb279)) (Kd.R_types (Kd.R_apart' (HO287.out) (Kd.R_typed HO_5.out) (by decide)) BK279.out (by decide)) (fun k_ hk => ⟨hk.1.2, hk.2⟩))).2.1 (Kd.R_F (Kd.R_mono (ok' := (fun k_ => some k_ ≠ (u5 : Value).ownBlock ∧ k_ ≠ gb279)) (Kd.R_types (Kd.R_apart' (HO287.out) (Kd.R_typed HO_5.out) (by decide)) BK279.out (by decide)) (fun k_ hk => ⟨hk.1.2, hk.2⟩))))) (Reps.one (show Kd.FK (Kd.slice 73 k73) _ _ t288 [.slice Ao22 t288.length co22] from (Kd.FK_slice_mk (Kd.R_reads' (Kd.R_mono (ok' := (fun k_ => some k_ ≠ (u5 : Value).ownBlock ∧ k_ ≠ gb279)) (Kd.R_types (Kd.R_apart' (HO290.out) (Kd.R_typed HO_5.out) (by decide)) BK279.out (by decide)) (fun k_ hk => ⟨hk.1.2, hk.2⟩))).2.1 (Kd.R_F (Kd.R_mono (ok' := (fun k_ => some k_ ≠ (u5 : Value).ownBlock ∧ k_ ≠ gb279)) (Kd.R_types (Kd.R_apart' (HO290.out) (Kd.R_typed HO_5.out) (by decide)) BK279.out (by decide)) (fun k_ hk => ⟨hk.1.2, hk.2⟩))))) (Reps.none _ _))))
      intro v292 w23 ho24 hb hg_ hnew_
      clear hg_ hnew_
      (first | rw [← Ny291.out] at ho24 | (simp only [Int.reduceToNat] at ho24; rw [← Ny291.out] at ho24))
      have n0_ := Aside0.mk (Kd.R_below (ra_ HO_5) hb)
      have n1_ := Aside0.mk (Kd.N_lower ho24 (below_size (bl1_ HB GE279)))
      have n2_ := Aside0.mk (blk_below (bk_ BK279) hb)
      have n3_ := Aside0.mk (below_step (bl1_ HB GE279) hb)
      have z_HO284 := fun (h0_ : b 2 = true) => (show Kd.R k73 73 w23 w.heap.size (fun _ => True) v283 y282 from by first | exact (Kd.R_below (by (with_reducible repeat (first | apply Kd.R_alloc | apply Kd.R_drewN | apply Kd.R_drew)); exact (Q_HO284 h0_)) hb) | exact Kd.R_mono (Kd.R_below (by (with_reducible repeat (first | apply Kd.R_alloc | apply Kd.R_drewN | apply Kd.R_drew)); exact (Q_HO284 h0_)) hb) (fun _ h_ => by first | trivial | exact h_ | exact h_.1))
      clear HO_5
      clear BK279
      clear HB
      clear HO287
      clear HO290
      have HO_5 := n0_
      have HO293 := n1_
      have BK279 := n2_
      have HB := n3_
      clear n0_ n1_ n2_ n3_
      clear hb ho24
      refine hK.out _ _ ⟨v283, .slice Ao21 t285.length co21, .slice Ao22 t288.length co22, v292, v295, v298, (by rw [ha.out]; exact putSel_upk 7 hb_ rfl rfl rfl), (ra_ HO_5), (bk_ BK279), (bl1_ HB GE279), z_HO284, fun _ h1_ => absurd ((up_self b 11).symm.trans h1_) (by decide), fun _ h1_ => absurd ((up_self b 11).symm.trans h1_) (by decide), fun _ => (nro_ HO293), fun h0_ => absurd ((hoff 12 (by kernel_rfl)).symm.trans h0_) (by decide), fun h0_ => absurd ((hoff 13 (by kernel_rfl)).symm.trans h0_) (by decide)⟩
     refine steps_cons ?_ ?_
     ·rintro b a w' ⟨v283, v286, v289, v292, v295, v298, ha, Q_HO_5, Q_BK279, Q_HB, Q_HO284, Q_HO287, Q_HO290, Q_HO293, Q_HO296, Q_HO299⟩ hb_ hon hoff
      refine ⟨_, rfl, fun K hK => ?_⟩
      have e28 : a.tmps[28]? = some (v292) := by rw [ha]; exact putSel_on (e := (11, 28, v292)) 7 rfl rfl (hon 11 (by kernel_rfl)) rfl
      replace ha := Aside0.mk ha
      have HO_5 := Aside0.mk Q_HO_5
      have BK279 := Aside0.mk Q_BK279
      have HB := Aside0.mk Q_HB
      have HO293 := Aside0.mk (Q_HO293 (hon 11 (by kernel_rfl)))
      obtain ⟨Ao25, co25, eo25⟩ := Kd.N_slice HO293.out
      (first | subst eo25 | (injection eo25 with f1_ f2_ f3_; have f4_ := f1_.symm; have f5_ := f3_.symm; clear f1_ f2_ f3_; subst f4_; subst f5_))
      refine goes_ Try.func49 (by kernel_rfl) rfl #[.slice Ao25 y291.length co25] (by rfl) rfl rfl (by first | (simp only [List.map_toArray, List.map_cons, List.map_nil, Act.eval, Array.getD_eq_getD_getElem?, Option.getD_some, e28]; done) | (simp only [List.map_toArray, List.map_cons, List.map_nil, Act.eval, Array.getD_eq_getD_getElem?, Option.getD_some, e28]; rfl)) ?_
      with_reducible refine (impl_Span_49.calls k1 _ _ y291 t294 _ ?side1 ?side2 A11.out).mono ?_
      (case side1 => repeat (first | exact (Kd.N_reads' HO293.out).2.2 | (with_reducible refine Kd.C_alloc ?_ _) | (with_reducible refine Kd.C_drewN ?_ _) | (with_reducible refine Kd.C_drew ?_)))
      (case side2 => exact (Kd.N_reads' HO293.out).2.1)
      rintro e w26 ⟨v295, rfl, ho0, hb⟩
      refine ⟨_, rfl, ?_⟩
      have n0_ := Aside0.mk (Kd.R_below (ra_ HO_5) hb)
      have n1_ := Aside0.mk (Kd.N_elder' (by (with_reducible repeat (first | apply Kd.N_alloc | apply Kd.N_drewN | apply Kd.N_drew)); exact HO293.out) (Kd.R_base ho0) hb)
      have n2_ := Aside0.mk (Kd.R_lower ho0 (below_size (bl1_ HB GE279)))
      have n3_ := Aside0.mk (blk_below (bk_ BK279) hb)
      have n4_ := Aside0.mk (below_step (bl1_ HB GE279) hb)
      have z_HO284 := fun (h0_ : b 2 = true) => (show Kd.R k73 73 w26 w.heap.size (fun _ => True) v283 y282 from by first | exact (Kd.R_elder' (by (with_reducible repeat (first | apply Kd.R_alloc | apply Kd.R_drewN | apply Kd.R_drew)); exact (Q_HO284 h0_)) (Kd.R_base ho0) hb) | exact Kd.R_mono (Kd.R_elder' (by (with_reducible repeat (first | apply Kd.R_alloc | apply Kd.R_drewN | apply Kd.R_drew)); exact (Q_HO284 h0_)) (Kd.R_base ho0) hb) (fun _ h_ => by first | trivial | exact h_ | exact h_.1))
      clear HO_5
      clear HO293
      clear BK279
      clear HB
      have HO_5 := n0_
      have HO293 := n1_
      have HO296 := n2_
      have BK279 := n3_
      have HB := n4_
      clear n0_ n1_ n2_ n3_ n4_
      (try clear hb)
      (try clear hb2)
      (try clear hk)
      (try clear hi)
      (try clear ho0)
      refine hK.out _ _ ⟨v283, v286, v289, .slice Ao25 y291.length co25, v295, v298, (by rw [ha.out]; exact putSel_upk 8 hb_ rfl rfl rfl), (ra_ HO_5), (bk_ BK279), (bl1_ HB GE279), z_HO284, fun _ h1_ => absurd ((hon 11 (by kernel_rfl)).symm.trans h1_) (by decide), fun _ h1_ => absurd ((hon 11 (by kernel_rfl)).symm.trans h1_) (by decide), fun _ => (nro_ HO293), fun _ => (ro_ HO296), fun h0_ => absurd ((hoff 13 (by kernel_rfl)).symm.trans h0_) (by decide)⟩
     refine steps_cons ?_ ?_
     ·rintro b a w' ⟨v283, v286, v289, v292, v295, v298, ha, Q_HO_5, Q_BK279, Q_HB, Q_HO284, Q_HO287, Q_HO290, Q_HO293, Q_HO296, Q_HO299⟩ hb_ hon hoff
      refine ⟨_, rfl, fun K hK => ?_⟩
      have e19 : a.tmps[19]? = some (v283) := by rw [ha]; exact putSel_on (e := (2, 19, v283)) 2 rfl rfl (hon 2 (by kernel_rfl)) rfl
      have e29 : a.tmps[29]? = some (v295) := by rw [ha]; exact putSel_on (e := (12, 29, v295)) 8 rfl rfl (hon 12 (by kernel_rfl)) rfl
      replace ha := Aside0.mk ha
      have HO_5 := Aside0.mk Q_HO_5
      have BK279 := Aside0.mk Q_BK279
      have HB := Aside0.mk Q_HB
      have HO284 := Aside0.mk (Q_HO284 (hon 2 (by kernel_rfl)))
      have HO293 := Aside0.mk (Q_HO293 (hon 11 (by kernel_rfl)))
      have HO296 := Aside0.mk (Q_HO296 (hon 12 (by kernel_rfl)))
      obtain ⟨Ao29, co29, eo29⟩ := Kd.R_slice HO284.out
      (first | subst eo29 | (injection eo29 with f1_ f2_ f3_; have f4_ := f1_.symm; have f5_ := f3_.symm; clear f1_ f2_ f3_; subst f4_; subst f5_))
      obtain ⟨Ao30, co30, eo30⟩ := Kd.R_slice HO296.out
      (first | subst eo30 | (injection eo30 with f1_ f2_ f3_; have f4_ := f1_.symm; have f5_ := f3_.symm; clear f1_ f2_ f3_; subst f4_; subst f5_))
      refine goes_ Try.func48 (by kernel_rfl) rfl #[.slice Ao29 y282.length co29, .slice Ao30 t294.length co30] (by rfl) rfl rfl (by first | (simp only [List.map_toArray, List.map_cons, List.map_nil, Act.eval, Array.getD_eq_getD_getElem?, Option.getD_some, e19, e29]; done) | (simp only [List.map_toArray, List.map_cons, List.map_nil, Act.eval, Array.getD_eq_getD_getElem?, Option.getD_some, e19, e29]; rfl)) ?_
      with_reducible refine (impl_CutSpans.calls k1 _ _ y282 _ _ t294 t297 _ ?side1 ?side2 ?side3 ?side4 A12.out).mono ?_
      (case side1 => repeat (first | exact (Kd.R_reads' HO284.out).2.2 | (with_reducible refine Kd.C_alloc ?_ _) | (with_reducible refine Kd.C_drewN ?_ _) | (with_reducible refine Kd.C_drew ?_)))
      (case side2 => exact (Kd.R_reads' HO284.out).2.1)
      (case side3 => repeat (first | exact (Kd.R_reads' HO296.out).2.2 | (with_reducible refine Kd.C_alloc ?_ _) | (with_reducible refine Kd.C_drewN ?_ _) | (with_reducible refine Kd.C_drew ?_)))
      (case side4 => exact (Kd.R_reads' HO296.out).2.1)
      rintro e w31 ⟨v298, rfl, ho0, hb⟩
      refine ⟨_, rfl, sh7_ (Kd.R_below (ra_ HO_5) hb) (Kd.R_elder' (ra_ HO284) (Kd.R_base ho0) hb) (Kd.N_elder' (by (with_reducible repeat (first | apply Kd.N_alloc | apply Kd.N_drewN | apply Kd.N_drew)); exact HO293.out) (Kd.R_base ho0) hb) (Kd.R_elder' (ra_ HO296) (Kd.R_base ho0) hb) (Kd.R_lower (Kd.R_new' (Kd.R_new' ho0 (Kd.R_lt (ra_ HO284))) (Kd.R_lt (ra_ HO296))) (below_size (bl1_ HB GE279))) (blk_below (bk_ BK279) hb) (below_step (bl1_ HB GE279) hb) ?_⟩
      clear HO_5 HO284 HO293 HO296 BK279 HB hb ho0
      intro HO_5 HO284 HO293 HO296 HO299 BK279 HB
      obtain ⟨Ao32, co32, eo32⟩ := Kd.R_slice HO299.out
      (first | subst eo32 | (injection eo32 with f1_ f2_ f3_; have f4_ := f1_.symm; have f5_ := f3_.symm; clear f1_ f2_ f3_; subst f4_; subst f5_))
      refine hK.out _ _ ⟨.slice Ao29 y282.length co29, v286, v289, v292, .slice Ao30 t294.length co30, .slice Ao32 t297.length co32, (by rw [ha.out]; exact putSel_upk 9 hb_ rfl rfl rfl), (ra_ HO_5), (bk_ BK279), (bl1_ HB GE279), fun _ => (ro_ HO284), fun _ h1_ => absurd ((hon 11 (by kernel_rfl)).symm.trans h1_) (by decide), fun _ h1_ => absurd ((hon 11 (by kernel_rfl)).symm.trans h1_) (by decide), fun _ => (nro_ HO293), fun _ => (ro_ HO296), fun _ => (ro_ HO299)⟩
     refine steps_cons ?_ ?_
     ·rintro b a w' ⟨v283, v286, v289, v292, v295, v298, ha, Q_HO_5, Q_BK279, Q_HB, Q_HO284, Q_HO287, Q_HO290, Q_HO293, Q_HO296, Q_HO299⟩ hb_ hon hoff
      refine ⟨_, rfl, fun K hK => ?_⟩
      have e30 : a.tmps[30]? = some (v298) := by rw [ha]; exact putSel_on (e := (13, 30, v298)) 9 rfl rfl (hon 13 (by kernel_rfl)) rfl
      replace ha := Aside0.mk ha
      have HO_5 := Aside0.mk Q_HO_5
      have BK279 := Aside0.mk Q_BK279
      have HB := Aside0.mk Q_HB
      have HO284 := Aside0.mk (Q_HO284 (hon 2 (by kernel_rfl)))
      have HO293 := Aside0.mk (Q_HO293 (hon 11 (by kernel_rfl)))
      have HO296 := Aside0.mk (Q_HO296 (hon 12 (by kernel_rfl)))
      have HO299 := Aside0.mk (Q_HO299 (hon 13 (by kernel_rfl)))
      obtain ⟨Ao14_0, co14_0, eo_⟩ := Kd.R_slice HO299.out
      subst eo_
      refine value_ (w1 := w') (v := .int .i64 (t297.length : Int)) (by rfl) rfl ?_ ?_
      ·go_simp
       (try simp only [i64_w])
       try rfl
      refine hK.out _ _ ⟨v283, v286, v289, v292, v295, .slice Ao14_0 t297.length co14_0, (by rw [ha.out]; exact putSel_upk 10 hb_ rfl rfl rfl), Q_HO_5, Q_BK279, Q_HB, Q_HO284, fun _ h1_ => absurd ((hon 11 (by kernel_rfl)).symm.trans h1_) (by decide), fun _ h1_ => absurd ((hon 11 (by kernel_rfl)).symm.trans h1_) (by decide), Q_HO293, Q_HO296, Q_HO299⟩
     exact steps_nil
    rintro b a w32 hall ⟨v283, v286, v289, v292, v295, v298, ha, Q_HO_5, Q_BK279, Q_HB, Q_HO284, Q_HO287, Q_HO290, Q_HO293, Q_HO296, Q_HO299⟩
    clear BK279 HB HO_5
    have hb0_ := hall 0 (by kernel_rfl)
    have hb1_ := hall 1 (by kernel_rfl)
    have hb2_ := hall 2 (by kernel_rfl)
    have hb5_ := hall 5 (by kernel_rfl)
    have hb6_ := hall 6 (by kernel_rfl)
    have hb9_ := hall 9 (by kernel_rfl)
    have hb10_ := hall 10 (by kernel_rfl)
    have hb11_ := hall 11 (by kernel_rfl)
    have hb12_ := hall 12 (by kernel_rfl)
    have hb13_ := hall 13 (by kernel_rfl)
    have hb14_ := hall 14 (by kernel_rfl)
    subst ha
    simp only [putSel, hb0_, hb1_, hb2_, hb5_, hb6_, hb9_, hb10_, hb11_, hb12_, hb13_, hb14_, if_true, Act.put, List.setIfInBounds_toArray, List.set_cons_zero, List.set_cons_succ]
    have HO_5 := Aside0.mk Q_HO_5
    clear Q_HO_5
    have BK279 := Aside0.mk Q_BK279
    clear Q_BK279
    have HB := Aside0.mk Q_HB
    clear Q_HB
    have HO284 := Aside0.mk (Q_HO284 hb2_)
    clear Q_HO284
    clear Q_HO287
    clear Q_HO290
    have HO293 := Aside0.mk (Q_HO293 hb11_)
    clear Q_HO293
    have HO296 := Aside0.mk (Q_HO296 hb12_)
    clear Q_HO296
    have HO299 := Aside0.mk (Q_HO299 hb13_)
    clear Q_HO299
    clear hall hb0_ hb1_ hb2_ hb5_ hb6_ hb9_ hb10_ hb11_ hb12_ hb13_ hb14_
    obtain ⟨Ao33, co33, eo33⟩ := Kd.R_slice HO299.out
    (first | subst eo33 | (injection eo33 with f1_ f2_ f3_; have f4_ := f1_.symm; have f5_ := f3_.symm; clear f1_ f2_ f3_; subst f4_; subst f5_))
    try go_wp2
    go_loopg [5, 32] k1 (fun kq v5 v32 w' => ∃ (x5_2 : List (S82)) (x32_2 : Int), v32 = .int .i64 x32_2 ∧ Aside0 (impl_CutClouds.l1 kq l1 x5_2 l0 (l0.length : Int) x13_1 t297 (t297.length : Int) x32_2 ((rd_T82 l0 x13_1).f0) ((rd_T82 l0 x13_1).f1) ((rd_T82 l0 x13_1).f2) ((rd_T82 l0 x13_1).f3) = some r) ∧ Aside0 (kq ≤ k1) ∧ Aside0 (Kd.R k82 82 w' w.heap.size (fun k_ => k_ ≠ gb279) v5 x5_2) ∧ Aside0 (Kd.R k73 73 w' w.heap.size (fun _ => True) (.slice Ao33 t297.length co33) t297) ∧ Aside0 (w'.heap[gb279]? = some (.cells #[.int .i64 ((rd_T82 l0 x13_1).f0), .int .i64 ((rd_T82 l0 x13_1).f1), .int .i64 ((rd_T82 l0 x13_1).f2), .int .i64 ((rd_T82 l0 x13_1).f3)] 82 (0, 0))) ∧ Aside0 (Below w.heap.size w w'))
    case atStart => exact ⟨(x5_1), (0), (by first | rfl | (simp; done) | (simp [*]; done)), H', ⟨Nat.le_refl _⟩, ⟨ra_ HO_5⟩, ⟨by (with_reducible repeat (first | apply Kd.R_alloc | apply Kd.R_drewN | apply Kd.R_drew)); exact Kd.R_mono HO299.out (fun _ hk => trivial)⟩, ⟨by (with_reducible repeat (first | refine blk_drewN ?_ _ | refine blk_drew ?_ | refine blk_alloc ?_ _)); exact BK279.out⟩, ⟨bl1_ HB GE279⟩⟩
    case round =>
     clear H'
     try clear c1
     try clear c2
     try clear p2
     try clear q2
     try clear hx2
     try clear c3
     try clear c4
     try clear c5
     try clear c5b0
     try clear c6
     try clear c6b0
     try clear c7
     try clear c7b0
     try clear c23
     try clear p27
     try clear q27
     try clear hx27
     try clear hcz14
     try clear hx278_0
     try clear hx278_1
     try clear hx278_2
     try clear hx278_3
     try clear p2
     try clear p278
     try clear q278
     obtain ⟨x5_2, x32_2, rfl, HA, HK2, HO_5, HO_30, BK279, HB⟩ := hrel
     cases gk with
     | zero => exact absurd HA.out (by simp [impl_CutClouds.l1])
     | succ k2 =>
      have H := HA.out
      clear HA
      simp only [impl_CutClouds.l1] at H
      by_cases c34 : x32_2 < (t297.length : Int)
      ·rw [if_pos c34] at H
       have c34b0 := decide_eq_true c34
       clear c34
       replace H := ifn_ H
       obtain ⟨c35, H⟩ := H
       have c35b0 := decide_eq_true c35
       clear c35
       replace H := ifn_ H
       obtain ⟨c36, H⟩ := H
       have c36b0 := decide_eq_true c36
       clear c36
       replace H := ifn_ H
       obtain ⟨c37, H⟩ := H
       have LMc37 := Aside0.mk c37
       clear c37
       replace H : ∃ y_ : List (S82), Aside0 (y_ = (x5_2 ++ [(⟨((rd_T82 l0 x13_1).f0), ((rd_T82 l0 x13_1).f1), (rd_T73 t297 x32_2).f0, (rd_T73 t297 x32_2).f1⟩ : S82)])) ∧ (impl_CutClouds.l1 k2 l1 y_ l0 (l0.length : Int) x13_1 t297 (t297.length : Int) (wrap64 (x32_2 + 1)) ((rd_T82 l0 x13_1).f0) ((rd_T82 l0 x13_1).f1) ((rd_T82 l0 x13_1).f2) ((rd_T82 l0 x13_1).f3)) = some r := ⟨_, ⟨rfl⟩, yh_ H⟩
       obtain ⟨y302, Ny302, H⟩ := H
       have H' := Aside0.mk H
       clear H
       have p300 : 0 ≤ (x32_2 : Int) := od_
       have q300 : x32_2 < (t297.length : Int) := od_
       obtain ⟨ad300, e300, hx300_0, hx300_1⟩ := at_T73 (Kd.R_reads' HO_30.out).2.2 x32_2 p300 q300
       cases e300
       replace p300 := eq_true p300
       replace q300 := eq_true q300
       go_wp2_with (first | ((with_reducible refine gd_ 9 ?_); refine bx_ 9 73 #[.int .i64 0, .int .i64 0] ?_; intro gb301 hg w38 hbox hb; refine sh9_ (Kd.R_below (ra_ HO_5) hb) (Kd.R_below (Kd.R_elderB (ra_ HO_30) gb301 (Nat.le_of_eq hg.symm)) hb) (blk_below (bk_ BK279) hb) (below_step (bl1_ HB GE279) hb) hbox (ge_ hg (bl1_ HB GE279)) (ge_ hg (bl1_ HB GE279)) (nl_ hg (bk_ BK279)) (ng_ hg (bk_ BK279)) ?_; clear HO_5 HO_30 BK279 HB hb hbox hg; intro HO_5 HO_30 BK279 HB BK301 GW301 GE301 NB279_301 NB301_279; have hnb39 := NB301_279.out; have hnc39 := NB279_301.out; have hcz40 := cf2_ BK301; have hcz41 := cf4_ BK279) | ((with_reducible refine gate_builtin (b := .append) (xs := #[.tmp 36, .tmp 46]) rfl ?_); at_builtin; refine Kd.R_append k82 (w0 := w) w.heap.size rfl (.tmp 36) (.tmp 46) 45 82 (.agg #[(.int .i64 0), (.int .i64 0), (.int .i64 0), (.int .i64 0)]) 32 rfl Try.underlying45 info82 rfl (by decide) (by omega) u5 x5_2 (⟨((rd_T82 l0 x13_1).f0), ((rd_T82 l0 x13_1).f1), (rd_T73 t297 x32_2).f0, (rd_T73 t297 x32_2).f1⟩ : S82) [.int .i64 ((rd_T82 l0 x13_1).f0), .int .i64 ((rd_T82 l0 x13_1).f1), .int .i64 ((rd_T73 t297 x32_2).f0), .int .i64 ((rd_T73 t297 x32_2).f1)] (fun k_ => k_ ≠ gb279) (fun _ => False) rfl (by first | (go_simp; done) | (go_simp; rfl)) ?aP (fun _ hk => hk.elim) ?aF ?aO ?aB ?aS ?aL ?_; (case aP => exact k82_mkM _ _ _ (⟨((rd_T82 l0 x13_1).f0), ((rd_T82 l0 x13_1).f1), (rd_T73 t297 x32_2).f0, (rd_T73 t297 x32_2).f1⟩ : S82)); (case aB => exact (bl2_ HB GE279 GE301)); (case aF => exact (fun k_ hk => Kd.freshB (g := gb279) (o := .cells #[.int .i64 ((rd_T82 l0 x13_1).f0), .int .i64 ((rd_T82 l0 x13_1).f1), .int .i64 ((rd_T82 l0 x13_1).f2), .int .i64 ((rd_T82 l0 x13_1).f3)] 82 (0, 0)) (by (with_reducible repeat (first | refine blk_drewN ?_ _ | refine blk_drew ?_ | refine blk_alloc ?_ _)); refine blk_far ?_ NB279_301.out _; (with_reducible repeat (first | refine blk_drewN ?_ _ | refine blk_drew ?_ | refine blk_alloc ?_ _)); refine blk_far ?_ NB279_301.out _; (with_reducible repeat (first | refine blk_drewN ?_ _ | refine blk_drew ?_ | refine blk_alloc ?_ _)); exact BK279.out) k_ hk)); (case aO => exact (by (with_reducible repeat (first | apply Kd.R_alloc | apply Kd.R_drewN | apply Kd.R_drew)); exact Kd.R_mono (Kd.R_far (p := ⟨gb301, 1, none⟩) (Kd.R_far (p := ⟨gb301, 0, none⟩) (Kd.R_types HO_5.out BK301.out (by decide)) (fun _ hk => hk.2) (.int .i64 ((rd_T73 t297 x32_2).f0))) (fun _ hk => hk.2) (.int .i64 ((rd_T73 t297 x32_2).f1))) (fun _ hk => hk.1))); (case aS => exact (below_size (bl2_ HB GE279 GE301))); (case aL => have := LMc37.out; omega); intro v303 w42 ho hb hg hat; rw [← Ny302.out] at ho; refine sh5_ (Kd.R_over' (by (with_reducible repeat (first | apply Kd.R_alloc | apply Kd.R_drewN | apply Kd.R_drew)); exact (Kd.R_mono (Kd.R_far (p := ⟨gb301, 1, none⟩) (Kd.R_far (p := ⟨gb301, 0, none⟩) (Kd.R_mono HO_30.out (fun k_ hk => (⟨hk, hk.2⟩ : _ ∧ k_ ≠ gb301))) (fun _ hk => hk.2) (.int .i64 ((rd_T73 t297 x32_2).f0))) (fun _ hk => hk.2) (.int .i64 ((rd_T73 t297 x32_2).f1))) (fun _ h_ => h_.1))) (Kd.R_typed (by (with_reducible repeat (first | apply Kd.R_alloc | apply Kd.R_drewN | apply Kd.R_drew)); exact (Kd.R_mono (Kd.R_far (p := ⟨gb301, 1, none⟩) (Kd.R_far (p := ⟨gb301, 0, none⟩) (Kd.R_types HO_5.out BK301.out (by decide)) (fun _ hk => hk.2) (.int .i64 ((rd_T73 t297 x32_2).f0))) (fun _ hk => hk.2) (.int .i64 ((rd_T73 t297 x32_2).f1))) (fun _ h_ => h_.1)))) (by decide) hg) (blk_grown (g := gb279) (o := .cells #[.int .i64 ((rd_T82 l0 x13_1).f0), .int .i64 ((rd_T82 l0 x13_1).f1), .int .i64 ((rd_T82 l0 x13_1).f2), .int .i64 ((rd_T82 l0 x13_1).f3)] 82 (0, 0)) (by (with_reducible repeat (first | refine blk_drewN ?_ _ | refine blk_drew ?_ | refine blk_alloc ?_ _)); refine blk_far ?_ NB279_301.out _; (with_reducible repeat (first | refine blk_drewN ?_ _ | refine blk_drew ?_ | refine blk_alloc ?_ _)); refine blk_far ?_ NB279_301.out _; (with_reducible repeat (first | refine blk_drewN ?_ _ | refine blk_drew ?_ | refine blk_alloc ?_ _)); exact BK279.out) hg (Kd.R_away HO_5.out (fun _ hk => hk))) (blk_grown (g := gb301) (o := .cells #[.int .i64 ((rd_T73 t297 x32_2).f0), .int .i64 ((rd_T73 t297 x32_2).f1)] 73 (0, 0)) (by (with_reducible repeat (first | refine blk_drewN ?_ _ | refine blk_drew ?_ | refine blk_alloc ?_ _)); refine blk_put (cs := #[.int .i64 ((rd_T73 t297 x32_2).f0), .int .i64 0]) ?_ 1 _ rfl; (with_reducible repeat (first | refine blk_drewN ?_ _ | refine blk_drew ?_ | refine blk_alloc ?_ _)); refine blk_put (cs := #[.int .i64 0, .int .i64 0]) ?_ 0 _ rfl; (with_reducible repeat (first | refine blk_drewN ?_ _ | refine blk_drew ?_ | refine blk_alloc ?_ _)); exact BK301.out) hg (Kd.R_ne HO_5.out BK301.out (by decide))) hb ho ?_; clear HO_30 BK279 BK301 HB HO_5 ho hb hg hat; intro HO_30 BK279 BK301 HB HO304))
       go_roundg k2
       case measure => have := HK1.out; have := HK2.out; omega
       case rel => exact ⟨(y302), (wrap64 (x32_2 + 1)), (by first | rfl | (simp; done) | (simp [*]; done)), H', ⟨by have := HK1.out; have := HK2.out; omega⟩, ⟨ra_ HO304⟩, ⟨by (with_reducible repeat (first | apply Kd.R_alloc | apply Kd.R_drewN | apply Kd.R_drew)); exact Kd.R_mono HO_30.out (fun _ hk => trivial)⟩, ⟨by (with_reducible repeat (first | refine blk_drewN ?_ _ | refine blk_drew ?_ | refine blk_alloc ?_ _)); exact BK279.out⟩, ⟨bl2_ HB GE279 GE301⟩⟩
      ·rw [if_neg c34] at H
       have c34b0 := decide_eq_false c34
       clear c34
       have H' := Aside0.mk H
       clear H
       go_wp2
       go_roundg k2
       case measure => have := HK1.out; have := HK2.out; omega
       case rel => exact ⟨(x5_2), (wrap64 (x13_1 + 1)), (by first | rfl | (simp; done) | (simp [*]; done)), H', ⟨by have := HK1.out; have := HK2.out; omega⟩, ⟨by (with_reducible repeat (first | apply Kd.R_alloc | apply Kd.R_drewN | apply Kd.R_drew)); exact Kd.R_mono HO_5.out (fun _ hk => trivial)⟩, ⟨bl1_ HB GE279⟩⟩
   ·rw [if_neg c5] at H
    have c5b0 : decide (x13_1 < (l0.length : Int)) = false := decide_eq_false c5
    clear c5
    obtain rfl := Option.some.inj H
    go_wp2
    go_ret
    exact ⟨_, er_, ra_ HO_5, bl_ HB⟩

/-! ### impl_ContactTicks: function 66 -/
def impl_ContactTicks.l0 : Nat → Int → List (S82) → Int → Int → Option (Int)
 | 0, _, _, _, _ => none
 | k + 1, x3, x6, x7, x8 => if x8 < x7 then (if 0 ≤ x8 then (if x8 < (x6.length : Int) then ((impl_spanOf.f ((rd_T82 x6 x8).f0) ((rd_T82 x6 x8).f1) ((rd_T82 x6 x8).f2) ((rd_T82 x6 x8).f3)).bind fun bt307 => ((impl_IsSpan.f bt307.1 bt307.2).bind fun t309 => (if t309 = true then (impl_ContactTicks.l0 k (wrap64 (x3 + (wrap64 (((rd_T82 x6 x8).f3) - ((rd_T82 x6 x8).f2))))) x6 x7 (wrap64 (x8 + 1))) else (impl_ContactTicks.l0 k x3 x6 x7 (wrap64 (x8 + 1)))))) else (none)) else (none)) else (some x3)
def impl_ContactTicks.f (k : Nat) (l0 : List (S82)) : Option (Int) := impl_ContactTicks.l0 k 0 l0 (l0.length : Int) 0
theorem impl_ContactTicks.mono_l : ∀ k, (∀ y0 y1 y2 y3, LeO (impl_ContactTicks.l0 k y0 y1 y2 y3) (impl_ContactTicks.l0 (k + 1) y0 y1 y2 y3))
 | 0 => fun _ _ _ _ r h => by simp [impl_ContactTicks.l0] at h
 | k + 1 => by
  have ih0 := impl_ContactTicks.mono_l k
  ·intro y0 y1 y2 y3
   unfold impl_ContactTicks.l0
   repeat' first | (with_reducible first | exact ih0 _ _ _ _ | exact LeO.refl _ | exact LeO.none _ | refine LeO.ite ?_ ?_ | refine LeO.bind ?_ (fun _ => ?_)) | exact LeO.none _ | refine LeO.ite ?_ ?_ | refine LeO.bind ?_ (fun _ => ?_)
theorem impl_ContactTicks.mono : ∀ a0 k, LeO (impl_ContactTicks.f k a0) (impl_ContactTicks.f (k + 1) a0) := by
 intro a0 k
 have ih0 := impl_ContactTicks.mono_l k
 unfold impl_ContactTicks.f
 repeat' first | (with_reducible first | exact ih0 _ _ _ _ | exact LeO.refl _ | exact LeO.none _ | refine LeO.ite ?_ ?_ | refine LeO.bind ?_ (fun _ => ?_)) | exact LeO.none _ | refine LeO.ite ?_ ?_ | refine LeO.bind ?_ (fun _ => ?_)
set_option maxHeartbeats 8000000 in
set_option maxRecDepth 100000 in
theorem impl_ContactTicks.calls (k : Nat) (A0 : Option Addr) (c0 : Nat) (l0 : List (S82)) (r : Int) (w : World) (hr0 : Kd.C k82 w A0 l0.length l0) (hc0 : l0.length ≤ c0) (h : impl_ContactTicks.f k l0 = some r) :
  Calls Try.prog 66 #[.slice A0 l0.length c0] w fun e w' => e = .returned (.int .i64 r) ∧ Below w.heap.size w w' := by
 have hu82 := Try.underlying82
 have HR0 := Aside0.mk hr0
 have HC0 := Aside0.mk hc0
 clear hr0 hc0
 have HB := Aside0.mk (Below.refl w.heap.size w)
 have H := h
 clear h
 unfold impl_ContactTicks.f at H
 have H' := Aside0.mk H
 clear H
 go_enter Try.func66, Try.ntmps66
 go_wp2
 go_loopg [3, 8] k (fun kq v3 v8 w' => ∃ (x3_1 : Int) (x8_1 : Int), v3 = .int .i64 x3_1 ∧ v8 = .int .i64 x8_1 ∧ Aside0 (impl_ContactTicks.l0 kq x3_1 l0 (l0.length : Int) x8_1 = some r) ∧ Aside0 (kq ≤ k) ∧ Aside0 (Below w.heap.size w w'))
 case atStart => exact ⟨(0), (0), (by first | rfl | (simp; done) | (simp [*]; done)), (by first | rfl | (simp; done) | (simp [*]; done)), H', ⟨Nat.le_refl _⟩, ⟨bl_ HB⟩⟩
 case round =>
  clear H'
  obtain ⟨x3_1, x8_1, rfl, rfl, HA, HK1, HB⟩ := hrel
  cases gk with
  | zero => exact absurd HA.out (by simp [impl_ContactTicks.l0])
  | succ k1 =>
   have H := HA.out
   clear HA
   simp only [impl_ContactTicks.l0] at H
   by_cases c2 : x8_1 < (l0.length : Int)
   ·rw [if_pos c2] at H
    have c2b0 := decide_eq_true c2
    clear c2
    replace H := ifn_ H
    obtain ⟨c3, H⟩ := H
    have c3b0 := decide_eq_true c3
    clear c3
    replace H := ifn_ H
    obtain ⟨c4, H⟩ := H
    have c4b0 := decide_eq_true c4
    clear c4
    replace H := bs_ H
    obtain ⟨⟨t307, t308⟩, A5, H⟩ := H
    dsimp only at H
    replace H := bs_ H
    obtain ⟨t309, A6, H⟩ := H
    by_cases c7 : t309 = true
    ·subst c7
     rw [if_pos rfl] at H
     have H' := Aside0.mk H
     clear H
     have p305 : 0 ≤ (x8_1 : Int) := od_
     have q305 : x8_1 < (l0.length : Int) := od_
     obtain ⟨ad305, e305, hx305_0, hx305_1, hx305_2, hx305_3⟩ := at_T82 HR0.out x8_1 p305 q305
     cases e305
     replace hx305_0 := hbc_ HB hx305_0
     replace hx305_1 := hbc_ HB hx305_1
     replace hx305_2 := hbc_ HB hx305_2
     replace hx305_3 := hbc_ HB hx305_3
     replace p305 := eq_true p305
     replace q305 := eq_true q305
     go_wp2_with (first | ((with_reducible refine gd_ 5 ?_); refine bx_ 5 82 #[.int .i64 0, .int .i64 0, .int .i64 0, .int .i64 0] ?_; intro gb306 hg w8 hbox hb; refine sh4_ (below_step (bl_ HB) hb) hbox (ge_ hg (bl_ HB)) (ge_ hg (bl_ HB)) ?_; clear HB hb hbox hg; intro HB BK306 GW306 GE306; have hcz9 := cf4_ BK306) | ((with_reducible refine gate_callee (f := 61) rfl ?_); refine gl_ 13 Try.func61 (impl_spanOf.calls ((rd_T82 l0 x8_1).f0) ((rd_T82 l0 x8_1).f1) ((rd_T82 l0 x8_1).f2) ((rd_T82 l0 x8_1).f3) t307 t308 _ A5.out) ?_; rintro e w10 ⟨rfl, hb⟩; refine ⟨_, rfl, sh2_ (blk_below (g := gb306) (o := .cells #[.int .i64 ((rd_T82 l0 x8_1).f0), .int .i64 ((rd_T82 l0 x8_1).f1), .int .i64 ((rd_T82 l0 x8_1).f2), .int .i64 ((rd_T82 l0 x8_1).f3)] 82 (0, 0)) (by (with_reducible repeat (first | refine blk_drewN ?_ _ | refine blk_drew ?_ | refine blk_alloc ?_ _)); refine blk_put (cs := #[.int .i64 ((rd_T82 l0 x8_1).f0), .int .i64 ((rd_T82 l0 x8_1).f1), .int .i64 ((rd_T82 l0 x8_1).f2), .int .i64 0]) ?_ 3 _ rfl; (with_reducible repeat (first | refine blk_drewN ?_ _ | refine blk_drew ?_ | refine blk_alloc ?_ _)); refine blk_put (cs := #[.int .i64 ((rd_T82 l0 x8_1).f0), .int .i64 ((rd_T82 l0 x8_1).f1), .int .i64 0, .int .i64 0]) ?_ 2 _ rfl; (with_reducible repeat (first | refine blk_drewN ?_ _ | refine blk_drew ?_ | refine blk_alloc ?_ _)); refine blk_put (cs := #[.int .i64 ((rd_T82 l0 x8_1).f0), .int .i64 0, .int .i64 0, .int .i64 0]) ?_ 1 _ rfl; (with_reducible repeat (first | refine blk_drewN ?_ _ | refine blk_drew ?_ | refine blk_alloc ?_ _)); refine blk_put (cs := #[.int .i64 0, .int .i64 0, .int .i64 0, .int .i64 0]) ?_ 0 _ rfl; (with_reducible repeat (first | refine blk_drewN ?_ _ | refine blk_drew ?_ | refine blk_alloc ?_ _)); exact BK306.out) hb) (below_step (bl1_ HB GE306) hb) ?_⟩; clear BK306 HB hb; intro BK306 HB) | ((with_reducible refine gate_callee (f := 96) rfl ?_); refine gl_ 14 Try.func96 (impl_IsSpan.calls t307 t308 true _ A6.out) ?_; rintro e w11 ⟨rfl, hb⟩; refine ⟨_, rfl, sh2_ (blk_below (bk_ BK306) hb) (below_step (bl1_ HB GE306) hb) ?_⟩; clear BK306 HB hb; intro BK306 HB; have hcz12 := cf4_ BK306))
     go_roundg k1
     case measure => have := HK1.out; omega
     case rel => exact ⟨(wrap64 (x3_1 + (wrap64 (((rd_T82 l0 x8_1).f3) - ((rd_T82 l0 x8_1).f2))))), (wrap64 (x8_1 + 1)), (by first | rfl | (simp; done) | (simp [*]; done)), (by first | rfl | (simp; done) | (simp [*]; done)), H', ⟨by have := HK1.out; omega⟩, ⟨bl1_ HB GE306⟩⟩
    ·replace c7 := Bool.eq_false_iff.mpr c7
     subst c7
     have H1 : (impl_ContactTicks.l0 k1 x3_1 l0 (l0.length : Int) (wrap64 (x8_1 + 1))) = some r := by rw [if_neg (show ¬ (false = true) by decide)] at H; exact H
     clear H
     have H := H1
     clear H1
     have H' := Aside0.mk H
     clear H
     have p305 : 0 ≤ (x8_1 : Int) := od_
     have q305 : x8_1 < (l0.length : Int) := od_
     obtain ⟨ad305, e305, hx305_0, hx305_1, hx305_2, hx305_3⟩ := at_T82 HR0.out x8_1 p305 q305
     cases e305
     replace hx305_0 := hbc_ HB hx305_0
     replace hx305_1 := hbc_ HB hx305_1
     replace hx305_2 := hbc_ HB hx305_2
     replace hx305_3 := hbc_ HB hx305_3
     replace p305 := eq_true p305
     replace q305 := eq_true q305
     go_wp2_with (first | ((with_reducible refine gd_ 5 ?_); refine bx_ 5 82 #[.int .i64 0, .int .i64 0, .int .i64 0, .int .i64 0] ?_; intro gb306 hg w13 hbox hb; refine sh4_ (below_step (bl_ HB) hb) hbox (ge_ hg (bl_ HB)) (ge_ hg (bl_ HB)) ?_; clear HB hb hbox hg; intro HB BK306 GW306 GE306; have hcz14 := cf4_ BK306) | ((with_reducible refine gate_callee (f := 61) rfl ?_); refine gl_ 13 Try.func61 (impl_spanOf.calls ((rd_T82 l0 x8_1).f0) ((rd_T82 l0 x8_1).f1) ((rd_T82 l0 x8_1).f2) ((rd_T82 l0 x8_1).f3) t307 t308 _ A5.out) ?_; rintro e w15 ⟨rfl, hb⟩; refine ⟨_, rfl, sh2_ (blk_below (g := gb306) (o := .cells #[.int .i64 ((rd_T82 l0 x8_1).f0), .int .i64 ((rd_T82 l0 x8_1).f1), .int .i64 ((rd_T82 l0 x8_1).f2), .int .i64 ((rd_T82 l0 x8_1).f3)] 82 (0, 0)) (by (with_reducible repeat (first | refine blk_drewN ?_ _ | refine blk_drew ?_ | refine blk_alloc ?_ _)); refine blk_put (cs := #[.int .i64 ((rd_T82 l0 x8_1).f0), .int .i64 ((rd_T82 l0 x8_1).f1), .int .i64 ((rd_T82 l0 x8_1).f2), .int .i64 0]) ?_ 3 _ rfl; (with_reducible repeat (first | refine blk_drewN ?_ _ | refine blk_drew ?_ | refine blk_alloc ?_ _)); refine blk_put (cs := #[.int .i64 ((rd_T82 l0 x8_1).f0), .int .i64 ((rd_T82 l0 x8_1).f1), .int .i64 0, .int .i64 0]) ?_ 2 _ rfl; (with_reducible repeat (first | refine blk_drewN ?_ _ | refine blk_drew ?_ | refine blk_alloc ?_ _)); refine blk_put (cs := #[.int .i64 ((rd_T82 l0 x8_1).f0), .int .i64 0, .int .i64 0, .int .i64 0]) ?_ 1 _ rfl; (with_reducible repeat (first | refine blk_drewN ?_ _ | refine blk_drew ?_ | refine blk_alloc ?_ _)); refine blk_put (cs := #[.int .i64 0, .int .i64 0, .int .i64 0, .int .i64 0]) ?_ 0 _ rfl; (with_reducible repeat (first | refine blk_drewN ?_ _ | refine blk_drew ?_ | refine blk_alloc ?_ _)); exact BK306.out) hb) (below_step (bl1_ HB GE306) hb) ?_⟩; clear BK306 HB hb; intro BK306 HB) | ((with_reducible refine gate_callee (f := 96) rfl ?_); refine gl_ 14 Try.func96 (impl_IsSpan.calls t307 t308 false _ A6.out) ?_; rintro e w16 ⟨rfl, hb⟩; refine ⟨_, rfl, sh2_ (blk_below (bk_ BK306) hb) (below_step (bl1_ HB GE306) hb) ?_⟩; clear BK306 HB hb; intro BK306 HB))
     go_roundg k1
     case measure => have := HK1.out; omega
     case rel => exact ⟨(x3_1), (wrap64 (x8_1 + 1)), (by first | rfl | (simp; done) | (simp [*]; done)), (by first | rfl | (simp; done) | (simp [*]; done)), H', ⟨by have := HK1.out; omega⟩, ⟨bl1_ HB GE306⟩⟩
   ·rw [if_neg c2] at H
    have c2b0 : decide (x8_1 < (l0.length : Int)) = false := decide_eq_false c2
    clear c2
    obtain rfl := Option.some.inj H
    go_wp2
    go_ret
    exact ⟨er_, bl_ HB⟩

/-! ### impl_LostTicks: function 30 -/
def impl_LostTicks.f (k : Nat) (l0 : List (S82)) (l1 : List (S87)) : Option (Int) := (impl_ContactTicks.f k l0).bind fun t310 => ((impl_CutClouds.f k l0 l1).bind fun t311 => ((impl_ContactTicks.f k t311).bind fun t314 => (some (wrap64 (t310 - t314)))))
theorem impl_LostTicks.mono : ∀ a0 a1 k, LeO (impl_LostTicks.f k a0 a1) (impl_LostTicks.f (k + 1) a0 a1) := by
 intro a0 a1 k
 unfold impl_LostTicks.f
 repeat' first | (with_reducible first | exact impl_ContactTicks.mono _ _ | exact impl_CutClouds.mono _ _ _ | exact LeO.refl _ | exact LeO.none _ | refine LeO.ite ?_ ?_ | refine LeO.bind ?_ (fun _ => ?_)) | exact LeO.none _ | refine LeO.ite ?_ ?_ | refine LeO.bind ?_ (fun _ => ?_)
set_option maxHeartbeats 8000000 in
set_option maxRecDepth 100000 in
theorem impl_LostTicks.calls (k : Nat) (A0 : Option Addr) (c0 : Nat) (l0 : List (S82)) (A1 : Option Addr) (c1 : Nat) (l1 : List (S87)) (r : Int) (w : World) (hr0 : Kd.C k82 w A0 l0.length l0) (hc0 : l0.length ≤ c0) (hr1 : Kd.C k87 w A1 l1.length l1) (hc1 : l1.length ≤ c1) (h : impl_LostTicks.f k l0 l1 = some r) :
  Calls Try.prog 30 #[.slice A0 l0.length c0, .slice A1 l1.length c1] w fun e w' => e = .returned (.int .i64 r) ∧ Below w.heap.size w w' := by
 have HR0 := Aside0.mk hr0
 have HC0 := Aside0.mk hc0
 clear hr0 hc0
 have HR1 := Aside0.mk hr1
 have HC1 := Aside0.mk hc1
 clear hr1 hc1
 have HB := Aside0.mk (Below.refl w.heap.size w)
 have H := h
 clear h
 unfold impl_LostTicks.f at H
 replace H := bs_ H
 obtain ⟨t310, A3, H⟩ := H
 replace H := bs_ H
 obtain ⟨t311, A4, H⟩ := H
 replace H := bs_ H
 obtain ⟨t314, A5, H⟩ := H
 obtain rfl := Option.some.inj H
 go_enter Try.func30, Try.ntmps30
 go_wp2_with (first | ((with_reducible refine gate_callee (f := 66) rfl ?_); refine gl_ 6 Try.func66 (impl_ContactTicks.calls k _ _ l0 t310 _ (cq_ HR0) HC0.out A3.out) ?_; rintro e w6 ⟨rfl, hb⟩; refine ⟨_, rfl, sh1_ (below_step (bl_ HB) hb) ?_⟩; clear HB hb; intro HB) | ((with_reducible refine gate_callee (f := 23) rfl ?_); refine gl_ 9 Try.func23 (impl_CutClouds.calls k _ _ l0 _ _ l1 t311 _ (ck_ HR0 HB) HC0.out (ck_ HR1 HB) HC1.out A4.out) ?_; rintro e w7 ⟨v312, rfl, ho0, hb⟩; refine ⟨_, rfl, sh2_ (Kd.R_lower ho0 (below_size (bl_ HB))) (below_step (bl_ HB) hb) ?_⟩; clear HB hb ho0; intro HO313 HB; obtain ⟨Ao8, co8, eo8⟩ := Kd.R_slice HO313.out; subst eo8) | ((with_reducible refine gate_callee (f := 66) rfl ?_); refine gl_ 10 Try.func66 (impl_ContactTicks.calls k _ _ t311 t314 _ (cr_ HO313) (rl_ HO313) A5.out) ?_; rintro e w9 ⟨rfl, hb⟩; refine ⟨_, rfl, sh2_ (Kd.R_below (ra_ HO313) hb) (below_step (bl_ HB) hb) ?_⟩; clear HO313 HB hb; intro HO313 HB))
 go_ret
 exact ⟨er_, bl_ HB⟩

/-! ### laws_FnExactLostTicks: function 5 -/
def laws_FnExactLostTicks.f (k : Nat) (l0 : List (S85)) (l1 : List (S89)) : Option (Bool) := (laws_szContactS.f l0 1048576).bind fun t315 => (if t315 < 0 then (some true) else ((laws_szCloudS.f l1 t315).bind fun t316 => (if t316 < 0 then (some true) else ((laws_toContactS.f k l0).bind fun t317 => ((laws_toCloudS.f k l1).bind fun t320 => ((spec_LostTicks.f k t317 t320).bind fun t323 => ((laws_toContactS.f k l0).bind fun t324 => ((laws_toCloudS.f k l1).bind fun t327 => ((impl_LostTicks.f k t324 t327).bind fun t330 => (if t330 = t323 then ((laws_toContactS.f k l0).bind fun t331 => ((laws_eqContactS.f k t324 t331).bind fun t334 => (if t334 = true then ((laws_toCloudS.f k l1).bind fun t335 => ((laws_eqCloudS.f k t327 t335).bind fun t338 => (if t338 = true then (some true) else (some false)))) else (some false)))) else (some false)))))))))))
theorem laws_FnExactLostTicks.mono : ∀ a0 a1 k, LeO (laws_FnExactLostTicks.f k a0 a1) (laws_FnExactLostTicks.f (k + 1) a0 a1) := by
 intro a0 a1 k
 unfold laws_FnExactLostTicks.f
 repeat' first | (with_reducible first | exact impl_LostTicks.mono _ _ _ | exact laws_eqCloudS.mono _ _ _ | exact laws_eqContactS.mono _ _ _ | exact laws_toCloudS.mono _ _ | exact laws_toContactS.mono _ _ | exact spec_LostTicks.mono _ _ _ | exact LeO.refl _ | exact LeO.none _ | refine LeO.ite ?_ ?_ | refine LeO.bind ?_ (fun _ => ?_)) | exact LeO.none _ | refine LeO.ite ?_ ?_ | refine LeO.bind ?_ (fun _ => ?_)
set_option maxHeartbeats 8000000 in
set_option maxRecDepth 100000 in
theorem laws_FnExactLostTicks.calls (k : Nat) (A0 : Option Addr) (c0 : Nat) (l0 : List (S85)) (A1 : Option Addr) (c1 : Nat) (l1 : List (S89)) (r : Bool) (w : World) (hr0 : Kd.C k85 w A0 l0.length l0) (hc0 : l0.length ≤ c0) (hr1 : Kd.C k89 w A1 l1.length l1) (hc1 : l1.length ≤ c1) (h : laws_FnExactLostTicks.f k l0 l1 = some r) (hT_ : r = true := by rfl) :
  Calls Try.prog 5 #[.slice A0 l0.length c0, .slice A1 l1.length c1] w fun e w' => e = .returned (.bool r) ∧ Below w.heap.size w w' := by
 have HR0 := Aside0.mk hr0
 have HC0 := Aside0.mk hc0
 clear hr0 hc0
 have HR1 := Aside0.mk hr1
 have HC1 := Aside0.mk hc1
 clear hr1 hc1
 have HB := Aside0.mk (Below.refl w.heap.size w)
 subst hT_
 have H := h
 clear h
 unfold laws_FnExactLostTicks.f at H
 replace H := bs_ H
 obtain ⟨t315, A3, H⟩ := H
 by_cases c4 : t315 < 0
 ·rw [if_pos c4] at H
  have c4b0 := decide_eq_true c4
  clear c4
  clear H
  go_enter Try.func5, Try.ntmps5
  go_wp2_with (first | ((with_reducible refine gate_callee (f := 18) rfl ?_); refine gl_ 12 Try.func18 (laws_szContactS.calls _ _ l0 1048576 t315 _ (cq_ HR0) HC0.out A3.out) ?_; rintro e w' ⟨rfl, ⟨nd, rfl⟩⟩; refine ⟨_, rfl, ?_⟩))
  go_ret
  exact ⟨er_, bl_ HB⟩
 ·rw [if_neg c4] at H
  have c4b0 := decide_eq_false c4
  clear c4
  replace H := bs_ H
  obtain ⟨t316, A5, H⟩ := H
  by_cases c6 : t316 < 0
  ·rw [if_pos c6] at H
   have c6b0 := decide_eq_true c6
   clear c6
   clear H
   go_enter Try.func5, Try.ntmps5
   go_wp2_with (first | ((with_reducible refine gate_callee (f := 18) rfl ?_); refine gl_ 12 Try.func18 (laws_szContactS.calls _ _ l0 1048576 t315 _ (cq_ HR0) HC0.out A3.out) ?_; rintro e w' ⟨rfl, ⟨nd, rfl⟩⟩; refine ⟨_, rfl, ?_⟩) | ((with_reducible refine gate_callee (f := 19) rfl ?_); refine gl_ 17 Try.func19 (laws_szCloudS.calls _ _ l1 t315 t316 _ (cq_ HR1) HC1.out A5.out) ?_; rintro e w' ⟨rfl, ⟨nd, rfl⟩⟩; refine ⟨_, rfl, ?_⟩))
   go_ret
   exact ⟨er_, bl_ HB⟩
  ·rw [if_neg c6] at H
   have c6b0 := decide_eq_false c6
   clear c6
   replace H := bs_ H
   obtain ⟨t317, A7, H⟩ := H
   replace H := bs_ H
   obtain ⟨t320, A8, H⟩ := H
   replace H := bs_ H
   obtain ⟨t323, A9, H⟩ := H
   replace H := bs_ H
   obtain ⟨t324, A10, H⟩ := H
   replace H := bs_ H
   obtain ⟨t327, A11, H⟩ := H
   replace H := bs_ H
   obtain ⟨t330, A12, H⟩ := H
   by_cases c13 : t330 = t323
   ·rw [if_pos c13] at H
    obtain ⟨c13b0, c13b1⟩ := bt_ c13
    clear c13
    replace H := bs_ H
    obtain ⟨t331, A14, H⟩ := H
    replace H := bs_ H
    obtain ⟨t334, A15, H⟩ := H
    by_cases c16 : t334 = true
    ·subst c16
     try rw [if_pos rfl] at H
     replace H := bs_ H
     obtain ⟨t335, A17, H⟩ := H
     replace H := bs_ H
     obtain ⟨t338, A18, H⟩ := H
     by_cases c19 : t338 = true
     ·subst c19
      try rw [if_pos rfl] at H
      clear H
      go_enter Try.func5, Try.ntmps5
      go_wp2_with (first | ((with_reducible refine gate_callee (f := 18) rfl ?_); refine gl_ 12 Try.func18 (laws_szContactS.calls _ _ l0 1048576 t315 _ (cq_ HR0) HC0.out A3.out) ?_; rintro e w' ⟨rfl, ⟨nd, rfl⟩⟩; refine ⟨_, rfl, ?_⟩) | ((with_reducible refine gate_callee (f := 19) rfl ?_); refine gl_ 17 Try.func19 (laws_szCloudS.calls _ _ l1 t315 t316 _ (cq_ HR1) HC1.out A5.out) ?_; rintro e w' ⟨rfl, ⟨nd, rfl⟩⟩; refine ⟨_, rfl, ?_⟩) | ((with_reducible refine gate_callee (f := 21) rfl ?_); refine gl_ 21 Try.func21 (laws_toContactS.calls k _ _ l0 t317 _ (cq_ HR0) HC0.out A7.out) ?_; rintro e w20 ⟨v318, rfl, ho0, hb⟩; refine ⟨_, rfl, sh2_ (Kd.R_lower ho0 (below_size (bl_ HB))) (below_step (bl_ HB) hb) ?_⟩; clear HB hb ho0; intro HO319 HB) | ((with_reducible refine gate_callee (f := 22) rfl ?_); refine gl_ 23 Try.func22 (laws_toCloudS.calls k _ _ l1 t320 _ (ck_ HR1 HB) HC1.out A8.out) ?_; rintro e w21 ⟨v321, rfl, ho0, hb⟩; refine ⟨_, rfl, sh3_ (Kd.R_below (ra_ HO319) hb) (Kd.R_lower ho0 (below_size (bl_ HB))) (below_step (bl_ HB) hb) ?_⟩; clear HO319 HB hb ho0; intro HO319 HO322 HB; obtain ⟨Ao22, co22, eo22⟩ := Kd.R_slice HO319.out; subst eo22; obtain ⟨Ao23, co23, eo23⟩ := Kd.R_slice HO322.out; subst eo23) | ((with_reducible refine gate_callee (f := 29) rfl ?_); refine gl_ 24 Try.func29 (spec_LostTicks.calls k _ _ t317 _ _ t320 t323 _ (cr_ HO319) (rl_ HO319) (cr_ HO322) (rl_ HO322) A9.out) ?_; rintro e w24 ⟨rfl, hb⟩; refine ⟨_, rfl, sh3_ (Kd.R_below (ra_ HO319) hb) (Kd.R_below (ra_ HO322) hb) (below_step (bl_ HB) hb) ?_⟩; clear HO319 HO322 HB hb; intro HO319 HO322 HB) | ((with_reducible refine gate_callee (f := 21) rfl ?_); refine gl_ 26 Try.func21 (laws_toContactS.calls k _ _ l0 t324 _ (ck_ HR0 HB) HC0.out A10.out) ?_; rintro e w25 ⟨v325, rfl, ho0, hb⟩; refine ⟨_, rfl, sh4_ (Kd.R_elder' (ra_ HO319) (Kd.R_base ho0) hb) (Kd.R_below (ra_ HO322) hb) (Kd.R_lower (Kd.R_new' ho0 (Kd.R_lt (ra_ HO319))) (below_size (bl_ HB))) (below_step (bl_ HB) hb) ?_⟩; clear HO319 HO322 HB hb ho0; intro HO319 HO322 HO326 HB) | ((with_reducible refine gate_callee (f := 22) rfl ?_); refine gl_ 28 Try.func22 (laws_toCloudS.calls k _ _ l1 t327 _ (ck_ HR1 HB) HC1.out A11.out) ?_; rintro e w26 ⟨v328, rfl, ho0, hb⟩; refine ⟨_, rfl, sh5_ (Kd.R_below (ra_ HO319) hb) (Kd.R_elder' (ra_ HO322) (Kd.R_base ho0) hb) (Kd.R_below (ra_ HO326) hb) (Kd.R_lower (Kd.R_new' ho0 (Kd.R_lt (ra_ HO322))) (below_size (bl_ HB))) (below_step (bl_ HB) hb) ?_⟩; clear HO319 HO322 HO326 HB hb ho0; intro HO319 HO322 HO326 HO329 HB; obtain ⟨Ao27, co27, eo27⟩ := Kd.R_slice HO326.out; subst eo27; obtain ⟨Ao28, co28, eo28⟩ := Kd.R_slice HO329.out; subst eo28) | ((with_reducible refine gate_callee (f := 30) rfl ?_); refine gl_ 31 Try.func30 (impl_LostTicks.calls k _ _ t324 _ _ t327 t330 _ (cr_ HO326) (rl_ HO326) (cr_ HO329) (rl_ HO329) A12.out) ?_; rintro e w29 ⟨rfl, hb⟩; refine ⟨_, rfl, sh5_ (Kd.R_below (ra_ HO319) hb) (Kd.R_below (ra_ HO322) hb) (Kd.R_below (ra_ HO326) hb) (Kd.R_below (ra_ HO329) hb) (below_step (bl_ HB) hb) ?_⟩; clear HO319 HO322 HO326 HO329 HB hb; intro HO319 HO322 HO326 HO329 HB) | ((with_reducible refine gate_callee (f := 21) rfl ?_); refine gl_ 37 Try.func21 (laws_toContactS.calls k _ _ l0 t331 _ (ck_ HR0 HB) HC0.out A14.out) ?_; rintro e w30 ⟨v332, rfl, ho0, hb⟩; refine ⟨_, rfl, sh6_ (Kd.R_elder' (ra_ HO319) (Kd.R_base ho0) hb) (Kd.R_below (ra_ HO322) hb) (Kd.R_elder' (ra_ HO326) (Kd.R_base ho0) hb) (Kd.R_below (ra_ HO329) hb) (Kd.R_lower (Kd.R_new' (Kd.R_new' ho0 (Kd.R_lt (ra_ HO319))) (Kd.R_lt (ra_ HO326))) (below_size (bl_ HB))) (below_step (bl_ HB) hb) ?_⟩; clear HO319 HO322 HO326 HO329 HB hb ho0; intro HO319 HO322 HO326 HO329 HO333 HB; obtain ⟨Ao31, co31, eo31⟩ := Kd.R_slice HO333.out; subst eo31) | ((with_reducible refine gate_callee (f := 24) rfl ?_); refine gl_ 38 Try.func24 (laws_eqContactS.calls k _ _ t324 _ _ t331 true _ (cr_ HO326) (rl_ HO326) (cr_ HO333) (rl_ HO333) A15.out) ?_; rintro e w32 ⟨rfl, hb⟩; refine ⟨_, rfl, sh6_ (Kd.R_below (ra_ HO319) hb) (Kd.R_below (ra_ HO322) hb) (Kd.R_below (ra_ HO326) hb) (Kd.R_below (ra_ HO329) hb) (Kd.R_below (ra_ HO333) hb) (below_step (bl_ HB) hb) ?_⟩; clear HO319 HO322 HO326 HO329 HO333 HB hb; intro HO319 HO322 HO326 HO329 HO333 HB) | ((with_reducible refine gate_callee (f := 22) rfl ?_); refine gl_ 42 Try.func22 (laws_toCloudS.calls k _ _ l1 t335 _ (ck_ HR1 HB) HC1.out A17.out) ?_; rintro e w33 ⟨v336, rfl, ho0, hb⟩; refine ⟨_, rfl, sh7_ (Kd.R_below (ra_ HO319) hb) (Kd.R_elder' (ra_ HO322) (Kd.R_base ho0) hb) (Kd.R_below (ra_ HO326) hb) (Kd.R_elder' (ra_ HO329) (Kd.R_base ho0) hb) (Kd.R_below (ra_ HO333) hb) (Kd.R_lower (Kd.R_new' (Kd.R_new' ho0 (Kd.R_lt (ra_ HO322))) (Kd.R_lt (ra_ HO329))) (below_size (bl_ HB))) (below_step (bl_ HB) hb) ?_⟩; clear HO319 HO322 HO326 HO329 HO333 HB hb ho0; intro HO319 HO322 HO326 HO329 HO333 HO337 HB; obtain ⟨Ao34, co34, eo34⟩ := Kd.R_slice HO337.out; subst eo34) | ((with_reducible refine gate_callee (f := 25) rfl ?_); refine gl_ 43 Try.func25 (laws_eqCloudS.calls k _ _ t327 _ _ t335 true _ (cr_ HO329) (rl_ HO329) (cr_ HO337) (rl_ HO337) A18.out) ?_; rintro e w35 ⟨rfl, hb⟩; refine ⟨_, rfl, sh7_ (Kd.R_below (ra_ HO319) hb) (Kd.R_below (ra_ HO322) hb) (Kd.R_below (ra_ HO326) hb) (Kd.R_below (ra_ HO329) hb) (Kd.R_below (ra_ HO333) hb) (Kd.R_below (ra_ HO337) hb) (below_step (bl_ HB) hb) ?_⟩; clear HO319 HO322 HO326 HO329 HO333 HO337 HB hb; intro HO319 HO322 HO326 HO329 HO333 HO337 HB))
      go_ret
      exact ⟨er_, bl_ HB⟩
     ·replace c19 := Bool.eq_false_iff.mpr c19
      subst c19
      have H1 : (some false) = some true := by first | (rw [if_neg (show ¬ (false = true) by decide)] at H; exact H) | rfl
      clear H
      have H := H1
      clear H1
      exact absurd H (by simp)
    ·replace c16 := Bool.eq_false_iff.mpr c16
     subst c16
     have H1 : (some false) = some true := by first | (rw [if_neg (show ¬ (false = true) by decide)] at H; exact H) | rfl
     clear H
     have H := H1
     clear H1
     exact absurd H (by simp)
   ·rw [if_neg c13] at H
    obtain ⟨c13b0, c13b1⟩ := bn_ c13
    exact absurd H (by simp)

end Go.Proofs.Ytcjfalmhohcifaa.PFnExactLostTicks
