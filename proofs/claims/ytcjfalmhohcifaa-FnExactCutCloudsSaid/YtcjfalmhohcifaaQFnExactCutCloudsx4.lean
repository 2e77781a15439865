-- Written by a program of this session for this claim (the kit's printer with changes).
import Derived.Test.YtcjfalmhohcifaaQFnExactCutCloudsx0
import Derived.Test.YtcjfalmhohcifaaQFnExactCutCloudsx3
namespace Go.Proofs.Ytcjfalmhohcifaa.PFnExactCutClouds
open Go.RowKit Go.Proofs.YtcjfalmhohcifaaW.PrintWords Go.Proofs.YtcjfalmhohcifaaW.PrintLast Go.Proofs.YtcjfalmhohcifaaW.PrintMore
attribute [local go_sem] max2_int min2_int max_two min_two max_three min_three max_four min_four   -- for this text's walks alone
set_option linter.unusedVariables false
set_option linter.unusedSimpArgs false

/-! ### impl_CutClouds: function 23 -/
mutual
def impl_CutClouds.l0 : Nat → List (S87) → List (S82) → List (S82) → Int → Int → Option ((List (S82)))
 | 0, _, _, _, _, _ => none
 | k + 1, x1, x5, x11, x12, x13 => if x13 < x12 then (if 0 ≤ x13 then (if x13 < (x11.length : Int) then ((impl_spanOf.f ((rd_T82 x11 x13).f0) ((rd_T82 x11 x13).f1) ((rd_T82 x11 x13).f2) ((rd_T82 x11 x13).f3)).bind fun bt260 => ((impl_CloudSpans.f k x1 ((rd_T82 x11 x13).f0)).bind fun t265 => ((impl_CloudSpans.f k x1 ((rd_T82 x11 x13).f1)).bind fun t268 => ((impl_Span_49.f k (([t265, t268] : List (List (S73))))).bind fun t274 => ((impl_CutSpans.f k (([(⟨bt260.1, bt260.2⟩ : S73)] : List (S73))) t274).bind fun t277 => (impl_CutClouds.l1 k x1 x5 x11 x12 x13 t277 (t277.length : Int) 0 ((rd_T82 x11 x13).f0) ((rd_T82 x11 x13).f1) ((rd_T82 x11 x13).f2) ((rd_T82 x11 x13).f3))))))) else (none)) else (none)) else (some x5)
def impl_CutClouds.l1 : Nat → List (S87) → List (S82) → List (S82) → Int → Int → List (S73) → Int → Int → Int → Int → Int → Int → Option ((List (S82)))
 | 0, _, _, _, _, _, _, _, _, _, _, _, _ => none
 | k + 1, x1, x5, x11, x12, x13, x30, x31, x32, x260000, x260001, x260002, x260003 => if x32 < x31 then (if 0 ≤ x32 then (if x32 < (x30.length : Int) then (if x5.length < 4398046511104 then (impl_CutClouds.l1 k x1 (x5 ++ [(⟨x260000, x260001, (rd_T73 x30 x32).f0, (rd_T73 x30 x32).f1⟩ : S82)]) x11 x12 x13 x30 x31 (wrap64 (x32 + 1)) x260000 x260001 x260002 x260003) else (none)) else (none)) else (none)) else (impl_CutClouds.l0 k x1 x5 x11 x12 (wrap64 (x13 + 1)))
end
def impl_CutClouds.f (k : Nat) (l0 : List (S82)) (l1 : List (S87)) : Option ((List (S82))) := impl_CutClouds.l0 k l1 (([] : List (S82))) l0 (l0.length : Int) 0
theorem impl_CutClouds.mono_l : ∀ k, (∀ y0 y1 y2 y3 y4, LeO (impl_CutClouds.l0 k y0 y1 y2 y3 y4) (impl_CutClouds.l0 (k + 1) y0 y1 y2 y3 y4)) ∧ (∀ y0 y1 y2 y3 y4 y5 y6 y7 y8 y9 y10 y11, LeO (impl_CutClouds.l1 k y0 y1 y2 y3 y4 y5 y6 y7 y8 y9 y10 y11) (impl_CutClouds.l1 (k + 1) y0 y1 y2 y3 y4 y5 y6 y7 y8 y9 y10 y11))
 | 0 => ⟨fun _ _ _ _ _ r h => by simp [impl_CutClouds.l0] at h, fun _ _ _ _ _ _ _ _ _ _ _ _ r h => by simp [impl_CutClouds.l1] at h⟩
 | k + 1 => by
  obtain ⟨ih0, ih1⟩ := impl_CutClouds.mono_l k
  refine ⟨?_, ?_⟩
  ·intro y0 y1 y2 y3 y4
   unfold impl_CutClouds.l0
   repeat' first | (with_reducible first | exact ih0 _ _ _ _ _ | exact ih1 _ _ _ _ _ _ _ _ _ _ _ _ | exact impl_CloudSpans.mono _ _ _ | exact impl_CutSpans.mono _ _ _ | exact impl_Span_49.mono _ _ | exact LeO.refl _ | exact LeO.none _ | refine LeO.ite ?_ ?_ | refine LeO.bind ?_ (fun _ => ?_)) | exact LeO.none _ | refine LeO.ite ?_ ?_ | refine LeO.bind ?_ (fun _ => ?_)
  ·intro y0 y1 y2 y3 y4 y5 y6 y7 y8 y9 y10 y11
   unfold impl_CutClouds.l1
   repeat' first | (with_reducible first | exact ih0 _ _ _ _ _ | exact ih1 _ _ _ _ _ _ _ _ _ _ _ _ | exact impl_CloudSpans.mono _ _ _ | exact impl_CutSpans.mono _ _ _ | exact impl_Span_49.mono _ _ | exact LeO.refl _ | exact LeO.none _ | refine LeO.ite ?_ ?_ | refine LeO.bind ?_ (fun _ => ?_)) | exact LeO.none _ | refine LeO.ite ?_ ?_ | refine LeO.bind ?_ (fun _ => ?_)
theorem impl_CutClouds.mono : ∀ a0 a1 k, LeO (impl_CutClouds.f k a0 a1) (impl_CutClouds.f (k + 1) a0 a1) := by
 intro a0 a1 k
 obtain ⟨ih0, ih1⟩ := impl_CutClouds.mono_l k
 unfold impl_CutClouds.f
 repeat' first | (with_reducible first | exact ih0 _ _ _ _ _ | exact ih1 _ _ _ _ _ _ _ _ _ _ _ _ | exact impl_CloudSpans.mono _ _ _ | exact impl_CutSpans.mono _ _ _ | exact impl_Span_49.mono _ _ | exact LeO.refl _ | exact LeO.none _ | refine LeO.ite ?_ ?_ | refine LeO.bind ?_ (fun _ => ?_)) | exact LeO.none _ | refine LeO.ite ?_ ?_ | refine LeO.bind ?_ (fun _ => ?_)
def impl_CutClouds.T5 : Bool × List (List Nat × List Nat) := (true, [([], []), ([0], [0]), ([1], [1]), ([], []), ([], []), ([4], [4]), ([3, 5, 1], [3, 5]), ([], []), ([], []), ([8], [8]), ([7, 9, 6], [7, 9]), ([6, 10], [6, 10]), ([11, 10], [11]), ([2, 12, 12], [2, 12]), ([13], [13]), ([], [])])
def impl_CutClouds.B5 : List Nat := [0, 1, 3, 0, 0, 16, 59, 0, 0, 256, 1019, 2043, 4091, 8191, 16383, 0]
theorem impl_CutClouds.tab5 : rtab .any (opsOf Try.f23 5) = impl_CutClouds.T5 := by kernel_rfl
theorem impl_CutClouds.bits5 : waitsOk impl_CutClouds.T5.2 impl_CutClouds.B5 = true := by kernel_rfl
set_option maxHeartbeats 8000000 in
set_option maxRecDepth 100000 in
theorem impl_CutClouds.calls (k : Nat) (A0 : Option Addr) (c0 : Nat) (l0 : List (S82)) (A1 : Option Addr) (c1 : Nat) (l1 : List (S87)) (r : List (S82)) (w : World) (hr0 : Kd.C k82 w A0 l0.length l0) (hc0 : l0.length ≤ c0) (hr1 : Kd.C k87 w A1 l1.length l1) (hc1 : l1.length ≤ c1) (h : impl_CutClouds.f k l0 l1 = some r) :
  Calls Try.prog 23 #[.slice A0 l0.length c0, .slice A1 l1.length c1] w fun e w' => ∃ v0_ : Value, e = .returned (v0_) ∧ Kd.R k82 82 w' w.heap.size (fun _ => True) v0_ r ∧ Below w.heap.size w w' := by
 have hu82 := Try.underlying82
 have hu73 := Try.underlying73
 have HR0 := Aside0.mk hr0
 have HC0 := Aside0.mk hc0
 clear hr0 hc0
 have HR1 := Aside0.mk hr1
 have HC1 := Aside0.mk hc1
 clear hr1 hc1
 have HB := Aside0.mk (Below.refl w.heap.size w)
 have H := h
 clear h
 unfold impl_CutClouds.f at H
 replace H : ∃ y_ : List (S82), Aside0 (y_ = (([] : List (S82)))) ∧ (impl_CutClouds.l0 k l1 y_ l0 (l0.length : Int) 0) = some r := ⟨_, ⟨rfl⟩, yh_ H⟩
 obtain ⟨y255, Ny255, H⟩ := H
 have H' := Aside0.mk H
 clear H
 go_enter Try.func23, Try.ntmps23
 go_wp2_with (first | ((with_reducible refine gate_dst (N := 10) rfl ?_); refine Kd.R_lit k82 _ 82 ?hg (N := 10) ?hd (xs := ([] : List (S82))) (inner := []) (ok := fun _ => True) (okp := fun _ => True) ?hr ?hp (fun _ hk => hk) trivial (Below.refl _ _) (Nat.le_refl _) (by simp) ?_; (case hd => rfl); (case hg => rfl); (case hr => first | (go_simp; done) | (go_simp; rfl)); (case hp => exact (Reps.none _ _)); intro v256 w3 ho4 hb hg_ hnew_; clear hg_ hnew_; (first | rw [← Ny255.out] at ho4 | (simp only [Int.reduceToNat] at ho4; rw [← Ny255.out] at ho4)); refine sh2_ (Kd.R_lower ho4 (below_size (bl_ HB))) (below_step (bl_ HB) hb) ?_; clear HB hb ho4; intro HO257 HB))
 go_loopg [5, 13] k (fun kq v5 v13 w' => ∃ (x5_1 : List (S82)) (x13_1 : Int), v13 = .int .i64 x13_1 ∧ Aside0 (impl_CutClouds.l0 kq l1 x5_1 l0 (l0.length : Int) x13_1 = some r) ∧ Aside0 (kq ≤ k) ∧ Aside0 (Kd.R k82 82 w' w.heap.size (fun _ => True) v5 x5_1) ∧ Aside0 (Below w.heap.size w w'))
 case atStart => exact ⟨(y255), (0), (by first | rfl | (simp; done) | (simp [*]; done)), H', ⟨Nat.le_refl _⟩, ⟨ra_ HO257⟩, ⟨bl_ HB⟩⟩
 case round =>
  clear H'
  try clear c1
  try clear c2
  try clear p2
  obtain ⟨x5_1, x13_1, rfl, HA, HK1, HO_5, HB⟩ := hrel
  cases gk with
  | zero => exact absurd HA.out (by simp [impl_CutClouds.l0])
  | succ k1 =>
   have H := HA.out
   clear HA
   simp only [impl_CutClouds.l0] at H
   by_cases c5 : x13_1 < (l0.length : Int)
   ·rw [if_pos c5] at H
    have c5b0 := decide_eq_true c5
    clear c5
    replace H := ifn_ H
    obtain ⟨c6, H⟩ := H
    have c6b0 := decide_eq_true c6
    clear c6
    replace H := ifn_ H
    obtain ⟨c7, H⟩ := H
    have c7b0 := decide_eq_true c7
    clear c7
    replace H := bs_ H
    obtain ⟨⟨t260, t261⟩, A8, H⟩ := H
    dsimp only at H
    replace H : ∃ y_ : List (S73), Aside0 (y_ = (([(⟨t260, t261⟩ : S73)] : List (S73)))) ∧ ((impl_CloudSpans.f k1 l1 ((rd_T82 l0 x13_1).f0)).bind fun t265 => ((impl_CloudSpans.f k1 l1 ((rd_T82 l0 x13_1).f1)).bind fun t268 => ((impl_Span_49.f k1 (([t265, t268] : List (List (S73))))).bind fun t274 => ((impl_CutSpans.f k1 y_ t274).bind fun t277 => (impl_CutClouds.l1 k1 l1 x5_1 l0 (l0.length : Int) x13_1 t277 (t277.length : Int) 0 ((rd_T82 l0 x13_1).f0) ((rd_T82 l0 x13_1).f1) ((rd_T82 l0 x13_1).f2) ((rd_T82 l0 x13_1).f3)))))) = some r := ⟨_, ⟨rfl⟩, yh_ H⟩
    obtain ⟨y262, Ny262, H⟩ := H
    replace H := bs_ H
    obtain ⟨t265, A9, H⟩ := H
    replace H := bs_ H
    obtain ⟨t268, A10, H⟩ := H
    replace H : ∃ y_ : List (List (S73)), Aside0 (y_ = (([t265, t268] : List (List (S73))))) ∧ ((impl_Span_49.f k1 y_).bind fun t274 => ((impl_CutSpans.f k1 y262 t274).bind fun t277 => (impl_CutClouds.l1 k1 l1 x5_1 l0 (l0.length : Int) x13_1 t277 (t277.length : Int) 0 ((rd_T82 l0 x13_1).f0) ((rd_T82 l0 x13_1).f1) ((rd_T82 l0 x13_1).f2) ((rd_T82 l0 x13_1).f3)))) = some r := ⟨_, ⟨rfl⟩, yh_ H⟩
    obtain ⟨y271, Ny271, H⟩ := H
    replace H := bs_ H
    obtain ⟨t274, A11, H⟩ := H
    replace H := bs_ H
    obtain ⟨t277, A12, H⟩ := H
    have H' := Aside0.mk H
    clear H
    have p258 : 0 ≤ (x13_1 : Int) := od_
    have q258 : x13_1 < (l0.length : Int) := od_
    obtain ⟨ad258, e258, hx258_0, hx258_1, hx258_2, hx258_3⟩ := at_T82 HR0.out x13_1 p258 q258
    cases e258
    replace hx258_0 := hbc_ HB hx258_0
    replace hx258_1 := hbc_ HB hx258_1
    replace hx258_2 := hbc_ HB hx258_2
    replace hx258_3 := hbc_ HB hx258_3
    replace p258 := eq_true p258
    replace q258 := eq_true q258
    try go_wp2_with (first | ((with_reducible refine gd_ 7 ?_); refine bx_ 7 82 #[.int .i64 0, .int .i64 0, .int .i64 0, .int .i64 0] ?_; intro gb259 hg w13 hbox hb; refine sh5_ (Kd.R_below (Kd.R_elderB (ra_ HO_5) gb259 (Nat.le_of_eq hg.symm)) hb) (below_step (bl_ HB) hb) hbox (ge_ hg (bl_ HB)) (ge_ hg (bl_ HB)) ?_; clear HO_5 HB hb hbox hg; intro HO_5 HB BK259 GW259 GE259; have hcz14 := cf4_ BK259))
    have n0_ : Aside0 (Kd.R k82 82 ((((w13.setCell ⟨gb259, 0, none⟩ (.int .i64 ((rd_T82 l0 x13_1).f0))).setCell ⟨gb259, 1, none⟩ (.int .i64 ((rd_T82 l0 x13_1).f1))).setCell ⟨gb259, 2, none⟩ (.int .i64 ((rd_T82 l0 x13_1).f2))).setCell ⟨gb259, 3, none⟩ (.int .i64 ((rd_T82 l0 x13_1).f3))) w.heap.size (fun k_ => k_ ≠ gb259) u5 x5_1) := ⟨by (with_reducible repeat (first | apply Kd.R_alloc | apply Kd.R_drewN | apply Kd.R_drew)); exact Kd.R_mono (Kd.R_far (p := ⟨gb259, 3, none⟩) (Kd.R_far (p := ⟨gb259, 2, none⟩) (Kd.R_far (p := ⟨gb259, 1, none⟩) (Kd.R_far (p := ⟨gb259, 0, none⟩) (Kd.R_mono HO_5.out (fun k_ hk => (⟨hk, hk.2⟩ : _ ∧ k_ ≠ gb259))) (fun _ hk => hk.2) (.int .i64 ((rd_T82 l0 x13_1).f0))) (fun _ hk => hk.2) (.int .i64 ((rd_T82 l0 x13_1).f1))) (fun _ hk => hk.2) (.int .i64 ((rd_T82 l0 x13_1).f2))) (fun _ hk => hk.2) (.int .i64 ((rd_T82 l0 x13_1).f3))) (fun _ hk => hk.1.2)⟩
    have n1_ : Aside0 (((((w13.setCell ⟨gb259, 0, none⟩ (.int .i64 ((rd_T82 l0 x13_1).f0))).setCell ⟨gb259, 1, none⟩ (.int .i64 ((rd_T82 l0 x13_1).f1))).setCell ⟨gb259, 2, none⟩ (.int .i64 ((rd_T82 l0 x13_1).f2))).setCell ⟨gb259, 3, none⟩ (.int .i64 ((rd_T82 l0 x13_1).f3))).heap[gb259]? = some (.cells #[.int .i64 ((rd_T82 l0 x13_1).f0), .int .i64 ((rd_T82 l0 x13_1).f1), .int .i64 ((rd_T82 l0 x13_1).f2), .int .i64 ((rd_T82 l0 x13_1).f3)] 82 (0, 0))) := ⟨by (with_reducible repeat (first | refine blk_drewN ?_ _ | refine blk_drew ?_ | refine blk_alloc ?_ _)); refine blk_put (cs := #[.int .i64 ((rd_T82 l0 x13_1).f0), .int .i64 ((rd_T82 l0 x13_1).f1), .int .i64 ((rd_T82 l0 x13_1).f2), .int .i64 0]) ?_ 3 _ rfl; (with_reducible repeat (first | refine blk_drewN ?_ _ | refine blk_drew ?_ | refine blk_alloc ?_ _)); refine blk_put (cs := #[.int .i64 ((rd_T82 l0 x13_1).f0), .int .i64 ((rd_T82 l0 x13_1).f1), .int .i64 0, .int .i64 0]) ?_ 2 _ rfl; (with_reducible repeat (first | refine blk_drewN ?_ _ | refine blk_drew ?_ | refine blk_alloc ?_ _)); refine blk_put (cs := #[.int .i64 ((rd_T82 l0 x13_1).f0), .int .i64 0, .int .i64 0, .int .i64 0]) ?_ 1 _ rfl; (with_reducible repeat (first | refine blk_drewN ?_ _ | refine blk_drew ?_ | refine blk_alloc ?_ _)); refine blk_put (cs := #[.int .i64 0, .int .i64 0, .int .i64 0, .int .i64 0]) ?_ 0 _ rfl; (with_reducible repeat (first | refine blk_drewN ?_ _ | refine blk_drew ?_ | refine blk_alloc ?_ _)); exact BK259.out⟩
    have n2_ : Aside0 (Below w.heap.size w ((((w13.setCell ⟨gb259, 0, none⟩ (.int .i64 ((rd_T82 l0 x13_1).f0))).setCell ⟨gb259, 1, none⟩ (.int .i64 ((rd_T82 l0 x13_1).f1))).setCell ⟨gb259, 2, none⟩ (.int .i64 ((rd_T82 l0 x13_1).f2))).setCell ⟨gb259, 3, none⟩ (.int .i64 ((rd_T82 l0 x13_1).f3)))) := ⟨bl1_ HB GE259⟩
    (try clear HO_5)
    (try clear BK259)
    (try clear HB)
    generalize ((((w13.setCell ⟨gb259, 0, none⟩ (.int .i64 ((rd_T82 l0 x13_1).f0))).setCell ⟨gb259, 1, none⟩ (.int .i64 ((rd_T82 l0 x13_1).f1))).setCell ⟨gb259, 2, none⟩ (.int .i64 ((rd_T82 l0 x13_1).f2))).setCell ⟨gb259, 3, none⟩ (.int .i64 ((rd_T82 l0 x13_1).f3))) = w15 at n0_ n1_ n2_ ⊢
    have HO_5 := n0_
    have BK259 := n1_
    have HB := n2_
    clear n0_ n1_ n2_
    refine sh3_ (Kd.R_drew HO_5.out) (blk_drew BK259.out) (below_drew1 HB.out) ?_
    clear HO_5 BK259 HB
    intro HO_5 BK259 HB
    refine start_ (n := 16) (S := fun w' => True) (ds := []) #[false, false, false, false, false, false, false, false, false, false, false, false, false, false, false, false] (by kernel_rfl) rfl rfl trivial (fun hHeld => ?_); refine with_tabW impl_CutClouds.tab5 impl_CutClouds.bits5 (fun HT_ HW_ => ?_)
    generalize w15.drew = w16 at HO_5 BK259 HB hHeld ⊢
    refine pur_ 3 #[false, false, false, true, false, false, false, false, false, false, false, false, false, false, false, false] (some 20) HT_ ?_
    refine pur_ 4 #[false, false, false, true, true, false, false, false, false, false, false, false, false, false, false, false] (some 21) HT_ ?_
    refine pur_ 7 #[false, false, false, true, true, false, false, true, false, false, false, false, false, false, false, false] (some 24) HT_ ?_
    refine pur_ 8 #[false, false, false, true, true, false, false, true, true, false, false, false, false, false, false, false] (some 25) HT_ ?_
    refine pur_ 15 #[false, false, false, true, true, false, false, true, true, false, false, false, false, false, false, true] (some 32) HT_ ?_
    refine inv_at [0, 1, 2, 5, 6, 9, 10, 11, 12, 13, 14] (fun a0_ b a w' => ∃ (v263 : Value) (v266 : Value) (v269 : Value) (v272 : Value) (v275 : Value) (v278 : Value), a = putSel a0_ b [(0, 17, .agg #[.int .i64 ((rd_T82 l0 x13_1).f0), .int .i64 ((rd_T82 l0 x13_1).f1), .int .i64 ((rd_T82 l0 x13_1).f2), .int .i64 ((rd_T82 l0 x13_1).f3)]), (1, 18, .agg #[.int .i64 t260, .int .i64 t261]), (2, 19, v263), (5, 22, .int .i64 ((rd_T82 l0 x13_1).f0)), (6, 23, v266), (9, 26, .int .i64 ((rd_T82 l0 x13_1).f1)), (10, 27, v269), (11, 28, v272), (12, 29, v275), (13, 30, v278), (14, 31, .int .i64 (t277.length : Int))] ∧ (Kd.R k82 82 w' w.heap.size (fun k_ => k_ ≠ gb259) u5 x5_1) ∧ (w'.heap[gb259]? = some (.cells #[.int .i64 ((rd_T82 l0 x13_1).f0), .int .i64 ((rd_T82 l0 x13_1).f1), .int .i64 ((rd_T82 l0 x13_1).f2), .int .i64 ((rd_T82 l0 x13_1).f3)] 82 (0, 0))) ∧ (Below w.heap.size w w') ∧ (b 2 = true → Kd.R k73 73 w' w.heap.size (fun _ => True) v263 y262) ∧ (b 6 = true → b 11 = false → Kd.R k73 73 w' w.heap.size (fun _ => True) v266 t265) ∧ (b 10 = true → b 11 = false → Kd.R k73 73 w' w.heap.size (fun _ => True) v269 t268) ∧ (b 11 = true → Kd.N (Kd.slice 73 k73) 28 w' w.heap.size (fun k_ => some k_ ≠ (u5 : Value).ownBlock ∧ k_ ≠ gb259) v272 y271) ∧ (b 12 = true → Kd.R k73 73 w' w.heap.size (fun _ => True) v275 t274) ∧ (b 13 = true → Kd.R k73 73 w' w.heap.size (fun _ => True) v278 t277)) HT_.out HW_.out (by kernel_rfl) (by kernel_rfl) ?_ ?_ ?_
    ·exact ⟨.bool false, .bool false, .bool false, .bool false, .bool false, .bool false, by simp only [putSel, Bool.false_eq_true, if_false], HO_5.out, BK259.out, HB.out, fun h_ => absurd h_ (by decide), fun h_ => absurd h_ (by decide), fun h_ => absurd h_ (by decide), fun h_ => absurd h_ (by decide), fun h_ => absurd h_ (by decide), fun h_ => absurd h_ (by decide)⟩
    ·skip
     clear BK259 HB HO_5
     refine steps_cons ?_ ?_
     ·rintro b a w' ⟨v263, v266, v269, v272, v275, v278, ha, Q_HO_5, Q_BK259, Q_HB, Q_HO264, Q_HO267, Q_HO270, Q_HO273, Q_HO276, Q_HO279⟩ hb_ hon hoff
      refine ⟨_, rfl, fun K hK => ?_⟩
      have e7 : a.tmps[7]? = some (.pointer (some ⟨gb259, 0, none⟩)) := by rw [ha]; exact (putSel_off rfl).trans rfl
      replace ha := Aside0.mk ha
      have HO_5 := Aside0.mk Q_HO_5
      have BK259 := Aside0.mk Q_BK259
      have HB := Aside0.mk Q_HB
      have hc0_ : w'.cell? ⟨gb259, 0, none⟩ = some (.int .i64 ((rd_T82 l0 x13_1).f0)) := bc_ BK259 0 rfl
      have hc1_ : w'.cell? ⟨gb259, 1, none⟩ = some (.int .i64 ((rd_T82 l0 x13_1).f1)) := bc_ BK259 1 rfl
      have hc2_ : w'.cell? ⟨gb259, 2, none⟩ = some (.int .i64 ((rd_T82 l0 x13_1).f2)) := bc_ BK259 2 rfl
      have hc3_ : w'.cell? ⟨gb259, 3, none⟩ = some (.int .i64 ((rd_T82 l0 x13_1).f3)) := bc_ BK259 3 rfl
      refine value_ (w1 := w') (v := .agg #[.int .i64 ((rd_T82 l0 x13_1).f0), .int .i64 ((rd_T82 l0 x13_1).f1), .int .i64 ((rd_T82 l0 x13_1).f2), .int .i64 ((rd_T82 l0 x13_1).f3)]) (by rfl) rfl ?_ ?_
      ·go_simp
       (try simp only [i64_w])
       try rfl
      refine hK.out _ _ ⟨v263, v266, v269, v272, v275, v278, (by rw [ha.out]; exact putSel_upk 0 hb_ rfl rfl rfl), Q_HO_5, Q_BK259, Q_HB, fun h0_ => absurd ((hoff 2 (by kernel_rfl)).symm.trans h0_) (by decide), fun h0_ _ => absurd ((hoff 6 (by kernel_rfl)).symm.trans h0_) (by decide), fun h0_ _ => absurd ((hoff 10 (by kernel_rfl)).symm.trans h0_) (by decide), fun h0_ => absurd ((hoff 11 (by kernel_rfl)).symm.trans h0_) (by decide), fun h0_ => absurd ((hoff 12 (by kernel_rfl)).symm.trans h0_) (by decide), fun h0_ => absurd ((hoff 13 (by kernel_rfl)).symm.trans h0_) (by decide)⟩
     refine steps_cons ?_ ?_
     ·rintro b a w' ⟨v263, v266, v269, v272, v275, v278, ha, Q_HO_5, Q_BK259, Q_HB, Q_HO264, Q_HO267, Q_HO270, Q_HO273, Q_HO276, Q_HO279⟩ hb_ hon hoff
      refine ⟨_, rfl, fun K hK => ?_⟩
      have e17 : a.tmps[17]? = some (.agg #[.int .i64 ((rd_T82 l0 x13_1).f0), .int .i64 ((rd_T82 l0 x13_1).f1), .int .i64 ((rd_T82 l0 x13_1).f2), .int .i64 ((rd_T82 l0 x13_1).f3)]) := by rw [ha]; exact putSel_on (e := (0, 17, .agg #[.int .i64 ((rd_T82 l0 x13_1).f0), .int .i64 ((rd_T82 l0 x13_1).f1), .int .i64 ((rd_T82 l0 x13_1).f2), .int .i64 ((rd_T82 l0 x13_1).f3)])) 0 rfl rfl (hon 0 (by kernel_rfl)) rfl
      replace ha := Aside0.mk ha
      have HO_5 := Aside0.mk Q_HO_5
      have BK259 := Aside0.mk Q_BK259
      have HB := Aside0.mk Q_HB
      refine goes_ Try.func61 (by kernel_rfl) rfl #[.agg #[.int .i64 ((rd_T82 l0 x13_1).f0), .int .i64 ((rd_T82 l0 x13_1).f1), .int .i64 ((rd_T82 l0 x13_1).f2), .int .i64 ((rd_T82 l0 x13_1).f3)]] (by rfl) rfl rfl (by first | (simp only [List.map_toArray, List.map_cons, List.map_nil, Act.eval, Array.getD_eq_getD_getElem?, Option.getD_some, e17]; done) | (simp only [List.map_toArray, List.map_cons, List.map_nil, Act.eval, Array.getD_eq_getD_getElem?, Option.getD_some, e17]; rfl)) ?_
      with_reducible refine (impl_spanOf.calls ((rd_T82 l0 x13_1).f0) ((rd_T82 l0 x13_1).f1) ((rd_T82 l0 x13_1).f2) ((rd_T82 l0 x13_1).f3) t260 t261 _ A8.out).mono ?_
      rintro e w17 ⟨rfl, hb⟩
      refine ⟨_, rfl, sh3_ (Kd.R_below (ra_ HO_5) hb) (blk_below (bk_ BK259) hb) (below_step (bl1_ HB GE259) hb) ?_⟩
      clear HO_5 BK259 HB hb
      intro HO_5 BK259 HB
      refine hK.out _ _ ⟨v263, v266, v269, v272, v275, v278, (by rw [ha.out]; exact putSel_upk 1 hb_ rfl rfl rfl), (ra_ HO_5), (bk_ BK259), (bl1_ HB GE259), fun h0_ => absurd ((hoff 2 (by kernel_rfl)).symm.trans h0_) (by decide), fun h0_ _ => absurd ((hoff 6 (by kernel_rfl)).symm.trans h0_) (by decide), fun h0_ _ => absurd ((hoff 10 (by kernel_rfl)).symm.trans h0_) (by decide), fun h0_ => absurd ((hoff 11 (by kernel_rfl)).symm.trans h0_) (by decide), fun h0_ => absurd ((hoff 12 (by kernel_rfl)).symm.trans h0_) (by decide), fun h0_ => absurd ((hoff 13 (by kernel_rfl)).symm.trans h0_) (by decide)⟩
     refine steps_cons ?_ ?_
     ·rintro b a w' ⟨v263, v266, v269, v272, v275, v278, ha, Q_HO_5, Q_BK259, Q_HB, Q_HO264, Q_HO267, Q_HO270, Q_HO273, Q_HO276, Q_HO279⟩ hb_ hon hoff
      refine ⟨_, rfl, fun K hK => ?_⟩
      have e18 : a.tmps[18]? = some (.agg #[.int .i64 t260, .int .i64 t261]) := by rw [ha]; exact putSel_on (e := (1, 18, .agg #[.int .i64 t260, .int .i64 t261])) 1 rfl rfl (hon 1 (by kernel_rfl)) rfl
      replace ha := Aside0.mk ha
      have HO_5 := Aside0.mk Q_HO_5
      have BK259 := Aside0.mk Q_BK259
      have HB := Aside0.mk Q_HB
      refine Kd.R_lit_step k73 _ 73 ?hg (N := 19) ?hd (xs := ([(⟨t260, t261⟩ : S73)] : List (S73))) (inner := [.int .i64 t260, .int .i64 t261]) (ok := fun _ => True) (okp := fun _ => True) ?hr ?hp (fun _ hk => hk) trivial (Below.refl _ _) (Nat.le_refl _) (by simp) ?_; (case hd => rfl); (case hg => rfl); (case hr => first | (go_simp; done) | (go_simp; rfl)); (case hp => exact (Reps.c2 (show Kd.M k73 _ _ _ (⟨t260, t261⟩ : S73) [.int .i64 t260, .int .i64 t261] from (k73_mkM _ _ _ (⟨t260, t261⟩ : S73) )) (Reps.none _ _)))
      intro v263 w19 ho20 hb hg_ hnew_
      clear hg_ hnew_
      (first | rw [← Ny262.out] at ho20 | (simp only [Int.reduceToNat] at ho20; rw [← Ny262.out] at ho20))
      have n0_ := Aside0.mk (Kd.R_below (ra_ HO_5) hb)
      have n1_ := Aside0.mk (Kd.R_lower ho20 (below_size (bl1_ HB GE259)))
      have n2_ := Aside0.mk (blk_below (bk_ BK259) hb)
      have n3_ := Aside0.mk (below_step (bl1_ HB GE259) hb)
      have z_HO267 := fun (h0_ : b 6 = true) (h1_ : b 11 = false) => (show Kd.R k73 73 w19 w.heap.size (fun _ => True) v266 t265 from by first | exact (Kd.R_elder' (by (with_reducible repeat (first | apply Kd.R_alloc | apply Kd.R_drewN | apply Kd.R_drew)); exact (Q_HO267 h0_ h1_)) (Kd.R_base ho20) hb) | exact Kd.R_mono (Kd.R_elder' (by (with_reducible repeat (first | apply Kd.R_alloc | apply Kd.R_drewN | apply Kd.R_drew)); exact (Q_HO267 h0_ h1_)) (Kd.R_base ho20) hb) (fun _ h_ => by first | trivial | exact h_ | exact h_.1))
      have z_HO270 := fun (h0_ : b 10 = true) (h1_ : b 11 = false) => (show Kd.R k73 73 w19 w.heap.size (fun _ => True) v269 t268 from by first | exact (Kd.R_elder' (by (with_reducible repeat (first | apply Kd.R_alloc | apply Kd.R_drewN | apply Kd.R_drew)); exact (Q_HO270 h0_ h1_)) (Kd.R_base ho20) hb) | exact Kd.R_mono (Kd.R_elder' (by (with_reducible repeat (first | apply Kd.R_alloc | apply Kd.R_drewN | apply Kd.R_drew)); exact (Q_HO270 h0_ h1_)) (Kd.R_base ho20) hb) (fun _ h_ => by first | trivial | exact h_ | exact h_.1))
      have z_HO273 := fun (h0_ : b 11 = true) => (show Kd.N (Kd.slice 73 k73) 28 w19 w.heap.size (fun k_ => some k_ ≠ (u5 : Value).ownBlock ∧ k_ ≠ gb259) v272 y271 from by first | exact (Kd.N_elder' (by (with_reducible repeat (first | apply Kd.N_alloc | apply Kd.N_drewN | apply Kd.N_drew)); exact (Q_HO273 h0_)) (Kd.R_base ho20) hb) | exact Kd.N_mono (Kd.N_elder' (by (with_reducible repeat (first | apply Kd.N_alloc | apply Kd.N_drewN | apply Kd.N_drew)); exact (Q_HO273 h0_)) (Kd.R_base ho20) hb) (fun _ h_ => by first | trivial | exact h_ | exact h_.1))
      have z_HO276 := fun (h0_ : b 12 = true) => (show Kd.R k73 73 w19 w.heap.size (fun _ => True) v275 t274 from by first | exact (Kd.R_elder' (by (with_reducible repeat (first | apply Kd.R_alloc | apply Kd.R_drewN | apply Kd.R_drew)); exact (Q_HO276 h0_)) (Kd.R_base ho20) hb) | exact Kd.R_mono (Kd.R_elder' (by (with_reducible repeat (first | apply Kd.R_alloc | apply Kd.R_drewN | apply Kd.R_drew)); exact (Q_HO276 h0_)) (Kd.R_base ho20) hb) (fun _ h_ => by first | trivial | exact h_ | exact h_.1))
      clear HO_5
      clear BK259
      clear HB
      have HO_5 := n0_
      have HO264 := n1_
      have BK259 := n2_
      have HB := n3_
      clear n0_ n1_ n2_ n3_
      clear hb ho20
      refine hK.out _ _ ⟨v263, v266, v269, v272, v275, v278, (by rw [ha.out]; exact putSel_upk 2 hb_ rfl rfl rfl), (ra_ HO_5), (bk_ BK259), (bl1_ HB GE259), fun _ => (ro_ HO264), z_HO267, z_HO270, z_HO273, z_HO276, fun h0_ => absurd ((hoff 13 (by kernel_rfl)).symm.trans h0_) (by decide)⟩
     refine steps_cons ?_ ?_
     ·rintro b a w' ⟨v263, v266, v269, v272, v275, v278, ha, Q_HO_5, Q_BK259, Q_HB, Q_HO264, Q_HO267, Q_HO270, Q_HO273, Q_HO276, Q_HO279⟩ hb_ hon hoff
      refine ⟨_, rfl, fun K hK => ?_⟩
      have e21 : a.tmps[21]? = some (.pointer (some ⟨gb259, 0, none⟩)) := by rw [ha]; exact (putSel_off rfl).trans rfl
      replace ha := Aside0.mk ha
      have HO_5 := Aside0.mk Q_HO_5
      have BK259 := Aside0.mk Q_BK259
      have HB := Aside0.mk Q_HB
      have hc0_ : w'.cell? ⟨gb259, 0, none⟩ = some (.int .i64 ((rd_T82 l0 x13_1).f0)) := bc_ BK259 0 rfl
      have hc1_ : w'.cell? ⟨gb259, 1, none⟩ = some (.int .i64 ((rd_T82 l0 x13_1).f1)) := bc_ BK259 1 rfl
      have hc2_ : w'.cell? ⟨gb259, 2, none⟩ = some (.int .i64 ((rd_T82 l0 x13_1).f2)) := bc_ BK259 2 rfl
      have hc3_ : w'.cell? ⟨gb259, 3, none⟩ = some (.int .i64 ((rd_T82 l0 x13_1).f3)) := bc_ BK259 3 rfl
      refine value_ (w1 := w') (v := .int .i64 ((rd_T82 l0 x13_1).f0)) (by rfl) rfl ?_ ?_
      ·go_simp
       (try simp only [i64_w])
       try rfl
      refine hK.out _ _ ⟨v263, v266, v269, v272, v275, v278, (by rw [ha.out]; exact putSel_upk 3 hb_ rfl rfl rfl), Q_HO_5, Q_BK259, Q_HB, Q_HO264, fun h0_ _ => absurd ((hoff 6 (by kernel_rfl)).symm.trans h0_) (by decide), fun h0_ _ => absurd ((hoff 10 (by kernel_rfl)).symm.trans h0_) (by decide), fun h0_ => absurd ((hoff 11 (by kernel_rfl)).symm.trans h0_) (by decide), fun h0_ => absurd ((hoff 12 (by kernel_rfl)).symm.trans h0_) (by decide), fun h0_ => absurd ((hoff 13 (by kernel_rfl)).symm.trans h0_) (by decide)⟩
     refine steps_cons ?_ ?_
     ·rintro b a w' ⟨v263, v266, v269, v272, v275, v278, ha, Q_HO_5, Q_BK259, Q_HB, Q_HO264, Q_HO267, Q_HO270, Q_HO273, Q_HO276, Q_HO279⟩ hb_ hon hoff
      refine ⟨_, rfl, fun K hK => ?_⟩
      have e20 : a.tmps[20]? = some (.slice A1 l1.length c1) := by rw [ha]; exact (putSel_off rfl).trans rfl
      have e22 : a.tmps[22]? = some (.int .i64 ((rd_T82 l0 x13_1).f0)) := by rw [ha]; exact putSel_on (e := (5, 22, .int .i64 ((rd_T82 l0 x13_1).f0))) 3 rfl rfl (hon 5 (by kernel_rfl)) rfl
      replace ha := Aside0.mk ha
      have HO_5 := Aside0.mk Q_HO_5
      have BK259 := Aside0.mk Q_BK259
      have HB := Aside0.mk Q_HB
      refine goes_ Try.func62 (by kernel_rfl) rfl #[.slice A1 l1.length c1, .int .i64 ((rd_T82 l0 x13_1).f0)] (by rfl) rfl rfl (by first | (simp only [List.map_toArray, List.map_cons, List.map_nil, Act.eval, Array.getD_eq_getD_getElem?, Option.getD_some, e20, e22]; done) | (simp only [List.map_toArray, List.map_cons, List.map_nil, Act.eval, Array.getD_eq_getD_getElem?, Option.getD_some, e20, e22]; rfl)) ?_
      with_reducible refine (impl_CloudSpans.calls k1 _ _ l1 ((rd_T82 l0 x13_1).f0) t265 _ ?side1 ?side2 A9.out).mono ?_
      (case side1 => exact ck_ HR1 HB)
      (case side2 => exact HC1.out)
      rintro e w19 ⟨v266, rfl, ho0, hb⟩
      refine ⟨_, rfl, ?_⟩
      have n0_ := Aside0.mk (Kd.R_below (ra_ HO_5) hb)
      have n1_ := Aside0.mk (Kd.R_lower ho0 (below_size (bl1_ HB GE259)))
      have n2_ := Aside0.mk (blk_below (bk_ BK259) hb)
      have n3_ := Aside0.mk (below_step (bl1_ HB GE259) hb)
      have z_HO264 := fun (h0_ : b 2 = true) => (show Kd.R k73 73 w19 w.heap.size (fun _ => True) v263 y262 from by first | exact (Kd.R_elder' (by (with_reducible repeat (first | apply Kd.R_alloc | apply Kd.R_drewN | apply Kd.R_drew)); exact (Q_HO264 h0_)) (Kd.R_base ho0) hb) | exact Kd.R_mono (Kd.R_elder' (by (with_reducible repeat (first | apply Kd.R_alloc | apply Kd.R_drewN | apply Kd.R_drew)); exact (Q_HO264 h0_)) (Kd.R_base ho0) hb) (fun _ h_ => by first | trivial | exact h_ | exact h_.1))
      clear HO_5
      clear BK259
      clear HB
      have HO_5 := n0_
      have HO267 := n1_
      have BK259 := n2_
      have HB := n3_
      clear n0_ n1_ n2_ n3_
      (try clear hb)
      (try clear hb2)
      (try clear hk)
      (try clear hi)
      (try clear ho0)
      refine hK.out _ _ ⟨v263, v266, v269, v272, v275, v278, (by rw [ha.out]; exact putSel_upk 4 hb_ rfl rfl rfl), (ra_ HO_5), (bk_ BK259), (bl1_ HB GE259), z_HO264, fun _ _ => (ra_ HO267), fun h0_ _ => absurd ((hoff 10 (by kernel_rfl)).symm.trans h0_) (by decide), fun h0_ => absurd ((hoff 11 (by kernel_rfl)).symm.trans h0_) (by decide), fun h0_ => absurd ((hoff 12 (by kernel_rfl)).symm.trans h0_) (by decide), fun h0_ => absurd ((hoff 13 (by kernel_rfl)).symm.trans h0_) (by decide)⟩
     refine steps_cons ?_ ?_
     ·rintro b a w' ⟨v263, v266, v269, v272, v275, v278, ha, Q_HO_5, Q_BK259, Q_HB, Q_HO264, Q_HO267, Q_HO270, Q_HO273, Q_HO276, Q_HO279⟩ hb_ hon hoff
      refine ⟨_, rfl, fun K hK => ?_⟩
      have e25 : a.tmps[25]? = some (.pointer (some ⟨gb259, 1, none⟩)) := by rw [ha]; exact (putSel_off rfl).trans rfl
      replace ha := Aside0.mk ha
      have HO_5 := Aside0.mk Q_HO_5
      have BK259 := Aside0.mk Q_BK259
      have HB := Aside0.mk Q_HB
      have hc0_ : w'.cell? ⟨gb259, 0, none⟩ = some (.int .i64 ((rd_T82 l0 x13_1).f0)) := bc_ BK259 0 rfl
      have hc1_ : w'.cell? ⟨gb259, 1, none⟩ = some (.int .i64 ((rd_T82 l0 x13_1).f1)) := bc_ BK259 1 rfl
      have hc2_ : w'.cell? ⟨gb259, 2, none⟩ = some (.int .i64 ((rd_T82 l0 x13_1).f2)) := bc_ BK259 2 rfl
      have hc3_ : w'.cell? ⟨gb259, 3, none⟩ = some (.int .i64 ((rd_T82 l0 x13_1).f3)) := bc_ BK259 3 rfl
      refine value_ (w1 := w') (v := .int .i64 ((rd_T82 l0 x13_1).f1)) (by rfl) rfl ?_ ?_
      ·go_simp
       (try simp only [i64_w])
       try rfl
      refine hK.out _ _ ⟨v263, v266, v269, v272, v275, v278, (by rw [ha.out]; exact putSel_upk 5 hb_ rfl rfl rfl), Q_HO_5, Q_BK259, Q_HB, Q_HO264, Q_HO267, fun h0_ _ => absurd ((hoff 10 (by kernel_rfl)).symm.trans h0_) (by decide), fun h0_ => absurd ((hoff 11 (by kernel_rfl)).symm.trans h0_) (by decide), fun h0_ => absurd ((hoff 12 (by kernel_rfl)).symm.trans h0_) (by decide), fun h0_ => absurd ((hoff 13 (by kernel_rfl)).symm.trans h0_) (by decide)⟩
     refine steps_cons ?_ ?_
     ·rintro b a w' ⟨v263, v266, v269, v272, v275, v278, ha, Q_HO_5, Q_BK259, Q_HB, Q_HO264, Q_HO267, Q_HO270, Q_HO273, Q_HO276, Q_HO279⟩ hb_ hon hoff
      refine ⟨_, rfl, fun K hK => ?_⟩
      have e24 : a.tmps[24]? = some (.slice A1 l1.length c1) := by rw [ha]; exact (putSel_off rfl).trans rfl
      have e26 : a.tmps[26]? = some (.int .i64 ((rd_T82 l0 x13_1).f1)) := by rw [ha]; exact putSel_on (e := (9, 26, .int .i64 ((rd_T82 l0 x13_1).f1))) 5 rfl rfl (hon 9 (by kernel_rfl)) rfl
      replace ha := Aside0.mk ha
      have HO_5 := Aside0.mk Q_HO_5
      have BK259 := Aside0.mk Q_BK259
      have HB := Aside0.mk Q_HB
      have HO267 := Aside0.mk (Q_HO267 (hon 6 (by kernel_rfl)) (hoff 11 (by kernel_rfl)))
      refine goes_ Try.func62 (by kernel_rfl) rfl #[.slice A1 l1.length c1, .int .i64 ((rd_T82 l0 x13_1).f1)] (by rfl) rfl rfl (by first | (simp only [List.map_toArray, List.map_cons, List.map_nil, Act.eval, Array.getD_eq_getD_getElem?, Option.getD_some, e24, e26]; done) | (simp only [List.map_toArray, List.map_cons, List.map_nil, Act.eval, Array.getD_eq_getD_getElem?, Option.getD_some, e24, e26]; rfl)) ?_
      with_reducible refine (impl_CloudSpans.calls k1 _ _ l1 ((rd_T82 l0 x13_1).f1) t268 _ ?side1 ?side2 A10.out).mono ?_
      (case side1 => exact ck_ HR1 HB)
      (case side2 => exact HC1.out)
      rintro e w20 ⟨v269, rfl, ho0, hb⟩
      refine ⟨_, rfl, ?_⟩
      have n0_ := Aside0.mk (Kd.R_below (ra_ HO_5) hb)
      have n1_ := Aside0.mk (Kd.R_elder' (ra_ HO267) (Kd.R_base ho0) hb)
      have n2_ := Aside0.mk (Kd.R_lower (Kd.R_new' ho0 (Kd.R_lt (ra_ HO267))) (below_size (bl1_ HB GE259)))
      have n3_ := Aside0.mk (blk_below (bk_ BK259) hb)
      have n4_ := Aside0.mk (below_step (bl1_ HB GE259) hb)
      have z_HO264 := fun (h0_ : b 2 = true) => (show Kd.R k73 73 w20 w.heap.size (fun _ => True) v263 y262 from by first | exact (Kd.R_elder' (by (with_reducible repeat (first | apply Kd.R_alloc | apply Kd.R_drewN | apply Kd.R_drew)); exact (Q_HO264 h0_)) (Kd.R_base ho0) hb) | exact Kd.R_mono (Kd.R_elder' (by (with_reducible repeat (first | apply Kd.R_alloc | apply Kd.R_drewN | apply Kd.R_drew)); exact (Q_HO264 h0_)) (Kd.R_base ho0) hb) (fun _ h_ => by first | trivial | exact h_ | exact h_.1))
      clear HO_5
      clear HO267
      clear BK259
      clear HB
      have HO_5 := n0_
      have HO267 := n1_
      have HO270 := n2_
      have BK259 := n3_
      have HB := n4_
      clear n0_ n1_ n2_ n3_ n4_
      (try clear hb)
      (try clear hb2)
      (try clear hk)
      (try clear hi)
      (try clear ho0)
      refine hK.out _ _ ⟨v263, v266, v269, v272, v275, v278, (by rw [ha.out]; exact putSel_upk 6 hb_ rfl rfl rfl), (ra_ HO_5), (bk_ BK259), (bl1_ HB GE259), z_HO264, fun _ _ => (ro_ HO267), fun _ _ => (ro_ HO270), fun h0_ => absurd ((hoff 11 (by kernel_rfl)).symm.trans h0_) (by decide), fun h0_ => absurd ((hoff 12 (by kernel_rfl)).symm.trans h0_) (by decide), fun h0_ => absurd ((hoff 13 (by kernel_rfl)).symm.trans h0_) (by decide)⟩
     refine steps_cons ?_ ?_
     ·rintro b a w' ⟨v263, v266, v269, v272, v275, v278, ha, Q_HO_5, Q_BK259, Q_HB, Q_HO264, Q_HO267, Q_HO270, Q_HO273, Q_HO276, Q_HO279⟩ hb_ hon hoff
      refine ⟨_, rfl, fun K hK => ?_⟩
      have e23 : a.tmps[23]? = some (v266) := by rw [ha]; exact putSel_on (e := (6, 23, v266)) 4 rfl rfl (hon 6 (by kernel_rfl)) rfl
      have e27 : a.tmps[27]? = some (v269) := by rw [ha]; exact putSel_on (e := (10, 27, v269)) 6 rfl rfl (hon 10 (by kernel_rfl)) rfl
      replace ha := Aside0.mk ha
      have HO_5 := Aside0.mk Q_HO_5
      have BK259 := Aside0.mk Q_BK259
      have HB := Aside0.mk Q_HB
      have HO267 := Aside0.mk (Q_HO267 (hon 6 (by kernel_rfl)) hb_)
      have HO270 := Aside0.mk (Q_HO270 (hon 10 (by kernel_rfl)) hb_)
      obtain ⟨Ao21, co21, eo21⟩ := Kd.R_slice HO267.out
      (first | subst eo21 | (injection eo21 with f1_ f2_ f3_; have f4_ := f1_.symm; have f5_ := f3_.symm; clear f1_ f2_ f3_; subst f4_; subst f5_))
      obtain ⟨Ao22, co22, eo22⟩ := Kd.R_slice HO270.out
      (first | subst eo22 | (injection eo22 with f1_ f2_ f3_; have f4_ := f1_.symm; have f5_ := f3_.symm; clear f1_ f2_ f3_; subst f4_; subst f5_))
      refine Kd.N_lit_step (Kd.slice 73 k73) _ 28 ?hg (N' := 28) ?hd (xs := ([t265, t268] : List (List (S73)))) (inner := [.slice Ao21 t265.length co21, .slice Ao22 t268.length co22]) (ok := (fun k_ => some k_ ≠ (u5 : Value).ownBlock ∧ k_ ≠ gb259)) (okp := (fun k_ => some k_ ≠ (u5 : Value).ownBlock ∧ k_ ≠ gb259)) ?hr ?hp (fun _ hk => hk) ((show ∀ k_, w'.heap.size ≤ k_ → (fun k_ => some k_ ≠ (u5 : Value).ownBlock ∧ k_ ≠ gb259) k_ from fun k_ hk => ⟨Kd.fresh' (Kd.R_lt (ra_ HO_5)) k_ hk, Kd.freshB (g := gb259) (o := .cells #[.int .i64 ((rd_T82 l0 x13_1).f0), .int .i64 ((rd_T82 l0 x13_1).f1), .int .i64 ((rd_T82 l0 x13_1).f2), .int .i64 ((rd_T82 l0 x13_1).f3)] 82 (0, 0)) (bk_ BK259) k_ hk⟩) _ (Nat.le_refl _)) (Below.refl _ _) (Nat.le_refl _) (by simp) ?_; (case hd => rfl); (case hg => rfl); (case hr => first | (go_simp; done) | (go_simp; rfl)); (case hp => exact (Reps.one (show Kd.FK (Kd.slice 73 k73) _ _ t265 [.slice Ao21 t265.length co21] from (Kd.FK_slice_mk (Kd.R_reads' (Kd.R_mono (ok' := (fun k_ => some k_ ≠ (u5 : Value).ownBlock ∧ k_ ≠ gb259)) (Kd.R_types (Kd.R_apart' (HO267.out) (Kd.R_typed HO_5.out) (by decide)) BK259.out (by decide)) (fun k_ hk => ⟨hk.1.2, hk.2⟩))).2.1 (Kd.R_F (Kd.R_mono (ok' := (fun k_ => some k_ ≠ (u5 : Value).ownBlock ∧ k_ ≠ gb259)) (Kd.R_types (Kd.R_apart' (HO267.out) (Kd.R_typed HO_5.out) (by decide)) BK259.out (by decide)) (fun k_ hk => ⟨hk.1.2, hk.2⟩))))) (Reps.one (show Kd.FK (Kd.slice 73 k73) _ _ t268 [.slice Ao22 t268.length co22] from (Kd.FK_slice_mk (Kd.R_reads' (Kd.R_mono (ok' := (fun k_ => some k_ ≠ (u5 : Value).ownBlock ∧ k_ ≠ gb259)) (Kd.R_types (Kd.R_apart' (HO270.out) (Kd.R_typed HO_5.out) (by decide)) BK259.out (by decide)) (fun k_ hk => ⟨hk.1.2, hk.2⟩))).2.1 (Kd.R_F (Kd.R_mono (ok' := (fun k_ => some k_ ≠ (u5 : Value).ownBlock ∧ k_ ≠ gb259)) (Kd.R_types (Kd.R_apart' (HO270.out) (Kd.R_typed HO_5.out) (by decide)) BK259.out (by decide)) (fun k_ hk => ⟨hk.1.2, hk.2⟩))))) (Reps.none _ _))))
      intro v272 w23 ho24 hb hg_ hnew_
      clear hg_ hnew_
      (first | rw [← Ny271.out] at ho24 | (simp only [Int.reduceToNat] at ho24; rw [← Ny271.out] at ho24))
      have n0_ := Aside0.mk (Kd.R_below (ra_ HO_5) hb)
      have n1_ := Aside0.mk (Kd.N_lower ho24 (below_size (bl1_ HB GE259)))
      have n2_ := Aside0.mk (blk_below (bk_ BK259) hb)
      have n3_ := Aside0.mk (below_step (bl1_ HB GE259) hb)
      have z_HO264 := fun (h0_ : b 2 = true) => (show Kd.R k73 73 w23 w.heap.size (fun _ => True) v263 y262 from by first | exact (Kd.R_below (by (with_reducible repeat (first | apply Kd.R_alloc | apply Kd.R_drewN | apply Kd.R_drew)); exact (Q_HO264 h0_)) hb) | exact Kd.R_mono (Kd.R_below (by (with_reducible repeat (first | apply Kd.R_alloc | apply Kd.R_drewN | apply Kd.R_drew)); exact (Q_HO264 h0_)) hb) (fun _ h_ => by first | trivial | exact h_ | exact h_.1))
      clear HO_5
      clear BK259
      clear HB
      clear HO267
      clear HO270
      have HO_5 := n0_
      have HO273 := n1_
      have BK259 := n2_
      have HB := n3_
      clear n0_ n1_ n2_ n3_
      clear hb ho24
      refine hK.out _ _ ⟨v263, .slice Ao21 t265.length co21, .slice Ao22 t268.length co22, v272, v275, v278, (by rw [ha.out]; exact putSel_upk 7 hb_ rfl rfl rfl), (ra_ HO_5), (bk_ BK259), (bl1_ HB GE259), z_HO264, fun _ h1_ => absurd ((up_self b 11).symm.trans h1_) (by decide), fun _ h1_ => absurd ((up_self b 11).symm.trans h1_) (by decide), fun _ => (nro_ HO273), fun h0_ => absurd ((hoff 12 (by kernel_rfl)).symm.trans h0_) (by decide), fun h0_ => absurd ((hoff 13 (by kernel_rfl)).symm.trans h0_) (by decide)⟩
     refine steps_cons ?_ ?_
     ·rintro b a w' ⟨v263, v266, v269, v272, v275, v278, ha, Q_HO_5, Q_BK259, Q_HB, Q_HO264, Q_HO267, Q_HO270, Q_HO273, Q_HO276, Q_HO279⟩ hb_ hon hoff
      refine ⟨_, rfl, fun K hK => ?_⟩
      have e28 : a.tmps[28]? = some (v272) := by rw [ha]; exact putSel_on (e := (11, 28, v272)) 7 rfl rfl (hon 11 (by kernel_rfl)) rfl
      replace ha := Aside0.mk ha
      have HO_5 := Aside0.mk Q_HO_5
      have BK259 := Aside0.mk Q_BK259
      have HB := Aside0.mk Q_HB
      have HO273 := Aside0.mk (Q_HO273 (hon 11 (by kernel_rfl)))
      obtain ⟨Ao25, co25, eo25⟩ := Kd.N_slice HO273.out
      (first | subst eo25 | (injection eo25 with f1_ f2_ f3_; have f4_ := f1_.symm; have f5_ := f3_.symm; clear f1_ f2_ f3_; subst f4_; subst f5_))
      refine goes_ Try.func49 (by kernel_rfl) rfl #[.slice Ao25 y271.length co25] (by rfl) rfl rfl (by first | (simp only [List.map_toArray, List.map_cons, List.map_nil, Act.eval, Array.getD_eq_getD_getElem?, Option.getD_some, e28]; done) | (simp only [List.map_toArray, List.map_cons, List.map_nil, Act.eval, Array.getD_eq_getD_getElem?, Option.getD_some, e28]; rfl)) ?_
      with_reducible refine (impl_Span_49.calls k1 _ _ y271 t274 _ ?side1 ?side2 A11.out).mono ?_
      (case side1 => repeat (first | exact (Kd.N_reads' HO273.out).2.2 | (with_reducible refine Kd.C_alloc ?_ _) | (with_reducible refine Kd.C_drewN ?_ _) | (with_reducible refine Kd.C_drew ?_)))
      (case side2 => exact (Kd.N_reads' HO273.out).2.1)
      rintro e w26 ⟨v275, rfl, ho0, hb⟩
      refine ⟨_, rfl, ?_⟩
      have n0_ := Aside0.mk (Kd.R_below (ra_ HO_5) hb)
      have n1_ := Aside0.mk (Kd.N_elder' (by (with_reducible repeat (first | apply Kd.N_alloc | apply Kd.N_drewN | apply Kd.N_drew)); exact HO273.out) (Kd.R_base ho0) hb)
      have n2_ := Aside0.mk (Kd.R_lower ho0 (below_size (bl1_ HB GE259)))
      have n3_ := Aside0.mk (blk_below (bk_ BK259) hb)
      have n4_ := Aside0.mk (below_step (bl1_ HB GE259) hb)
      have z_HO264 := fun (h0_ : b 2 = true) => (show Kd.R k73 73 w26 w.heap.size (fun _ => True) v263 y262 from by first | exact (Kd.R_elder' (by (with_reducible repeat (first | apply Kd.R_alloc | apply Kd.R_drewN | apply Kd.R_drew)); exact (Q_HO264 h0_)) (Kd.R_base ho0) hb) | exact Kd.R_mono (Kd.R_elder' (by (with_reducible repeat (first | apply Kd.R_alloc | apply Kd.R_drewN | apply Kd.R_drew)); exact (Q_HO264 h0_)) (Kd.R_base ho0) hb) (fun _ h_ => by first | trivial | exact h_ | exact h_.1))
      clear HO_5
      clear HO273
      clear BK259
      clear HB
      have HO_5 := n0_
      have HO273 := n1_
      have HO276 := n2_
      have BK259 := n3_
      have HB := n4_
      clear n0_ n1_ n2_ n3_ n4_
      (try clear hb)
      (try clear hb2)
      (try clear hk)
      (try clear hi)
      (try clear ho0)
      refine hK.out _ _ ⟨v263, v266, v269, .slice Ao25 y271.length co25, v275, v278, (by rw [ha.out]; exact putSel_upk 8 hb_ rfl rfl rfl), (ra_ HO_5), (bk_ BK259), (bl1_ HB GE259), z_HO264, fun _ h1_ => absurd ((hon 11 (by kernel_rfl)).symm.trans h1_) (by decide), fun _ h1_ => absurd ((hon 11 (by kernel_rfl)).symm.trans h1_) (by decide), fun _ => (nro_ HO273), fun _ => (ro_ HO276), fun h0_ => absurd ((hoff 13 (by kernel_rfl)).symm.trans h0_) (by decide)⟩
     refine steps_cons ?_ ?_
     ·rintro b a w' ⟨v263, v266, v269, v272, v275, v278, ha, Q_HO_5, Q_BK259, Q_HB, Q_HO264, Q_HO267, Q_HO270, Q_HO273, Q_HO276, Q_HO279⟩ hb_ hon hoff
      refine ⟨_, rfl, fun K hK => ?_⟩
      have e19 : a.tmps[19]? = some (v263) := by rw [ha]; exact putSel_on (e := (2, 19, v263)) 2 rfl rfl (hon 2 (by kernel_rfl)) rfl
      have e29 : a.tmps[29]? = some (v275) := by rw [ha]; exact putSel_on (e := (12, 29, v275)) 8 rfl rfl (hon 12 (by kernel_rfl)) rfl
      replace ha := Aside0.mk ha
      have HO_5 := Aside0.mk Q_HO_5
      have BK259 := Aside0.mk Q_BK259
      have HB := Aside0.mk Q_HB
      have HO264 := Aside0.mk (Q_HO264 (hon 2 (by kernel_rfl)))
      have HO273 := Aside0.mk (Q_HO273 (hon 11 (by kernel_rfl)))
      have HO276 := Aside0.mk (Q_HO276 (hon 12 (by kernel_rfl)))
      obtain ⟨Ao29, co29, eo29⟩ := Kd.R_slice HO264.out
      (first | subst eo29 | (injection eo29 with f1_ f2_ f3_; have f4_ := f1_.symm; have f5_ := f3_.symm; clear f1_ f2_ f3_; subst f4_; subst f5_))
      obtain ⟨Ao30, co30, eo30⟩ := Kd.R_slice HO276.out
      (first | subst eo30 | (injection eo30 with f1_ f2_ f3_; have f4_ := f1_.symm; have f5_ := f3_.symm; clear f1_ f2_ f3_; subst f4_; subst f5_))
      refine goes_ Try.func48 (by kernel_rfl) rfl #[.slice Ao29 y262.length co29, .slice Ao30 t274.length co30] (by rfl) rfl rfl (by first | (simp only [List.map_toArray, List.map_cons, List.map_nil, Act.eval, Array.getD_eq_getD_getElem?, Option.getD_some, e19, e29]; done) | (simp only [List.map_toArray, List.map_cons, List.map_nil, Act.eval, Array.getD_eq_getD_getElem?, Option.getD_some, e19, e29]; rfl)) ?_
      with_reducible refine (impl_CutSpans.calls k1 _ _ y262 _ _ t274 t277 _ ?side1 ?side2 ?side3 ?side4 A12.out).mono ?_
      (case side1 => repeat (first | exact (Kd.R_reads' HO264.out).2.2 | (with_reducible refine Kd.C_alloc ?_ _) | (with_reducible refine Kd.C_drewN ?_ _) | (with_reducible refine Kd.C_drew ?_)))
      (case side2 => exact (Kd.R_reads' HO264.out).2.1)
      (case side3 => repeat (first | exact (Kd.R_reads' HO276.out).2.2 | (with_reducible refine Kd.C_alloc ?_ _) | (with_reducible refine Kd.C_drewN ?_ _) | (with_reducible refine Kd.C_drew ?_)))
      (case side4 => exact (Kd.R_reads' HO276.out).2.1)
      rintro e w31 ⟨v278, rfl, ho0, hb⟩
      refine ⟨_, rfl, sh7_ (Kd.R_below (ra_ HO_5) hb) (Kd.R_elder' (ra_ HO264) (Kd.R_base ho0) hb) (Kd.N_elder' (by (with_reducible repeat (first | apply Kd.N_alloc | apply Kd.N_drewN | apply Kd.N_drew)); exact HO273.out) (Kd.R_base ho0) hb) (Kd.R_elder' (ra_ HO276) (Kd.R_base ho0) hb) (Kd.R_lower (Kd.R_new' (Kd.R_new' ho0 (Kd.R_lt (ra_ HO264))) (Kd.R_lt (ra_ HO276))) (below_size (bl1_ HB GE259))) (blk_below (bk_ BK259) hb) (below_step (bl1_ HB GE259) hb) ?_⟩
      clear HO_5 HO264 HO273 HO276 BK259 HB hb ho0
      intro HO_5 HO264 HO273 HO276 HO279 BK259 HB
      obtain ⟨Ao32, co32, eo32⟩ := Kd.R_slice HO279.out
      (first | subst eo32 | (injection eo32 with f1_ f2_ f3_; have f4_ := f1_.symm; have f5_ := f3_.symm; clear f1_ f2_ f3_; subst f4_; subst f5_))
      refine hK.out _ _ ⟨.slice Ao29 y262.length co29, v266, v269, v272, .slice Ao30 t274.length co30, .slice Ao32 t277.length co32, (by rw [ha.out]; exact putSel_upk 9 hb_ rfl rfl rfl), (ra_ HO_5), (bk_ BK259), (bl1_ HB GE259), fun _ => (ro_ HO264), fun _ h1_ => absurd ((hon 11 (by kernel_rfl)).symm.trans h1_) (by decide), fun _ h1_ => absurd ((hon 11 (by kernel_rfl)).symm.trans h1_) (by decide), fun _ => (nro_ HO273), fun _ => (ro_ HO276), fun _ => (ro_ HO279)⟩
     refine steps_cons ?_ ?_
     ·rintro b a w' ⟨v263, v266, v269, v272, v275, v278, ha, Q_HO_5, Q_BK259, Q_HB, Q_HO264, Q_HO267, Q_HO270, Q_HO273, Q_HO276, Q_HO279⟩ hb_ hon hoff
      refine ⟨_, rfl, fun K hK => ?_⟩
      have e30 : a.tmps[30]? = some (v278) := by rw [ha]; exact putSel_on (e := (13, 30, v278)) 9 rfl rfl (hon 13 (by kernel_rfl)) rfl
      replace ha := Aside0.mk ha
      have HO_5 := Aside0.mk Q_HO_5
      have BK259 := Aside0.mk Q_BK259
      have HB := Aside0.mk Q_HB
      have HO264 := Aside0.mk (Q_HO264 (hon 2 (by kernel_rfl)))
      have HO273 := Aside0.mk (Q_HO273 (hon 11 (by kernel_rfl)))
      have HO276 := Aside0.mk (Q_HO276 (hon 12 (by kernel_rfl)))
      have HO279 := Aside0.mk (Q_HO279 (hon 13 (by kernel_rfl)))
      obtain ⟨Ao14_0, co14_0, eo_⟩ := Kd.R_slice HO279.out
      subst eo_
      refine value_ (w1 := w') (v := .int .i64 (t277.length : Int)) (by rfl) rfl ?_ ?_
      ·go_simp
       (try simp only [i64_w])
       try rfl
      refine hK.out _ _ ⟨v263, v266, v269, v272, v275, .slice Ao14_0 t277.length co14_0, (by rw [ha.out]; exact putSel_upk 10 hb_ rfl rfl rfl), Q_HO_5, Q_BK259, Q_HB, Q_HO264, fun _ h1_ => absurd ((hon 11 (by kernel_rfl)).symm.trans h1_) (by decide), fun _ h1_ => absurd ((hon 11 (by kernel_rfl)).symm.trans h1_) (by decide), Q_HO273, Q_HO276, Q_HO279⟩
     exact steps_nil
    rintro b a w32 hall ⟨v263, v266, v269, v272, v275, v278, ha, Q_HO_5, Q_BK259, Q_HB, Q_HO264, Q_HO267, Q_HO270, Q_HO273, Q_HO276, Q_HO279⟩
    clear BK259 HB HO_5
    have hb0_ := hall 0 (by kernel_rfl)
    have hb1_ := hall 1 (by kernel_rfl)
    have hb2_ := hall 2 (by kernel_rfl)
    have hb5_ := hall 5 (by kernel_rfl)
    have hb6_ := hall 6 (by kernel_rfl)
    have hb9_ := hall 9 (by kernel_rfl)
    have hb10_ := hall 10 (by kernel_rfl)
    have hb11_ := hall 11 (by kernel_rfl)
    have hb12_ := hall 12 (by kernel_rfl)
    have hb13_ := hall 13 (by kernel_rfl)
    have hb14_ := hall 14 (by kernel_rfl)
    subst ha
    simp only [putSel, hb0_, hb1_, hb2_, hb5_, hb6_, hb9_, hb10_, hb11_, hb12_, hb13_, hb14_, if_true, Act.put, List.setIfInBounds_toArray, List.set_cons_zero, List.set_cons_succ]
    have HO_5 := Aside0.mk Q_HO_5
    clear Q_HO_5
    have BK259 := Aside0.mk Q_BK259
    clear Q_BK259
    have HB := Aside0.mk Q_HB
    clear Q_HB
    have HO264 := Aside0.mk (Q_HO264 hb2_)
    clear Q_HO264
    clear Q_HO267
    clear Q_HO270
    have HO273 := Aside0.mk (Q_HO273 hb11_)
    clear Q_HO273
    have HO276 := Aside0.mk (Q_HO276 hb12_)
    clear Q_HO276
    have HO279 := Aside0.mk (Q_HO279 hb13_)
    clear Q_HO279
    clear hall hb0_ hb1_ hb2_ hb5_ hb6_ hb9_ hb10_ hb11_ hb12_ hb13_ hb14_
    obtain ⟨Ao33, co33, eo33⟩ := Kd.R_slice HO279.out
    (first | subst eo33 | (injection eo33 with f1_ f2_ f3_; have f4_ := f1_.symm; have f5_ := f3_.symm; clear f1_ f2_ f3_; subst f4_; subst f5_))
    try go_wp2
    go_loopg [5, 32] k1 (fun kq v5 v32 w' => ∃ (x5_2 : List (S82)) (x32_2 : Int), v32 = .int .i64 x32_2 ∧ Aside0 (impl_CutClouds.l1 kq l1 x5_2 l0 (l0.length : Int) x13_1 t277 (t277.length : Int) x32_2 ((rd_T82 l0 x13_1).f0) ((rd_T82 l0 x13_1).f1) ((rd_T82 l0 x13_1).f2) ((rd_T82 l0 x13_1).f3) = some r) ∧ Aside0 (kq ≤ k1) ∧ Aside0 (Kd.R k82 82 w' w.heap.size (fun k_ => k_ ≠ gb259) v5 x5_2) ∧ Aside0 (Kd.R k73 73 w' w.heap.size (fun _ => True) (.slice Ao33 t277.length co33) t277) ∧ Aside0 (w'.heap[gb259]? = some (.cells #[.int .i64 ((rd_T82 l0 x13_1).f0), .int .i64 ((rd_T82 l0 x13_1).f1), .int .i64 ((rd_T82 l0 x13_1).f2), .int .i64 ((rd_T82 l0 x13_1).f3)] 82 (0, 0))) ∧ Aside0 (Below w.heap.size w w'))
    case atStart => exact ⟨(x5_1), (0), (by first | rfl | (simp; done) | (simp [*]; done)), H', ⟨Nat.le_refl _⟩, ⟨ra_ HO_5⟩, ⟨by (with_reducible repeat (first | apply Kd.R_alloc | apply Kd.R_drewN | apply Kd.R_drew)); exact Kd.R_mono HO279.out (fun _ hk => trivial)⟩, ⟨by (with_reducible repeat (first | refine blk_drewN ?_ _ | refine blk_drew ?_ | refine blk_alloc ?_ _)); exact BK259.out⟩, ⟨bl1_ HB GE259⟩⟩
    case round =>
     clear H'
     try clear c1
     try clear c2
     try clear p2
     try clear q2
     try clear hx2
     try clear c3
     try clear c4
     try clear c5
     try clear c5b0
     try clear c6
     try clear c6b0
     try clear c7
     try clear c7b0
     try clear c23
     try clear p25
     try clear q25
     try clear hx25
     try clear hcz14
     try clear hx258_0
     try clear hx258_1
     try clear hx258_2
     try clear hx258_3
     try clear p2
     try clear p258
     try clear q258
     obtain ⟨x5_2, x32_2, rfl, HA, HK2, HO_5, HO_30, BK259, HB⟩ := hrel
     cases gk with
     | zero => exact absurd HA.out (by simp [impl_CutClouds.l1])
     | succ k2 =>
      have H := HA.out
      clear HA
      simp only [impl_CutClouds.l1] at H
      by_cases c34 : x32_2 < (t277.length : Int)
      ·rw [if_pos c34] at H
       have c34b0 := decide_eq_true c34
       clear c34
       replace H := ifn_ H
       obtain ⟨c35, H⟩ := H
       have c35b0 := decide_eq_true c35
       clear c35
       replace H := ifn_ H
       obtain ⟨c36, H⟩ := H
       have c36b0 := decide_eq_true c36
       clear c36
       replace H := ifn_ H
       obtain ⟨c37, H⟩ := H
       have LMc37 := Aside0.mk c37
       clear c37
       replace H : ∃ y_ : List (S82), Aside0 (y_ = (x5_2 ++ [(⟨((rd_T82 l0 x13_1).f0), ((rd_T82 l0 x13_1).f1), (rd_T73 t277 x32_2).f0, (rd_T73 t277 x32_2).f1⟩ : S82)])) ∧ (impl_CutClouds.l1 k2 l1 y_ l0 (l0.length : Int) x13_1 t277 (t277.length : Int) (wrap64 (x32_2 + 1)) ((rd_T82 l0 x13_1).f0) ((rd_T82 l0 x13_1).f1) ((rd_T82 l0 x13_1).f2) ((rd_T82 l0 x13_1).f3)) = some r := ⟨_, ⟨rfl⟩, yh_ H⟩
       obtain ⟨y282, Ny282, H⟩ := H
       have H' := Aside0.mk H
       clear H
       have p280 : 0 ≤ (x32_2 : Int) := od_
       have q280 : x32_2 < (t277.length : Int) := od_
       obtain ⟨ad280, e280, hx280_0, hx280_1⟩ := at_T73 (Kd.R_reads' HO_30.out).2.2 x32_2 p280 q280
       cases e280
       replace p280 := eq_true p280
       replace q280 := eq_true q280
       go_wp2_with (first | ((with_reducible refine gd_ 9 ?_); refine bx_ 9 73 #[.int .i64 0, .int .i64 0] ?_; intro gb281 hg w38 hbox hb; refine sh9_ (Kd.R_below (ra_ HO_5) hb) (Kd.R_below (Kd.R_elderB (ra_ HO_30) gb281 (Nat.le_of_eq hg.symm)) hb) (blk_below (bk_ BK259) hb) (below_step (bl1_ HB GE259) hb) hbox (ge_ hg (bl1_ HB GE259)) (ge_ hg (bl1_ HB GE259)) (nl_ hg (bk_ BK259)) (ng_ hg (bk_ BK259)) ?_; clear HO_5 HO_30 BK259 HB hb hbox hg; intro HO_5 HO_30 BK259 HB BK281 GW281 GE281 NB259_281 NB281_259; have hnb39 := NB281_259.out; have hnc39 := NB259_281.out; have hcz40 := cf2_ BK281; have hcz41 := cf4_ BK259) | ((with_reducible refine gate_builtin (b := .append) (xs := #[.tmp 36, .tmp 46]) rfl ?_); at_builtin; refine Kd.R_append k82 (w0 := w) w.heap.size rfl (.tmp 36) (.tmp 46) 45 82 (.agg #[(.int .i64 0), (.int .i64 0), (.int .i64 0), (.int .i64 0)]) 32 rfl Try.underlying45 info82 rfl (by decide) (by omega) u5 x5_2 (⟨((rd_T82 l0 x13_1).f0), ((rd_T82 l0 x13_1).f1), (rd_T73 t277 x32_2).f0, (rd_T73 t277 x32_2).f1⟩ : S82) [.int .i64 ((rd_T82 l0 x13_1).f0), .int .i64 ((rd_T82 l0 x13_1).f1), .int .i64 ((rd_T73 t277 x32_2).f0), .int .i64 ((rd_T73 t277 x32_2).f1)] (fun k_ => k_ ≠ gb259) (fun _ => False) rfl (by first | (go_simp; done) | (go_simp; rfl)) ?aP (fun _ hk => hk.elim) ?aF ?aO ?aB ?aS ?aL ?_; (case aP => exact k82_mkM _ _ _ (⟨((rd_T82 l0 x13_1).f0), ((rd_T82 l0 x13_1).f1), (rd_T73 t277 x32_2).f0, (rd_T73 t277 x32_2).f1⟩ : S82)); (case aB => exact (bl2_ HB GE259 GE281)); (case aF => exact (fun k_ hk => Kd.freshB (g := gb259) (o := .cells #[.int .i64 ((rd_T82 l0 x13_1).f0), .int .i64 ((rd_T82 l0 x13_1).f1), .int .i64 ((rd_T82 l0 x13_1).f2), .int .i64 ((rd_T82 l0 x13_1).f3)] 82 (0, 0)) (by (with_reducible repeat (first | refine blk_drewN ?_ _ | refine blk_drew ?_ | refine blk_alloc ?_ _)); refine blk_far ?_ NB259_281.out _; (with_reducible repeat (first | refine blk_drewN ?_ _ | refine blk_drew ?_ | refine blk_alloc ?_ _)); refine blk_far ?_ NB259_281.out _; (with_reducible repeat (first | refine blk_drewN ?_ _ | refine blk_drew ?_ | refine blk_alloc ?_ _)); exact BK259.out) k_ hk)); (case aO => exact (by (with_reducible repeat (first | apply Kd.R_alloc | apply Kd.R_drewN | apply Kd.R_drew)); exact Kd.R_mono (Kd.R_far (p := ⟨gb281, 1, none⟩) (Kd.R_far (p := ⟨gb281, 0, none⟩) (Kd.R_types HO_5.out BK281.out (by decide)) (fun _ hk => hk.2) (.int .i64 ((rd_T73 t277 x32_2).f0))) (fun _ hk => hk.2) (.int .i64 ((rd_T73 t277 x32_2).f1))) (fun _ hk => hk.1))); (case aS => exact (below_size (bl2_ HB GE259 GE281))); (case aL => have := LMc37.out; omega); intro v283 w42 ho hb hg hat; rw [← Ny282.out] at ho; refine sh5_ (Kd.R_over' (by (with_reducible repeat (first | apply Kd.R_alloc | apply Kd.R_drewN | apply Kd.R_drew)); exact (Kd.R_mono (Kd.R_far (p := ⟨gb281, 1, none⟩) (Kd.R_far (p := ⟨gb281, 0, none⟩) (Kd.R_mono HO_30.out (fun k_ hk => (⟨hk, hk.2⟩ : _ ∧ k_ ≠ gb281))) (fun _ hk => hk.2) (.int .i64 ((rd_T73 t277 x32_2).f0))) (fun _ hk => hk.2) (.int .i64 ((rd_T73 t277 x32_2).f1))) (fun _ h_ => h_.1))) (Kd.R_typed (by (with_reducible repeat (first | apply Kd.R_alloc | apply Kd.R_drewN | apply Kd.R_drew)); exact (Kd.R_mono (Kd.R_far (p := ⟨gb281, 1, none⟩) (Kd.R_far (p := ⟨gb281, 0, none⟩) (Kd.R_types HO_5.out BK281.out (by decide)) (fun _ hk => hk.2) (.int .i64 ((rd_T73 t277 x32_2).f0))) (fun _ hk => hk.2) (.int .i64 ((rd_T73 t277 x32_2).f1))) (fun _ h_ => h_.1)))) (by decide) hg) (blk_grown (g := gb259) (o := .cells #[.int .i64 ((rd_T82 l0 x13_1).f0), .int .i64 ((rd_T82 l0 x13_1).f1), .int .i64 ((rd_T82 l0 x13_1).f2), .int .i64 ((rd_T82 l0 x13_1).f3)] 82 (0, 0)) (by (with_reducible repeat (first | refine blk_drewN ?_ _ | refine blk_drew ?_ | refine blk_alloc ?_ _)); refine blk_far ?_ NB259_281.out _; (with_reducible repeat (first | refine blk_drewN ?_ _ | refine blk_drew ?_ | refine blk_alloc ?_ _)); refine blk_far ?_ NB259_281.out _; (with_reducible repeat (first | refine blk_drewN ?_ _ | refine blk_drew ?_ | refine blk_alloc ?_ _)); exact BK259.out) hg (Kd.R_away HO_5.out (fun _ hk => hk))) (blk_grown (g := gb281) (o := .cells #[.int .i64 ((rd_T73 t277 x32_2).f0), .int .i64 ((rd_T73 t277 x32_2).f1)] 73 (0, 0)) (by (with_reducible repeat (first | refine blk_drewN ?_ _ | refine blk_drew ?_ | refine blk_alloc ?_ _)); refine blk_put (cs := #[.int .i64 ((rd_T73 t277 x32_2).f0), .int .i64 0]) ?_ 1 _ rfl; (with_reducible repeat (first | refine blk_drewN ?_ _ | refine blk_drew ?_ | refine blk_alloc ?_ _)); refine blk_put (cs := #[.int .i64 0, .int .i64 0]) ?_ 0 _ rfl; (with_reducible repeat (first | refine blk_drewN ?_ _ | refine blk_drew ?_ | refine blk_alloc ?_ _)); exact BK281.out) hg (Kd.R_ne HO_5.out BK281.out (by decide))) hb ho ?_; clear HO_30 BK259 BK281 HB HO_5 ho hb hg hat; intro HO_30 BK259 BK281 HB HO284))
       go_roundg k2
       case measure => have := HK1.out; have := HK2.out; omega
       case rel => exact ⟨(y282), (wrap64 (x32_2 + 1)), (by first | rfl | (simp; done) | (simp [*]; done)), H', ⟨by have := HK1.out; have := HK2.out; omega⟩, ⟨ra_ HO284⟩, ⟨by (with_reducible repeat (first | apply Kd.R_alloc | apply Kd.R_drewN | apply Kd.R_drew)); exact Kd.R_mono HO_30.out (fun _ hk => trivial)⟩, ⟨by (with_reducible repeat (first | refine blk_drewN ?_ _ | refine blk_drew ?_ | refine blk_alloc ?_ _)); exact BK259.out⟩, ⟨bl2_ HB GE259 GE281⟩⟩
      ·rw [if_neg c34] at H
       have c34b0 := decide_eq_false c34
       clear c34
       have H' := Aside0.mk H
       clear H
       go_wp2
       go_roundg k2
       case measure => have := HK1.out; have := HK2.out; omega
       case rel => exact ⟨(x5_2), (wrap64 (x13_1 + 1)), (by first | rfl | (simp; done) | (simp [*]; done)), H', ⟨by have := HK1.out; have := HK2.out; omega⟩, ⟨by (with_reducible repeat (first | apply Kd.R_alloc | apply Kd.R_drewN | apply Kd.R_drew)); exact Kd.R_mono HO_5.out (fun _ hk => trivial)⟩, ⟨bl1_ HB GE259⟩⟩
   ·rw [if_neg c5] at H
    have c5b0 : decide (x13_1 < (l0.length : Int)) = false := decide_eq_false c5
    clear c5
    obtain rfl := Option.some.inj H
    go_wp2
    go_ret
    exact ⟨_, er_, ra_ HO_5, bl_ HB⟩

/-! ### laws_eqContact: function 63 -/
def laws_eqContact.f (a0_0 : Int) (a0_1 : Int) (a0_2 : Int) (a0_3 : Int) (a1_0 : Int) (a1_1 : Int) (a1_2 : Int) (a1_3 : Int) : Option (Bool) := if a0_0 = a1_0 then (if a0_1 = a1_1 then (if a0_2 = a1_2 then (if a0_3 = a1_3 then (some true) else (some false)) else (some false)) else (some false)) else (some false)
set_option maxHeartbeats 8000000 in
set_option maxRecDepth 100000 in
theorem laws_eqContact.calls (a0_0 : Int) (a0_1 : Int) (a0_2 : Int) (a0_3 : Int) (a1_0 : Int) (a1_1 : Int) (a1_2 : Int) (a1_3 : Int) (r : Bool) (w : World) (h : laws_eqContact.f a0_0 a0_1 a0_2 a0_3 a1_0 a1_1 a1_2 a1_3 = some r) :
  Calls Try.prog 63 #[.agg #[.int .i64 a0_0, .int .i64 a0_1, .int .i64 a0_2, .int .i64 a0_3], .agg #[.int .i64 a1_0, .int .i64 a1_1, .int .i64 a1_2, .int .i64 a1_3]] w fun e w' => e = .returned (.bool r) ∧ Below w.heap.size w w' := by
 have hu82 := Try.underlying82
 have HB := Aside0.mk (Below.refl w.heap.size w)
 have H := h
 clear h
 unfold laws_eqContact.f at H
 by_cases c3 : a0_0 = a1_0
 ·rw [if_pos c3] at H
  obtain ⟨c3b0, c3b1⟩ := bt_ c3
  clear c3
  by_cases c4 : a0_1 = a1_1
  ·rw [if_pos c4] at H
   obtain ⟨c4b0, c4b1⟩ := bt_ c4
   clear c4
   by_cases c5 : a0_2 = a1_2
   ·rw [if_pos c5] at H
    obtain ⟨c5b0, c5b1⟩ := bt_ c5
    clear c5
    by_cases c6 : a0_3 = a1_3
    ·rw [if_pos c6] at H
     obtain ⟨c6b0, c6b1⟩ := bt_ c6
     clear c6
     obtain rfl := Option.some.inj H
     go_enter Try.func63, Try.ntmps63
     go_wp2_with (first | ((with_reducible refine gd_ 2 ?_); refine bx_ 2 82 #[.int .i64 a0_0, .int .i64 a0_1, .int .i64 a0_2, .int .i64 a0_3] ?_; intro gb285 hg w7 hbox hb; refine sh4_ (below_step (bl_ HB) hb) hbox (ge_ hg (bl_ HB)) (ge_ hg (bl_ HB)) ?_; clear HB hb hbox hg; intro HB BK285 GW285 GE285) | ((with_reducible refine gd_ 3 ?_); refine bx_ 3 82 #[.int .i64 a1_0, .int .i64 a1_1, .int .i64 a1_2, .int .i64 a1_3] ?_; intro gb286 hg w8 hbox hb; refine sh7_ (blk_below (bk_ BK285) hb) (below_step (bl1_ HB GE285) hb) hbox (ge_ hg (bl1_ HB GE285)) (ge_ hg (bl1_ HB GE285)) (nl_ hg (bk_ BK285)) (ng_ hg (bk_ BK285)) ?_; clear BK285 HB hb hbox hg; intro BK285 HB BK286 GW286 GE286 NB285_286 NB286_285; have hnb9 := NB285_286.out; have hnc9 := NB286_285.out; have hcz10 := cf4_ BK285; have hcz11 := cf4_ BK286))
     go_ret
     exact ⟨er_, bl2_ HB GE285 GE286⟩
    ·rw [if_neg c6] at H
     obtain ⟨c6b0, c6b1⟩ := bn_ c6
     obtain rfl := Option.some.inj H
     go_enter Try.func63, Try.ntmps63
     go_wp2_with (first | ((with_reducible refine gd_ 2 ?_); refine bx_ 2 82 #[.int .i64 a0_0, .int .i64 a0_1, .int .i64 a0_2, .int .i64 a0_3] ?_; intro gb285 hg w12 hbox hb; refine sh4_ (below_step (bl_ HB) hb) hbox (ge_ hg (bl_ HB)) (ge_ hg (bl_ HB)) ?_; clear HB hb hbox hg; intro HB BK285 GW285 GE285) | ((with_reducible refine gd_ 3 ?_); refine bx_ 3 82 #[.int .i64 a1_0, .int .i64 a1_1, .int .i64 a1_2, .int .i64 a1_3] ?_; intro gb286 hg w13 hbox hb; refine sh7_ (blk_below (bk_ BK285) hb) (below_step (bl1_ HB GE285) hb) hbox (ge_ hg (bl1_ HB GE285)) (ge_ hg (bl1_ HB GE285)) (nl_ hg (bk_ BK285)) (ng_ hg (bk_ BK285)) ?_; clear BK285 HB hb hbox hg; intro BK285 HB BK286 GW286 GE286 NB285_286 NB286_285; have hnb14 := NB285_286.out; have hnc14 := NB286_285.out; have hcz15 := cf4_ BK285; have hcz16 := cf4_ BK286))
     go_ret
     exact ⟨er_, bl2_ HB GE285 GE286⟩
   ·rw [if_neg c5] at H
    obtain ⟨c5b0, c5b1⟩ := bn_ c5
    obtain rfl := Option.some.inj H
    go_enter Try.func63, Try.ntmps63
    go_wp2_with (first | ((with_reducible refine gd_ 2 ?_); refine bx_ 2 82 #[.int .i64 a0_0, .int .i64 a0_1, .int .i64 a0_2, .int .i64 a0_3] ?_; intro gb285 hg w17 hbox hb; refine sh4_ (below_step (bl_ HB) hb) hbox (ge_ hg (bl_ HB)) (ge_ hg (bl_ HB)) ?_; clear HB hb hbox hg; intro HB BK285 GW285 GE285) | ((with_reducible refine gd_ 3 ?_); refine bx_ 3 82 #[.int .i64 a1_0, .int .i64 a1_1, .int .i64 a1_2, .int .i64 a1_3] ?_; intro gb286 hg w18 hbox hb; refine sh7_ (blk_below (bk_ BK285) hb) (below_step (bl1_ HB GE285) hb) hbox (ge_ hg (bl1_ HB GE285)) (ge_ hg (bl1_ HB GE285)) (nl_ hg (bk_ BK285)) (ng_ hg (bk_ BK285)) ?_; clear BK285 HB hb hbox hg; intro BK285 HB BK286 GW286 GE286 NB285_286 NB286_285; have hnb19 := NB285_286.out; have hnc19 := NB286_285.out; have hcz20 := cf4_ BK285; have hcz21 := cf4_ BK286))
    go_ret
    exact ⟨er_, bl2_ HB GE285 GE286⟩
  ·rw [if_neg c4] at H
   obtain ⟨c4b0, c4b1⟩ := bn_ c4
   obtain rfl := Option.some.inj H
   go_enter Try.func63, Try.ntmps63
   go_wp2_with (first | ((with_reducible refine gd_ 2 ?_); refine bx_ 2 82 #[.int .i64 a0_0, .int .i64 a0_1, .int .i64 a0_2, .int .i64 a0_3] ?_; intro gb285 hg w22 hbox hb; refine sh4_ (below_step (bl_ HB) hb) hbox (ge_ hg (bl_ HB)) (ge_ hg (bl_ HB)) ?_; clear HB hb hbox hg; intro HB BK285 GW285 GE285) | ((with_reducible refine gd_ 3 ?_); refine bx_ 3 82 #[.int .i64 a1_0, .int .i64 a1_1, .int .i64 a1_2, .int .i64 a1_3] ?_; intro gb286 hg w23 hbox hb; refine sh7_ (blk_below (bk_ BK285) hb) (below_step (bl1_ HB GE285) hb) hbox (ge_ hg (bl1_ HB GE285)) (ge_ hg (bl1_ HB GE285)) (nl_ hg (bk_ BK285)) (ng_ hg (bk_ BK285)) ?_; clear BK285 HB hb hbox hg; intro BK285 HB BK286 GW286 GE286 NB285_286 NB286_285; have hnb24 := NB285_286.out; have hnc24 := NB286_285.out; have hcz25 := cf4_ BK285; have hcz26 := cf4_ BK286))
   go_ret
   exact ⟨er_, bl2_ HB GE285 GE286⟩
 ·rw [if_neg c3] at H
  obtain ⟨c3b0, c3b1⟩ := bn_ c3
  obtain rfl := Option.some.inj H
  go_enter Try.func63, Try.ntmps63
  go_wp2_with (first | ((with_reducible refine gd_ 2 ?_); refine bx_ 2 82 #[.int .i64 a0_0, .int .i64 a0_1, .int .i64 a0_2, .int .i64 a0_3] ?_; intro gb285 hg w27 hbox hb; refine sh4_ (below_step (bl_ HB) hb) hbox (ge_ hg (bl_ HB)) (ge_ hg (bl_ HB)) ?_; clear HB hb hbox hg; intro HB BK285 GW285 GE285) | ((with_reducible refine gd_ 3 ?_); refine bx_ 3 82 #[.int .i64 a1_0, .int .i64 a1_1, .int .i64 a1_2, .int .i64 a1_3] ?_; intro gb286 hg w28 hbox hb; refine sh7_ (blk_below (bk_ BK285) hb) (below_step (bl1_ HB GE285) hb) hbox (ge_ hg (bl1_ HB GE285)) (ge_ hg (bl1_ HB GE285)) (nl_ hg (bk_ BK285)) (ng_ hg (bk_ BK285)) ?_; clear BK285 HB hb hbox hg; intro BK285 HB BK286 GW286 GE286 NB285_286 NB286_285; have hnb29 := NB285_286.out; have hnc29 := NB286_285.out; have hcz30 := cf4_ BK285; have hcz31 := cf4_ BK286))
  go_ret
  exact ⟨er_, bl2_ HB GE285 GE286⟩

/-! ### laws_eqContactS: function 24 -/
def laws_eqContactS.l0 : Nat → List (S82) → List (S82) → Int → Option (Bool)
 | 0, _, _, _ => none
 | k + 1, x0, x1, x5 => if x5 < (x0.length : Int) then (if 0 ≤ x5 then (if x5 < (x1.length : Int) then ((laws_eqContact.f ((rd_T82 x0 x5).f0) ((rd_T82 x0 x5).f1) ((rd_T82 x0 x5).f2) ((rd_T82 x0 x5).f3) ((rd_T82 x1 x5).f0) ((rd_T82 x1 x5).f1) ((rd_T82 x1 x5).f2) ((rd_T82 x1 x5).f3)).bind fun t289 => (if t289 = true then (laws_eqContactS.l0 k x0 x1 (wrap64 (x5 + 1))) else (some false))) else (none)) else (none)) else (some true)
def laws_eqContactS.f (k : Nat) (l0 : List (S82)) (l1 : List (S82)) : Option (Bool) := if (l0.length : Int) = (l1.length : Int) then (laws_eqContactS.l0 k l0 l1 0) else (some false)
theorem laws_eqContactS.mono_l : ∀ k, (∀ y0 y1 y2, LeO (laws_eqContactS.l0 k y0 y1 y2) (laws_eqContactS.l0 (k + 1) y0 y1 y2))
 | 0 => fun _ _ _ r h => by simp [laws_eqContactS.l0] at h
 | k + 1 => by
  have ih0 := laws_eqContactS.mono_l k
  ·intro y0 y1 y2
   unfold laws_eqContactS.l0
   repeat' first | (with_reducible first | exact ih0 _ _ _ | exact LeO.refl _ | exact LeO.none _ | refine LeO.ite ?_ ?_ | refine LeO.bind ?_ (fun _ => ?_)) | exact LeO.none _ | refine LeO.ite ?_ ?_ | refine LeO.bind ?_ (fun _ => ?_)
theorem laws_eqContactS.mono : ∀ a0 a1 k, LeO (laws_eqContactS.f k a0 a1) (laws_eqContactS.f (k + 1) a0 a1) := by
 intro a0 a1 k
 have ih0 := laws_eqContactS.mono_l k
 unfold laws_eqContactS.f
 repeat' first | (with_reducible first | exact ih0 _ _ _ | exact LeO.refl _ | exact LeO.none _ | refine LeO.ite ?_ ?_ | refine LeO.bind ?_ (fun _ => ?_)) | exact LeO.none _ | refine LeO.ite ?_ ?_ | refine LeO.bind ?_ (fun _ => ?_)
def laws_eqContactS.T6 : Bool × List (List Nat × List Nat) := (true, [([], []), ([], []), ([0, 1], [0, 1]), ([2], [2]), ([], []), ([], []), ([4, 5], [4, 5]), ([6], [6]), ([3, 7], [3, 7]), ([8], [8])])
def laws_eqContactS.B6 : List Nat := [0, 0, 3, 7, 0, 0, 48, 112, 255, 511]
theorem laws_eqContactS.tab6 : rtab .any (opsOf Try.f24 6) = laws_eqContactS.T6 := by kernel_rfl
theorem laws_eqContactS.bits6 : waitsOk laws_eqContactS.T6.2 laws_eqContactS.B6 = true := by kernel_rfl
set_option maxHeartbeats 8000000 in
set_option maxRecDepth 100000 in
theorem laws_eqContactS.calls (k : Nat) (A0 : Option Addr) (c0 : Nat) (l0 : List (S82)) (A1 : Option Addr) (c1 : Nat) (l1 : List (S82)) (r : Bool) (w : World) (hr0 : Kd.C k82 w A0 l0.length l0) (hc0 : l0.length ≤ c0) (hr1 : Kd.C k82 w A1 l1.length l1) (hc1 : l1.length ≤ c1) (h : laws_eqContactS.f k l0 l1 = some r) :
  Calls Try.prog 24 #[.slice A0 l0.length c0, .slice A1 l1.length c1] w fun e w' => e = .returned (.bool r) ∧ Below w.heap.size w w' := by
 have hu82 := Try.underlying82
 have HR0 := Aside0.mk hr0
 have HC0 := Aside0.mk hc0
 clear hr0 hc0
 have HR1 := Aside0.mk hr1
 have HC1 := Aside0.mk hc1
 clear hr1 hc1
 have HB := Aside0.mk (Below.refl w.heap.size w)
 have H := h
 clear h
 unfold laws_eqContactS.f at H
 by_cases c3 : (l0.length : Int) = (l1.length : Int)
 ·rw [if_pos c3] at H
  obtain ⟨c3b0, c3b1⟩ := bt_ c3
  have c3b2 : (l0.length == l1.length) = true := by first | simpa using c3 | (simp at c3 ⊢; omega)
  clear c3
  have H' := Aside0.mk H
  clear H
  go_enter Try.func24, Try.ntmps24
  go_wp2
  go_loopg [5] k (fun kq v5 w' => ∃ (x5_1 : Int), v5 = .int .i64 x5_1 ∧ Aside0 (laws_eqContactS.l0 kq l0 l1 x5_1 = some r) ∧ Aside0 (kq ≤ k) ∧ Aside0 (Below w.heap.size w w'))
  case atStart => exact ⟨(0), (by first | rfl | (simp; done) | (simp [*]; done)), H', ⟨Nat.le_refl _⟩, ⟨bl_ HB⟩⟩
  case round =>
   clear H'
   try clear c1
   try clear c2
   try clear p2
   try clear c3
   try clear c3b0
   try clear c3b1
   try clear c3b2
   obtain ⟨x5_1, rfl, HA, HK1, HB⟩ := hrel
   cases gk with
   | zero => exact absurd HA.out (by simp [laws_eqContactS.l0])
   | succ k1 =>
    have H := HA.out
    clear HA
    simp only [laws_eqContactS.l0] at H
    by_cases c4 : x5_1 < (l0.length : Int)
    ·rw [if_pos c4] at H
     have c4b0 := decide_eq_true c4
     clear c4
     replace H := ifn_ H
     obtain ⟨c5, H⟩ := H
     have c5b0 := decide_eq_true c5
     clear c5
     replace H := ifn_ H
     obtain ⟨c6, H⟩ := H
     have c6b0 := decide_eq_true c6
     clear c6
     replace H := bs_ H
     obtain ⟨t289, A7, H⟩ := H
     by_cases c8 : t289 = true
     ·subst c8
      rw [if_pos rfl] at H
      have H' := Aside0.mk H
      clear H
      try go_wp2
      refine sh1_ (below_drew1 HB.out) ?_
      clear HB
      intro HB
      have p287 : 0 ≤ (x5_1 : Int) := od_
      have q287 : x5_1 < (l0.length : Int) := od_
      obtain ⟨ad287, e287, hx287_0, hx287_1, hx287_2, hx287_3⟩ := at_T82 HR0.out x5_1 p287 q287
      have hw287_3 := hx287_3
      have hw287_2 := hx287_2
      have hw287_1 := hx287_1
      have hw287_0 := hx287_0
      cases e287
      replace hx287_0 := hbc_ HB hx287_0
      replace hx287_1 := hbc_ HB hx287_1
      replace hx287_2 := hbc_ HB hx287_2
      replace hx287_3 := hbc_ HB hx287_3
      replace p287 := eq_true p287
      replace q287 := eq_true q287
      have p288 : 0 ≤ (x5_1 : Int) := od_
      have q288 : x5_1 < (l1.length : Int) := od_
      obtain ⟨ad288, e288, hx288_0, hx288_1, hx288_2, hx288_3⟩ := at_T82 HR1.out x5_1 p288 q288
      have hw288_3 := hx288_3
      have hw288_2 := hx288_2
      have hw288_1 := hx288_1
      have hw288_0 := hx288_0
      cases e288
      replace hx288_0 := hbc_ HB hx288_0
      replace hx288_1 := hbc_ HB hx288_1
      replace hx288_2 := hbc_ HB hx288_2
      replace hx288_3 := hbc_ HB hx288_3
      replace p288 := eq_true p288
      replace q288 := eq_true q288
      refine start_ (n := 10) (S := fun w' => w'.cell? (ad287.add ((x5_1).toNat * 4)) = some (.int .i64 ((rd_T82 l0 x5_1).f0)) ∧ w'.cell? ⟨(ad287.add ((x5_1).toNat * 4)).block, (ad287.add ((x5_1).toNat * 4)).off + 1, none⟩ = some (.int .i64 ((rd_T82 l0 x5_1).f1)) ∧ w'.cell? ⟨(ad287.add ((x5_1).toNat * 4)).block, (ad287.add ((x5_1).toNat * 4)).off + 2, none⟩ = some (.int .i64 ((rd_T82 l0 x5_1).f2)) ∧ w'.cell? ⟨(ad287.add ((x5_1).toNat * 4)).block, (ad287.add ((x5_1).toNat * 4)).off + 3, none⟩ = some (.int .i64 ((rd_T82 l0 x5_1).f3)) ∧ w'.cell? (ad288.add ((x5_1).toNat * 4)) = some (.int .i64 ((rd_T82 l1 x5_1).f0)) ∧ w'.cell? ⟨(ad288.add ((x5_1).toNat * 4)).block, (ad288.add ((x5_1).toNat * 4)).off + 1, none⟩ = some (.int .i64 ((rd_T82 l1 x5_1).f1)) ∧ w'.cell? ⟨(ad288.add ((x5_1).toNat * 4)).block, (ad288.add ((x5_1).toNat * 4)).off + 2, none⟩ = some (.int .i64 ((rd_T82 l1 x5_1).f2)) ∧ w'.cell? ⟨(ad288.add ((x5_1).toNat * 4)).block, (ad288.add ((x5_1).toNat * 4)).off + 3, none⟩ = some (.int .i64 ((rd_T82 l1 x5_1).f3))) (ds := []) #[false, false, false, false, false, false, false, false, false, false] (by kernel_rfl) rfl rfl ⟨((HB.out.cell (World.block_lt_of_cell? w _ hw287_0)).trans hw287_0), ((HB.out.cell (World.block_lt_of_cell? w _ hw287_1)).trans hw287_1), ((HB.out.cell (World.block_lt_of_cell? w _ hw287_2)).trans hw287_2), ((HB.out.cell (World.block_lt_of_cell? w _ hw287_3)).trans hw287_3), ((HB.out.cell (World.block_lt_of_cell? w _ hw288_0)).trans hw288_0), ((HB.out.cell (World.block_lt_of_cell? w _ hw288_1)).trans hw288_1), ((HB.out.cell (World.block_lt_of_cell? w _ hw288_2)).trans hw288_2), ((HB.out.cell (World.block_lt_of_cell? w _ hw288_3)).trans hw288_3)⟩ (fun hHeld => ?_); refine with_tabW laws_eqContactS.tab6 laws_eqContactS.bits6 (fun HT_ HW_ => ?_)
      generalize wr.drew = w9 at HB hx287_0 hx287_1 hx287_2 hx287_3 hx288_0 hx288_1 hx288_2 hx288_3 hHeld ⊢
      refine pur_ 0 #[true, false, false, false, false, false, false, false, false, false] (some 17) HT_ ?_
      refine pur_ 1 #[true, true, false, false, false, false, false, false, false, false] (some 18) HT_ ?_
      refine pur_ 2 #[true, true, true, false, false, false, false, false, false, false] (some 19) HT_ ?_
      refine pur_ 4 #[true, true, true, false, true, false, false, false, false, false] (some 21) HT_ ?_
      refine pur_ 5 #[true, true, true, false, true, true, false, false, false, false] (some 22) HT_ ?_
      refine pur_ 6 #[true, true, true, false, true, true, true, false, false, false] (some 23) HT_ ?_
      refine tak_ 3 #[true, true, true, true, true, true, true, false, false, false] (some 20) HT_ HW_ hHeld ?_
      refine tak_ 7 #[true, true, true, true, true, true, true, true, false, false] (some 24) HT_ HW_ hHeld ?_
      refine onc_ 8 #[true, true, true, true, true, true, true, true, true, false] (some 25) HT_ Try.func63 (laws_eqContact.calls ((rd_T82 l0 x5_1).f0) ((rd_T82 l0 x5_1).f1) ((rd_T82 l0 x5_1).f2) ((rd_T82 l0 x5_1).f3) ((rd_T82 l1 x5_1).f0) ((rd_T82 l1 x5_1).f1) ((rd_T82 l1 x5_1).f2) ((rd_T82 l1 x5_1).f3) true _ A7.out) ?_
      rintro e w10 ⟨rfl, hb⟩
      refine sh1_ (below_step (bl_ HB) hb) ?_
      clear HB hb
      intro HB
      refine ⟨_, _, rfl, ⟨((HB.out.cell (World.block_lt_of_cell? w _ hw287_0)).trans hw287_0), ((HB.out.cell (World.block_lt_of_cell? w _ hw287_1)).trans hw287_1), ((HB.out.cell (World.block_lt_of_cell? w _ hw287_2)).trans hw287_2), ((HB.out.cell (World.block_lt_of_cell? w _ hw287_3)).trans hw287_3), ((HB.out.cell (World.block_lt_of_cell? w _ hw288_0)).trans hw288_0), ((HB.out.cell (World.block_lt_of_cell? w _ hw288_1)).trans hw288_1), ((HB.out.cell (World.block_lt_of_cell? w _ hw288_2)).trans hw288_2), ((HB.out.cell (World.block_lt_of_cell? w _ hw288_3)).trans hw288_3)⟩, pt_, fun hHeld => ?_⟩
      refine pur_ 9 #[true, true, true, true, true, true, true, true, true, true] (some 26) HT_ ?_
      refine done_ (done_of HT_.out (by kernel_rfl)) ?_
      try go_wp2
      go_roundg k1
      case measure => have := HK1.out; omega
      case rel => exact ⟨(wrap64 (x5_1 + 1)), (by first | rfl | (simp; done) | (simp [*]; done)), H', ⟨by have := HK1.out; omega⟩, ⟨bl_ HB⟩⟩
     ·replace c8 := Bool.eq_false_iff.mpr c8
      subst c8
      have H1 : (some false) = some r := by rw [if_neg (show ¬ (false = true) by decide)] at H; exact H
      clear H
      have H := H1
      clear H1
      obtain rfl := Option.some.inj H
      try go_wp2
      refine sh1_ (below_drew1 HB.out) ?_
      clear HB
      intro HB
      have p287 : 0 ≤ (x5_1 : Int) := od_
      have q287 : x5_1 < (l0.length : Int) := od_
      obtain ⟨ad287, e287, hx287_0, hx287_1, hx287_2, hx287_3⟩ := at_T82 HR0.out x5_1 p287 q287
      have hw287_3 := hx287_3
      have hw287_2 := hx287_2
      have hw287_1 := hx287_1
      have hw287_0 := hx287_0
      cases e287
      replace hx287_0 := hbc_ HB hx287_0
      replace hx287_1 := hbc_ HB hx287_1
      replace hx287_2 := hbc_ HB hx287_2
      replace hx287_3 := hbc_ HB hx287_3
      replace p287 := eq_true p287
      replace q287 := eq_true q287
      have p288 : 0 ≤ (x5_1 : Int) := od_
      have q288 : x5_1 < (l1.length : Int) := od_
      obtain ⟨ad288, e288, hx288_0, hx288_1, hx288_2, hx288_3⟩ := at_T82 HR1.out x5_1 p288 q288
      have hw288_3 := hx288_3
      have hw288_2 := hx288_2
      have hw288_1 := hx288_1
      have hw288_0 := hx288_0
      cases e288
      replace hx288_0 := hbc_ HB hx288_0
      replace hx288_1 := hbc_ HB hx288_1
      replace hx288_2 := hbc_ HB hx288_2
      replace hx288_3 := hbc_ HB hx288_3
      replace p288 := eq_true p288
      replace q288 := eq_true q288
      refine start_ (n := 10) (S := fun w' => w'.cell? (ad287.add ((x5_1).toNat * 4)) = some (.int .i64 ((rd_T82 l0 x5_1).f0)) ∧ w'.cell? ⟨(ad287.add ((x5_1).toNat * 4)).block, (ad287.add ((x5_1).toNat * 4)).off + 1, none⟩ = some (.int .i64 ((rd_T82 l0 x5_1).f1)) ∧ w'.cell? ⟨(ad287.add ((x5_1).toNat * 4)).block, (ad287.add ((x5_1).toNat * 4)).off + 2, none⟩ = some (.int .i64 ((rd_T82 l0 x5_1).f2)) ∧ w'.cell? ⟨(ad287.add ((x5_1).toNat * 4)).block, (ad287.add ((x5_1).toNat * 4)).off + 3, none⟩ = some (.int .i64 ((rd_T82 l0 x5_1).f3)) ∧ w'.cell? (ad288.add ((x5_1).toNat * 4)) = some (.int .i64 ((rd_T82 l1 x5_1).f0)) ∧ w'.cell? ⟨(ad288.add ((x5_1).toNat * 4)).block, (ad288.add ((x5_1).toNat * 4)).off + 1, none⟩ = some (.int .i64 ((rd_T82 l1 x5_1).f1)) ∧ w'.cell? ⟨(ad288.add ((x5_1).toNat * 4)).block, (ad288.add ((x5_1).toNat * 4)).off + 2, none⟩ = some (.int .i64 ((rd_T82 l1 x5_1).f2)) ∧ w'.cell? ⟨(ad288.add ((x5_1).toNat * 4)).block, (ad288.add ((x5_1).toNat * 4)).off + 3, none⟩ = some (.int .i64 ((rd_T82 l1 x5_1).f3))) (ds := []) #[false, false, false, false, false, false, false, false, false, false] (by kernel_rfl) rfl rfl ⟨((HB.out.cell (World.block_lt_of_cell? w _ hw287_0)).trans hw287_0), ((HB.out.cell (World.block_lt_of_cell? w _ hw287_1)).trans hw287_1), ((HB.out.cell (World.block_lt_of_cell? w _ hw287_2)).trans hw287_2), ((HB.out.cell (World.block_lt_of_cell? w _ hw287_3)).trans hw287_3), ((HB.out.cell (World.block_lt_of_cell? w _ hw288_0)).trans hw288_0), ((HB.out.cell (World.block_lt_of_cell? w _ hw288_1)).trans hw288_1), ((HB.out.cell (World.block_lt_of_cell? w _ hw288_2)).trans hw288_2), ((HB.out.cell (World.block_lt_of_cell? w _ hw288_3)).trans hw288_3)⟩ (fun hHeld => ?_); refine with_tabW laws_eqContactS.tab6 laws_eqContactS.bits6 (fun HT_ HW_ => ?_)
      generalize wr.drew = w11 at HB hx287_0 hx287_1 hx287_2 hx287_3 hx288_0 hx288_1 hx288_2 hx288_3 hHeld ⊢
      refine pur_ 0 #[true, false, false, false, false, false, false, false, false, false] (some 17) HT_ ?_
      refine pur_ 1 #[true, true, false, false, false, false, false, false, false, false] (some 18) HT_ ?_
      refine pur_ 2 #[true, true, true, false, false, false, false, false, false, false] (some 19) HT_ ?_
      refine pur_ 4 #[true, true, true, false, true, false, false, false, false, false] (some 21) HT_ ?_
      refine pur_ 5 #[true, true, true, false, true, true, false, false, false, false] (some 22) HT_ ?_
      refine pur_ 6 #[true, true, true, false, true, true, true, false, false, false] (some 23) HT_ ?_
      refine tak_ 3 #[true, true, true, true, true, true, true, false, false, false] (some 20) HT_ HW_ hHeld ?_
      refine tak_ 7 #[true, true, true, true, true, true, true, true, false, false] (some 24) HT_ HW_ hHeld ?_
      refine onc_ 8 #[true, true, true, true, true, true, true, true, true, false] (some 25) HT_ Try.func63 (laws_eqContact.calls ((rd_T82 l0 x5_1).f0) ((rd_T82 l0 x5_1).f1) ((rd_T82 l0 x5_1).f2) ((rd_T82 l0 x5_1).f3) ((rd_T82 l1 x5_1).f0) ((rd_T82 l1 x5_1).f1) ((rd_T82 l1 x5_1).f2) ((rd_T82 l1 x5_1).f3) false _ A7.out) ?_
      rintro e w12 ⟨rfl, hb⟩
      refine sh1_ (below_step (bl_ HB) hb) ?_
      clear HB hb
      intro HB
      refine ⟨_, _, rfl, ⟨((HB.out.cell (World.block_lt_of_cell? w _ hw287_0)).trans hw287_0), ((HB.out.cell (World.block_lt_of_cell? w _ hw287_1)).trans hw287_1), ((HB.out.cell (World.block_lt_of_cell? w _ hw287_2)).trans hw287_2), ((HB.out.cell (World.block_lt_of_cell? w _ hw287_3)).trans hw287_3), ((HB.out.cell (World.block_lt_of_cell? w _ hw288_0)).trans hw288_0), ((HB.out.cell (World.block_lt_of_cell? w _ hw288_1)).trans hw288_1), ((HB.out.cell (World.block_lt_of_cell? w _ hw288_2)).trans hw288_2), ((HB.out.cell (World.block_lt_of_cell? w _ hw288_3)).trans hw288_3)⟩, pt_, fun hHeld => ?_⟩
      refine pur_ 9 #[true, true, true, true, true, true, true, true, true, true] (some 26) HT_ ?_
      refine done_ (done_of HT_.out (by kernel_rfl)) ?_
      try go_wp2
      go_ret
      exact ⟨er_, bl_ HB⟩
    ·rw [if_neg c4] at H
     have c4b0 : decide (x5_1 < (l0.length : Int)) = false := decide_eq_false c4
     clear c4
     obtain rfl := Option.some.inj H
     go_wp2
     go_ret
     exact ⟨er_, bl_ HB⟩
 ·rw [if_neg c3] at H
  obtain ⟨c3b0, c3b1⟩ := bn_ c3
  have c3b2 : (l0.length == l1.length) = false := by first | simpa using c3 | (simp at c3 ⊢; omega)
  obtain rfl := Option.some.inj H
  go_enter Try.func24, Try.ntmps24
  go_wp2
  go_ret
  exact ⟨er_, bl_ HB⟩

/-! ### laws_eqCloud: function 64 -/
def laws_eqCloud.f (a0_0 : Int) (a0_1 : Int) (a0_2 : Int) (a1_0 : Int) (a1_1 : Int) (a1_2 : Int) : Option (Bool) := if a0_0 = a1_0 then (if a0_1 = a1_1 then (if a0_2 = a1_2 then (some true) else (some false)) else (some false)) else (some false)
set_option maxHeartbeats 8000000 in
set_option maxRecDepth 100000 in
theorem laws_eqCloud.calls (a0_0 : Int) (a0_1 : Int) (a0_2 : Int) (a1_0 : Int) (a1_1 : Int) (a1_2 : Int) (r : Bool) (w : World) (h : laws_eqCloud.f a0_0 a0_1 a0_2 a1_0 a1_1 a1_2 = some r) (hT_ : r = true := by rfl) :
  Calls Try.prog 64 #[.agg #[.int .i64 a0_0, .int .i64 a0_1, .int .i64 a0_2], .agg #[.int .i64 a1_0, .int .i64 a1_1, .int .i64 a1_2]] w fun e w' => e = .returned (.bool r) ∧ Below w.heap.size w w' := by
 have hu87 := Try.underlying87
 have HB := Aside0.mk (Below.refl w.heap.size w)
 subst hT_
 have H := h
 clear h
 unfold laws_eqCloud.f at H
 by_cases c3 : a0_0 = a1_0
 ·rw [if_pos c3] at H
  obtain ⟨c3b0, c3b1⟩ := bt_ c3
  clear c3
  by_cases c4 : a0_1 = a1_1
  ·rw [if_pos c4] at H
   obtain ⟨c4b0, c4b1⟩ := bt_ c4
   clear c4
   by_cases c5 : a0_2 = a1_2
   ·rw [if_pos c5] at H
    obtain ⟨c5b0, c5b1⟩ := bt_ c5
    clear c5
    clear H
    go_enter Try.func64, Try.ntmps64
    go_wp2_with (first | ((with_reducible refine gd_ 2 ?_); refine bx_ 2 87 #[.int .i64 a0_0, .int .i64 a0_1, .int .i64 a0_2] ?_; intro gb290 hg w6 hbox hb; refine sh4_ (below_step (bl_ HB) hb) hbox (ge_ hg (bl_ HB)) (ge_ hg (bl_ HB)) ?_; clear HB hb hbox hg; intro HB BK290 GW290 GE290) | ((with_reducible refine gd_ 3 ?_); refine bx_ 3 87 #[.int .i64 a1_0, .int .i64 a1_1, .int .i64 a1_2] ?_; intro gb291 hg w7 hbox hb; refine sh7_ (blk_below (bk_ BK290) hb) (below_step (bl1_ HB GE290) hb) hbox (ge_ hg (bl1_ HB GE290)) (ge_ hg (bl1_ HB GE290)) (nl_ hg (bk_ BK290)) (ng_ hg (bk_ BK290)) ?_; clear BK290 HB hb hbox hg; intro BK290 HB BK291 GW291 GE291 NB290_291 NB291_290; have hnb8 := NB290_291.out; have hnc8 := NB291_290.out; have hcz9 := cf3_ BK290; have hcz10 := cf3_ BK291))
    go_ret
    exact ⟨er_, bl2_ HB GE290 GE291⟩
   ·rw [if_neg c5] at H
    obtain ⟨c5b0, c5b1⟩ := bn_ c5
    exact absurd H (by simp)
  ·rw [if_neg c4] at H
   obtain ⟨c4b0, c4b1⟩ := bn_ c4
   exact absurd H (by simp)
 ·rw [if_neg c3] at H
  obtain ⟨c3b0, c3b1⟩ := bn_ c3
  exact absurd H (by simp)

end Go.Proofs.Ytcjfalmhohcifaa.PFnExactCutClouds
