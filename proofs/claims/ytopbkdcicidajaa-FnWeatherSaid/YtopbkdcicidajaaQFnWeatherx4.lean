-- Written by a program of this session for this claim (the kit's printer with changes).
import Derived.Test.YtopbkdcicidajaaQFnWeatherx0
import Derived.Test.YtopbkdcicidajaaQFnWeatherx1
import Derived.Test.YtopbkdcicidajaaQFnWeatherx3
namespace Go.Proofs.Ytopbkdcicidajaa.PFnWeather
open Go.RowKit Go.Proofs.YtopbkdcicidajaaW.PrintWords Go.Proofs.YtopbkdcicidajaaW.PrintLast Go.Proofs.YtopbkdcicidajaaW.PrintMore
attribute [local go_sem] max2_int min2_int max_two min_two max_three min_three max_four min_four   -- for this text's walks alone
set_option linter.unusedVariables false
set_option linter.unusedSimpArgs false

/-! ### impl_CutClouds: function 44 -/
mutual
def impl_CutClouds.l0 : Nat → List (S121) → List (S53) → List (S53) → Int → Int → Option ((List (S53)))
 | 0, _, _, _, _, _ => none
 | k + 1, x1, x5, x11, x12, x13 => if x13 < x12 then (if 0 ≤ x13 then (if x13 < (x11.length : Int) then ((impl_spanOf.f ((rd_T53 x11 x13).f0) ((rd_T53 x11 x13).f1) ((rd_T53 x11 x13).f2) ((rd_T53 x11 x13).f3)).bind fun bt323 => ((impl_CloudSpans.f k x1 ((rd_T53 x11 x13).f0)).bind fun t328 => ((impl_CloudSpans.f k x1 ((rd_T53 x11 x13).f1)).bind fun t331 => ((impl_Span_70.f k (([t328, t331] : List (List (S82))))).bind fun t337 => ((impl_CutSpans.f k (([(⟨bt323.1, bt323.2⟩ : S82)] : List (S82))) t337).bind fun t340 => (impl_CutClouds.l1 k x1 x5 x11 x12 x13 t340 (t340.length : Int) 0 ((rd_T53 x11 x13).f0) ((rd_T53 x11 x13).f1) ((rd_T53 x11 x13).f2) ((rd_T53 x11 x13).f3))))))) else (none)) else (none)) else (some x5)
def impl_CutClouds.l1 : Nat → List (S121) → List (S53) → List (S53) → Int → Int → List (S82) → Int → Int → Int → Int → Int → Int → Option ((List (S53)))
 | 0, _, _, _, _, _, _, _, _, _, _, _, _ => none
 | k + 1, x1, x5, x11, x12, x13, x30, x31, x32, x323000, x323001, x323002, x323003 => if x32 < x31 then (if 0 ≤ x32 then (if x32 < (x30.length : Int) then (if x5.length < 4398046511104 then (impl_CutClouds.l1 k x1 (x5 ++ [(⟨x323000, x323001, (rd_T82 x30 x32).f0, (rd_T82 x30 x32).f1⟩ : S53)]) x11 x12 x13 x30 x31 (wrap64 (x32 + 1)) x323000 x323001 x323002 x323003) else (none)) else (none)) else (none)) else (impl_CutClouds.l0 k x1 x5 x11 x12 (wrap64 (x13 + 1)))
end
def impl_CutClouds.f (k : Nat) (l0 : List (S53)) (l1 : List (S121)) : Option ((List (S53))) := impl_CutClouds.l0 k l1 (([] : List (S53))) l0 (l0.length : Int) 0
theorem impl_CutClouds.mono_l : ∀ k, (∀ y0 y1 y2 y3 y4, LeO (impl_CutClouds.l0 k y0 y1 y2 y3 y4) (impl_CutClouds.l0 (k + 1) y0 y1 y2 y3 y4)) ∧ (∀ y0 y1 y2 y3 y4 y5 y6 y7 y8 y9 y10 y11, LeO (impl_CutClouds.l1 k y0 y1 y2 y3 y4 y5 y6 y7 y8 y9 y10 y11) (impl_CutClouds.l1 (k + 1) y0 y1 y2 y3 y4 y5 y6 y7 y8 y9 y10 y11))
 | 0 => ⟨fun _ _ _ _ _ r h => by simp [impl_CutClouds.l0] at h, fun _ _ _ _ _ _ _ _ _ _ _ _ r h => by simp [impl_CutClouds.l1] at h⟩
 | k + 1 => by
  obtain ⟨ih0, ih1⟩ := impl_CutClouds.mono_l k
  refine ⟨?_, ?_⟩
  ·intro y0 y1 y2 y3 y4
   unfold impl_CutClouds.l0
   repeat' first | (with_reducible first | exact ih0 _ _ _ _ _ | exact ih1 _ _ _ _ _ _ _ _ _ _ _ _ | exact impl_CloudSpans.mono _ _ _ | exact impl_CutSpans.mono _ _ _ | exact impl_Span_70.mono _ _ | exact LeO.refl _ | exact LeO.none _ | refine LeO.ite ?_ ?_ | refine LeO.bind ?_ (fun _ => ?_)) | exact LeO.none _ | refine LeO.ite ?_ ?_ | refine LeO.bind ?_ (fun _ => ?_)
  ·intro y0 y1 y2 y3 y4 y5 y6 y7 y8 y9 y10 y11
   unfold impl_CutClouds.l1
   repeat' first | (with_reducible first | exact ih0 _ _ _ _ _ | exact ih1 _ _ _ _ _ _ _ _ _ _ _ _ | exact impl_CloudSpans.mono _ _ _ | exact impl_CutSpans.mono _ _ _ | exact impl_Span_70.mono _ _ | exact LeO.refl _ | exact LeO.none _ | refine LeO.ite ?_ ?_ | refine LeO.bind ?_ (fun _ => ?_)) | exact LeO.none _ | refine LeO.ite ?_ ?_ | refine LeO.bind ?_ (fun _ => ?_)
theorem impl_CutClouds.mono : ∀ a0 a1 k, LeO (impl_CutClouds.f k a0 a1) (impl_CutClouds.f (k + 1) a0 a1) := by
 intro a0 a1 k
 obtain ⟨ih0, ih1⟩ := impl_CutClouds.mono_l k
 unfold impl_CutClouds.f
 repeat' first | (with_reducible first | exact ih0 _ _ _ _ _ | exact ih1 _ _ _ _ _ _ _ _ _ _ _ _ | exact impl_CloudSpans.mono _ _ _ | exact impl_CutSpans.mono _ _ _ | exact impl_Span_70.mono _ _ | exact LeO.refl _ | exact LeO.none _ | refine LeO.ite ?_ ?_ | refine LeO.bind ?_ (fun _ => ?_)) | exact LeO.none _ | refine LeO.ite ?_ ?_ | refine LeO.bind ?_ (fun _ => ?_)
def impl_CutClouds.T5 : Bool × List (List Nat × List Nat) := (true, [([], []), ([0], [0]), ([1], [1]), ([], []), ([], []), ([4], [4]), ([3, 5, 1], [3, 5]), ([], []), ([], []), ([8], [8]), ([7, 9, 6], [7, 9]), ([6, 10], [6, 10]), ([11, 10], [11]), ([2, 12, 12], [2, 12]), ([13], [13]), ([], [])])
def impl_CutClouds.B5 : List Nat := [0, 1, 3, 0, 0, 16, 59, 0, 0, 256, 1019, 2043, 4091, 8191, 16383, 0]
theorem impl_CutClouds.tab5 : rtab .any (opsOf Try.f44 5) = impl_CutClouds.T5 := by kernel_rfl
theorem impl_CutClouds.bits5 : waitsOk impl_CutClouds.T5.2 impl_CutClouds.B5 = true := by kernel_rfl
set_option maxHeartbeats 8000000 in
set_option maxRecDepth 100000 in
theorem impl_CutClouds.calls (k : Nat) (A0 : Option Addr) (c0 : Nat) (l0 : List (S53)) (A1 : Option Addr) (c1 : Nat) (l1 : List (S121)) (r : List (S53)) (w : World) (hr0 : Kd.C k53 w A0 l0.length l0) (hc0 : l0.length ≤ c0) (hr1 : Kd.C k121 w A1 l1.length l1) (hc1 : l1.length ≤ c1) (h : impl_CutClouds.f k l0 l1 = some r) :
  Calls Try.prog 44 #[.slice A0 l0.length c0, .slice A1 l1.length c1] w fun e w' => ∃ v0_ : Value, e = .returned (v0_) ∧ Kd.R k53 53 w' w.heap.size (fun _ => True) v0_ r ∧ Below w.heap.size w w' := by
 have hu53 := Try.underlying53
 have hu82 := Try.underlying82
 have HR0 := Aside0.mk hr0
 have HC0 := Aside0.mk hc0
 clear hr0 hc0
 have HR1 := Aside0.mk hr1
 have HC1 := Aside0.mk hc1
 clear hr1 hc1
 have HB := Aside0.mk (Below.refl w.heap.size w)
 have H := h
 clear h
 unfold impl_CutClouds.f at H
 replace H : ∃ y_ : List (S53), Aside0 (y_ = (([] : List (S53)))) ∧ (impl_CutClouds.l0 k l1 y_ l0 (l0.length : Int) 0) = some r := ⟨_, ⟨rfl⟩, yh_ H⟩
 obtain ⟨y318, Ny318, H⟩ := H
 have H' := Aside0.mk H
 clear H
 go_enter Try.func44, Try.ntmps44
 go_wp2_with (first | ((with_reducible refine gate_dst (N := 10) rfl ?_); refine Kd.R_lit k53 _ 53 ?hg (N := 10) ?hd (xs := ([] : List (S53))) (inner := []) (ok := fun _ => True) (okp := fun _ => True) ?hr ?hp (fun _ hk => hk) trivial (Below.refl _ _) (Nat.le_refl _) (by simp) ?_; (case hd => rfl); (case hg => rfl); (case hr => first | (go_simp; done) | (go_simp; rfl)); (case hp => exact (Reps.none _ _)); intro v319 w3 ho4 hb hg_ hnew_; clear hg_ hnew_; (first | rw [← Ny318.out] at ho4 | (simp only [Int.reduceToNat] at ho4; rw [← Ny318.out] at ho4)); refine sh2_ (Kd.R_lower ho4 (below_size (bl_ HB))) (below_step (bl_ HB) hb) ?_; clear HB hb ho4; intro HO320 HB))
 go_loopg [5, 13] k (fun kq v5 v13 w' => ∃ (x5_1 : List (S53)) (x13_1 : Int), v13 = .int .i64 x13_1 ∧ Aside0 (impl_CutClouds.l0 kq l1 x5_1 l0 (l0.length : Int) x13_1 = some r) ∧ Aside0 (kq ≤ k) ∧ Aside0 (Kd.R k53 53 w' w.heap.size (fun _ => True) v5 x5_1) ∧ Aside0 (Below w.heap.size w w'))
 case atStart => exact ⟨(y318), (0), (by first | rfl | (simp; done) | (simp [*]; done)), H', ⟨Nat.le_refl _⟩, ⟨ra_ HO320⟩, ⟨bl_ HB⟩⟩
 case round =>
  clear H'
  try clear c1
  try clear p2
  try clear c4
  obtain ⟨x5_1, x13_1, rfl, HA, HK1, HO_5, HB⟩ := hrel
  cases gk with
  | zero => exact absurd HA.out (by simp [impl_CutClouds.l0])
  | succ k1 =>
   have H := HA.out
   clear HA
   simp only [impl_CutClouds.l0] at H
   by_cases c5 : x13_1 < (l0.length : Int)
   ·rw [if_pos c5] at H
    have c5b0 := decide_eq_true c5
    clear c5
    replace H := ifn_ H
    obtain ⟨c6, H⟩ := H
    have c6b0 := decide_eq_true c6
    clear c6
    replace H := ifn_ H
    obtain ⟨c7, H⟩ := H
    have c7b0 := decide_eq_true c7
    clear c7
    replace H := bs_ H
    obtain ⟨⟨t323, t324⟩, A8, H⟩ := H
    dsimp only at H
    replace H : ∃ y_ : List (S82), Aside0 (y_ = (([(⟨t323, t324⟩ : S82)] : List (S82)))) ∧ ((impl_CloudSpans.f k1 l1 ((rd_T53 l0 x13_1).f0)).bind fun t328 => ((impl_CloudSpans.f k1 l1 ((rd_T53 l0 x13_1).f1)).bind fun t331 => ((impl_Span_70.f k1 (([t328, t331] : List (List (S82))))).bind fun t337 => ((impl_CutSpans.f k1 y_ t337).bind fun t340 => (impl_CutClouds.l1 k1 l1 x5_1 l0 (l0.length : Int) x13_1 t340 (t340.length : Int) 0 ((rd_T53 l0 x13_1).f0) ((rd_T53 l0 x13_1).f1) ((rd_T53 l0 x13_1).f2) ((rd_T53 l0 x13_1).f3)))))) = some r := ⟨_, ⟨rfl⟩, yh_ H⟩
    obtain ⟨y325, Ny325, H⟩ := H
    replace H := bs_ H
    obtain ⟨t328, A9, H⟩ := H
    replace H := bs_ H
    obtain ⟨t331, A10, H⟩ := H
    replace H : ∃ y_ : List (List (S82)), Aside0 (y_ = (([t328, t331] : List (List (S82))))) ∧ ((impl_Span_70.f k1 y_).bind fun t337 => ((impl_CutSpans.f k1 y325 t337).bind fun t340 => (impl_CutClouds.l1 k1 l1 x5_1 l0 (l0.length : Int) x13_1 t340 (t340.length : Int) 0 ((rd_T53 l0 x13_1).f0) ((rd_T53 l0 x13_1).f1) ((rd_T53 l0 x13_1).f2) ((rd_T53 l0 x13_1).f3)))) = some r := ⟨_, ⟨rfl⟩, yh_ H⟩
    obtain ⟨y334, Ny334, H⟩ := H
    replace H := bs_ H
    obtain ⟨t337, A11, H⟩ := H
    replace H := bs_ H
    obtain ⟨t340, A12, H⟩ := H
    have H' := Aside0.mk H
    clear H
    have p321 : 0 ≤ (x13_1 : Int) := od_
    have q321 : x13_1 < (l0.length : Int) := od_
    obtain ⟨ad321, e321, hx321_0, hx321_1, hx321_2, hx321_3⟩ := at_T53 HR0.out x13_1 p321 q321
    cases e321
    replace hx321_0 := hbc_ HB hx321_0
    replace hx321_1 := hbc_ HB hx321_1
    replace hx321_2 := hbc_ HB hx321_2
    replace hx321_3 := hbc_ HB hx321_3
    replace p321 := eq_true p321
    replace q321 := eq_true q321
    try go_wp2_with (first | ((with_reducible refine gd_ 7 ?_); refine bx_ 7 53 #[.int .i64 0, .int .i64 0, .int .i64 0, .int .i64 0] ?_; intro gb322 hg w13 hbox hb; refine sh5_ (Kd.R_below (Kd.R_elderB (ra_ HO_5) gb322 (Nat.le_of_eq hg.symm)) hb) (below_step (bl_ HB) hb) hbox (ge_ hg (bl_ HB)) (ge_ hg (bl_ HB)) ?_; clear HO_5 HB hb hbox hg; intro HO_5 HB BK322 GW322 GE322; have hcz14 := cf4_ BK322))
    have n0_ : Aside0 (Kd.R k53 53 ((((w13.setCell ⟨gb322, 0, none⟩ (.int .i64 ((rd_T53 l0 x13_1).f0))).setCell ⟨gb322, 1, none⟩ (.int .i64 ((rd_T53 l0 x13_1).f1))).setCell ⟨gb322, 2, none⟩ (.int .i64 ((rd_T53 l0 x13_1).f2))).setCell ⟨gb322, 3, none⟩ (.int .i64 ((rd_T53 l0 x13_1).f3))) w.heap.size (fun k_ => k_ ≠ gb322) u5 x5_1) := ⟨by (with_reducible repeat (first | apply Kd.R_alloc | apply Kd.R_drewN | apply Kd.R_drew)); exact Kd.R_mono (Kd.R_far (p := ⟨gb322, 3, none⟩) (Kd.R_far (p := ⟨gb322, 2, none⟩) (Kd.R_far (p := ⟨gb322, 1, none⟩) (Kd.R_far (p := ⟨gb322, 0, none⟩) (Kd.R_mono HO_5.out (fun k_ hk => (⟨hk, hk.2⟩ : _ ∧ k_ ≠ gb322))) (fun _ hk => hk.2) (.int .i64 ((rd_T53 l0 x13_1).f0))) (fun _ hk => hk.2) (.int .i64 ((rd_T53 l0 x13_1).f1))) (fun _ hk => hk.2) (.int .i64 ((rd_T53 l0 x13_1).f2))) (fun _ hk => hk.2) (.int .i64 ((rd_T53 l0 x13_1).f3))) (fun _ hk => hk.1.2)⟩
    have n1_ : Aside0 (((((w13.setCell ⟨gb322, 0, none⟩ (.int .i64 ((rd_T53 l0 x13_1).f0))).setCell ⟨gb322, 1, none⟩ (.int .i64 ((rd_T53 l0 x13_1).f1))).setCell ⟨gb322, 2, none⟩ (.int .i64 ((rd_T53 l0 x13_1).f2))).setCell ⟨gb322, 3, none⟩ (.int .i64 ((rd_T53 l0 x13_1).f3))).heap[gb322]? = some (.cells #[.int .i64 ((rd_T53 l0 x13_1).f0), .int .i64 ((rd_T53 l0 x13_1).f1), .int .i64 ((rd_T53 l0 x13_1).f2), .int .i64 ((rd_T53 l0 x13_1).f3)] 53 (0, 0))) := ⟨by (with_reducible repeat (first | refine blk_drewN ?_ _ | refine blk_drew ?_ | refine blk_alloc ?_ _)); refine blk_put (cs := #[.int .i64 ((rd_T53 l0 x13_1).f0), .int .i64 ((rd_T53 l0 x13_1).f1), .int .i64 ((rd_T53 l0 x13_1).f2), .int .i64 0]) ?_ 3 _ rfl; (with_reducible repeat (first | refine blk_drewN ?_ _ | refine blk_drew ?_ | refine blk_alloc ?_ _)); refine blk_put (cs := #[.int .i64 ((rd_T53 l0 x13_1).f0), .int .i64 ((rd_T53 l0 x13_1).f1), .int .i64 0, .int .i64 0]) ?_ 2 _ rfl; (with_reducible repeat (first | refine blk_drewN ?_ _ | refine blk_drew ?_ | refine blk_alloc ?_ _)); refine blk_put (cs := #[.int .i64 ((rd_T53 l0 x13_1).f0), .int .i64 0, .int .i64 0, .int .i64 0]) ?_ 1 _ rfl; (with_reducible repeat (first | refine blk_drewN ?_ _ | refine blk_drew ?_ | refine blk_alloc ?_ _)); refine blk_put (cs := #[.int .i64 0, .int .i64 0, .int .i64 0, .int .i64 0]) ?_ 0 _ rfl; (with_reducible repeat (first | refine blk_drewN ?_ _ | refine blk_drew ?_ | refine blk_alloc ?_ _)); exact BK322.out⟩
    have n2_ : Aside0 (Below w.heap.size w ((((w13.setCell ⟨gb322, 0, none⟩ (.int .i64 ((rd_T53 l0 x13_1).f0))).setCell ⟨gb322, 1, none⟩ (.int .i64 ((rd_T53 l0 x13_1).f1))).setCell ⟨gb322, 2, none⟩ (.int .i64 ((rd_T53 l0 x13_1).f2))).setCell ⟨gb322, 3, none⟩ (.int .i64 ((rd_T53 l0 x13_1).f3)))) := ⟨bl1_ HB GE322⟩
    (try clear HO_5)
    (try clear BK322)
    (try clear HB)
    generalize ((((w13.setCell ⟨gb322, 0, none⟩ (.int .i64 ((rd_T53 l0 x13_1).f0))).setCell ⟨gb322, 1, none⟩ (.int .i64 ((rd_T53 l0 x13_1).f1))).setCell ⟨gb322, 2, none⟩ (.int .i64 ((rd_T53 l0 x13_1).f2))).setCell ⟨gb322, 3, none⟩ (.int .i64 ((rd_T53 l0 x13_1).f3))) = w15 at n0_ n1_ n2_ ⊢
    have HO_5 := n0_
    have BK322 := n1_
    have HB := n2_
    clear n0_ n1_ n2_
    refine sh3_ (Kd.R_drew HO_5.out) (blk_drew BK322.out) (below_drew1 HB.out) ?_
    clear HO_5 BK322 HB
    intro HO_5 BK322 HB
    refine start_ (n := 16) (S := fun w' => True) (ds := []) #[false, false, false, false, false, false, false, false, false, false, false, false, false, false, false, false] (by kernel_rfl) rfl rfl trivial (fun hHeld => ?_); refine with_tabW impl_CutClouds.tab5 impl_CutClouds.bits5 (fun HT_ HW_ => ?_)
    generalize w15.drew = w16 at HO_5 BK322 HB hHeld ⊢
    refine pur_ 3 #[false, false, false, true, false, false, false, false, false, false, false, false, false, false, false, false] (some 20) HT_ ?_
    refine pur_ 4 #[false, false, false, true, true, false, false, false, false, false, false, false, false, false, false, false] (some 21) HT_ ?_
    refine pur_ 7 #[false, false, false, true, true, false, false, true, false, false, false, false, false, false, false, false] (some 24) HT_ ?_
    refine pur_ 8 #[false, false, false, true, true, false, false, true, true, false, false, false, false, false, false, false] (some 25) HT_ ?_
    refine pur_ 15 #[false, false, false, true, true, false, false, true, true, false, false, false, false, false, false, true] (some 32) HT_ ?_
    refine inv_at [0, 1, 2, 5, 6, 9, 10, 11, 12, 13, 14] (fun a0_ b a w' => ∃ (v326 : Value) (v329 : Value) (v332 : Value) (v335 : Value) (v338 : Value) (v341 : Value), a = putSel a0_ b [(0, 17, .agg #[.int .i64 ((rd_T53 l0 x13_1).f0), .int .i64 ((rd_T53 l0 x13_1).f1), .int .i64 ((rd_T53 l0 x13_1).f2), .int .i64 ((rd_T53 l0 x13_1).f3)]), (1, 18, .agg #[.int .i64 t323, .int .i64 t324]), (2, 19, v326), (5, 22, .int .i64 ((rd_T53 l0 x13_1).f0)), (6, 23, v329), (9, 26, .int .i64 ((rd_T53 l0 x13_1).f1)), (10, 27, v332), (11, 28, v335), (12, 29, v338), (13, 30, v341), (14, 31, .int .i64 (t340.length : Int))] ∧ (Kd.R k53 53 w' w.heap.size (fun k_ => k_ ≠ gb322) u5 x5_1) ∧ (w'.heap[gb322]? = some (.cells #[.int .i64 ((rd_T53 l0 x13_1).f0), .int .i64 ((rd_T53 l0 x13_1).f1), .int .i64 ((rd_T53 l0 x13_1).f2), .int .i64 ((rd_T53 l0 x13_1).f3)] 53 (0, 0))) ∧ (Below w.heap.size w w') ∧ (b 2 = true → Kd.R k82 82 w' w.heap.size (fun _ => True) v326 y325) ∧ (b 6 = true → b 11 = false → Kd.R k82 82 w' w.heap.size (fun _ => True) v329 t328) ∧ (b 10 = true → b 11 = false → Kd.R k82 82 w' w.heap.size (fun _ => True) v332 t331) ∧ (b 11 = true → Kd.N (Kd.slice 82 k82) 40 w' w.heap.size (fun k_ => some k_ ≠ (u5 : Value).ownBlock ∧ k_ ≠ gb322) v335 y334) ∧ (b 12 = true → Kd.R k82 82 w' w.heap.size (fun _ => True) v338 t337) ∧ (b 13 = true → Kd.R k82 82 w' w.heap.size (fun _ => True) v341 t340)) HT_.out HW_.out (by kernel_rfl) (by kernel_rfl) ?_ ?_ ?_
    ·exact ⟨.bool false, .bool false, .bool false, .bool false, .bool false, .bool false, by simp only [putSel, Bool.false_eq_true, if_false], HO_5.out, BK322.out, HB.out, fun h_ => absurd h_ (by decide), fun h_ => absurd h_ (by decide), fun h_ => absurd h_ (by decide), fun h_ => absurd h_ (by decide), fun h_ => absurd h_ (by decide), fun h_ => absurd h_ (by decide)⟩
    ·skip
     clear BK322 HB HO_5
     refine steps_cons ?_ ?_
     ·rintro b a w' ⟨v326, v329, v332, v335, v338, v341, ha, Q_HO_5, Q_BK322, Q_HB, Q_HO327, Q_HO330, Q_HO333, Q_HO336, Q_HO339, Q_HO342⟩ hb_ hon hoff
      refine ⟨_, rfl, fun K hK => ?_⟩
      have e7 : a.tmps[7]? = some (.pointer (some ⟨gb322, 0, none⟩)) := by rw [ha]; exact (putSel_off rfl).trans rfl
      replace ha := Aside0.mk ha
      have HO_5 := Aside0.mk Q_HO_5
      have BK322 := Aside0.mk Q_BK322
      have HB := Aside0.mk Q_HB
      have hc0_ : w'.cell? ⟨gb322, 0, none⟩ = some (.int .i64 ((rd_T53 l0 x13_1).f0)) := bc_ BK322 0 rfl
      have hc1_ : w'.cell? ⟨gb322, 1, none⟩ = some (.int .i64 ((rd_T53 l0 x13_1).f1)) := bc_ BK322 1 rfl
      have hc2_ : w'.cell? ⟨gb322, 2, none⟩ = some (.int .i64 ((rd_T53 l0 x13_1).f2)) := bc_ BK322 2 rfl
      have hc3_ : w'.cell? ⟨gb322, 3, none⟩ = some (.int .i64 ((rd_T53 l0 x13_1).f3)) := bc_ BK322 3 rfl
      refine value_ (w1 := w') (v := .agg #[.int .i64 ((rd_T53 l0 x13_1).f0), .int .i64 ((rd_T53 l0 x13_1).f1), .int .i64 ((rd_T53 l0 x13_1).f2), .int .i64 ((rd_T53 l0 x13_1).f3)]) (by rfl) rfl ?_ ?_
      ·go_simp
       (try simp only [i64_w])
       try rfl
      refine hK.out _ _ ⟨v326, v329, v332, v335, v338, v341, (by rw [ha.out]; exact putSel_upk 0 hb_ rfl rfl rfl), Q_HO_5, Q_BK322, Q_HB, fun h0_ => absurd ((hoff 2 (by kernel_rfl)).symm.trans h0_) (by decide), fun h0_ _ => absurd ((hoff 6 (by kernel_rfl)).symm.trans h0_) (by decide), fun h0_ _ => absurd ((hoff 10 (by kernel_rfl)).symm.trans h0_) (by decide), fun h0_ => absurd ((hoff 11 (by kernel_rfl)).symm.trans h0_) (by decide), fun h0_ => absurd ((hoff 12 (by kernel_rfl)).symm.trans h0_) (by decide), fun h0_ => absurd ((hoff 13 (by kernel_rfl)).symm.trans h0_) (by decide)⟩
     refine steps_cons ?_ ?_
     ·rintro b a w' ⟨v326, v329, v332, v335, v338, v341, ha, Q_HO_5, Q_BK322, Q_HB, Q_HO327, Q_HO330, Q_HO333, Q_HO336, Q_HO339, Q_HO342⟩ hb_ hon hoff
      refine ⟨_, rfl, fun K hK => ?_⟩
      have e17 : a.tmps[17]? = some (.agg #[.int .i64 ((rd_T53 l0 x13_1).f0), .int .i64 ((rd_T53 l0 x13_1).f1), .int .i64 ((rd_T53 l0 x13_1).f2), .int .i64 ((rd_T53 l0 x13_1).f3)]) := by rw [ha]; exact putSel_on (e := (0, 17, .agg #[.int .i64 ((rd_T53 l0 x13_1).f0), .int .i64 ((rd_T53 l0 x13_1).f1), .int .i64 ((rd_T53 l0 x13_1).f2), .int .i64 ((rd_T53 l0 x13_1).f3)])) 0 rfl rfl (hon 0 (by kernel_rfl)) rfl
      replace ha := Aside0.mk ha
      have HO_5 := Aside0.mk Q_HO_5
      have BK322 := Aside0.mk Q_BK322
      have HB := Aside0.mk Q_HB
      refine goes_ Try.func86 (by kernel_rfl) rfl #[.agg #[.int .i64 ((rd_T53 l0 x13_1).f0), .int .i64 ((rd_T53 l0 x13_1).f1), .int .i64 ((rd_T53 l0 x13_1).f2), .int .i64 ((rd_T53 l0 x13_1).f3)]] (by rfl) rfl rfl (by first | (simp only [List.map_toArray, List.map_cons, List.map_nil, Act.eval, Array.getD_eq_getD_getElem?, Option.getD_some, e17]; done) | (simp only [List.map_toArray, List.map_cons, List.map_nil, Act.eval, Array.getD_eq_getD_getElem?, Option.getD_some, e17]; rfl)) ?_
      with_reducible refine (impl_spanOf.calls ((rd_T53 l0 x13_1).f0) ((rd_T53 l0 x13_1).f1) ((rd_T53 l0 x13_1).f2) ((rd_T53 l0 x13_1).f3) t323 t324 _ A8.out).mono ?_
      rintro e w17 ⟨rfl, hb⟩
      refine ⟨_, rfl, sh3_ (Kd.R_below (ra_ HO_5) hb) (blk_below (bk_ BK322) hb) (below_step (bl1_ HB GE322) hb) ?_⟩
      clear HO_5 BK322 HB hb
      intro HO_5 BK322 HB
      refine hK.out _ _ ⟨v326, v329, v332, v335, v338, v341, (by rw [ha.out]; exact putSel_upk 1 hb_ rfl rfl rfl), (ra_ HO_5), (bk_ BK322), (bl1_ HB GE322), fun h0_ => absurd ((hoff 2 (by kernel_rfl)).symm.trans h0_) (by decide), fun h0_ _ => absurd ((hoff 6 (by kernel_rfl)).symm.trans h0_) (by decide), fun h0_ _ => absurd ((hoff 10 (by kernel_rfl)).symm.trans h0_) (by decide), fun h0_ => absurd ((hoff 11 (by kernel_rfl)).symm.trans h0_) (by decide), fun h0_ => absurd ((hoff 12 (by kernel_rfl)).symm.trans h0_) (by decide), fun h0_ => absurd ((hoff 13 (by kernel_rfl)).symm.trans h0_) (by decide)⟩
     refine steps_cons ?_ ?_
     ·rintro b a w' ⟨v326, v329, v332, v335, v338, v341, ha, Q_HO_5, Q_BK322, Q_HB, Q_HO327, Q_HO330, Q_HO333, Q_HO336, Q_HO339, Q_HO342⟩ hb_ hon hoff
      refine ⟨_, rfl, fun K hK => ?_⟩
      have e18 : a.tmps[18]? = some (.agg #[.int .i64 t323, .int .i64 t324]) := by rw [ha]; exact putSel_on (e := (1, 18, .agg #[.int .i64 t323, .int .i64 t324])) 1 rfl rfl (hon 1 (by kernel_rfl)) rfl
      replace ha := Aside0.mk ha
      have HO_5 := Aside0.mk Q_HO_5
      have BK322 := Aside0.mk Q_BK322
      have HB := Aside0.mk Q_HB
      refine Kd.R_lit_step k82 _ 82 ?hg (N := 19) ?hd (xs := ([(⟨t323, t324⟩ : S82)] : List (S82))) (inner := [.int .i64 t323, .int .i64 t324]) (ok := fun _ => True) (okp := fun _ => True) ?hr ?hp (fun _ hk => hk) trivial (Below.refl _ _) (Nat.le_refl _) (by simp) ?_; (case hd => rfl); (case hg => rfl); (case hr => first | (go_simp; done) | (go_simp; rfl)); (case hp => exact (Reps.c2 (show Kd.M k82 _ _ _ (⟨t323, t324⟩ : S82) [.int .i64 t323, .int .i64 t324] from (k82_mkM _ _ _ (⟨t323, t324⟩ : S82) )) (Reps.none _ _)))
      intro v326 w19 ho20 hb hg_ hnew_
      clear hg_ hnew_
      (first | rw [← Ny325.out] at ho20 | (simp only [Int.reduceToNat] at ho20; rw [← Ny325.out] at ho20))
      have n0_ := Aside0.mk (Kd.R_below (ra_ HO_5) hb)
      have n1_ := Aside0.mk (Kd.R_lower ho20 (below_size (bl1_ HB GE322)))
      have n2_ := Aside0.mk (blk_below (bk_ BK322) hb)
      have n3_ := Aside0.mk (below_step (bl1_ HB GE322) hb)
      have z_HO330 := fun (h0_ : b 6 = true) (h1_ : b 11 = false) => (show Kd.R k82 82 w19 w.heap.size (fun _ => True) v329 t328 from by first | exact (Kd.R_elder' (by (with_reducible repeat (first | apply Kd.R_alloc | apply Kd.R_drewN | apply Kd.R_drew)); exact (Q_HO330 h0_ h1_)) (Kd.R_base ho20) hb) | exact Kd.R_mono (Kd.R_elder' (by (with_reducible repeat (first | apply Kd.R_alloc | apply Kd.R_drewN | apply Kd.R_drew)); exact (Q_HO330 h0_ h1_)) (Kd.R_base ho20) hb) (fun _ h_ => by first | trivial | exact h_ | exact h_.1))
      have z_HO333 := fun (h0_ : b 10 = true) (h1_ : b 11 = false) => (show Kd.R k82 82 w19 w.heap.size (fun _ => True) v332 t331 from by first | exact (Kd.R_elder' (by (with_reducible repeat (first | apply Kd.R_alloc | apply Kd.R_drewN | apply Kd.R_drew)); exact (Q_HO333 h0_ h1_)) (Kd.R_base ho20) hb) | exact Kd.R_mono (Kd.R_elder' (by (with_reducible repeat (first | apply Kd.R_alloc | apply Kd.R_drewN | apply Kd.R_drew)); exact (Q_HO333 h0_ h1_)) (Kd.R_base ho20) hb) (fun _ h_ => by first | trivial | exact h_ | exact h_.1))
      have z_HO336 := fun (h0_ : b 11 = true) => (show Kd.N (Kd.slice 82 k82) 40 w19 w.heap.size (fun k_ => some k_ ≠ (u5 : Value).ownBlock ∧ k_ ≠ gb322) v335 y334 from by first | exact (Kd.N_elder' (by (with_reducible repeat (first | apply Kd.N_alloc | apply Kd.N_drewN | apply Kd.N_drew)); exact (Q_HO336 h0_)) (Kd.R_base ho20) hb) | exact Kd.N_mono (Kd.N_elder' (by (with_reducible repeat (first | apply Kd.N_alloc | apply Kd.N_drewN | apply Kd.N_drew)); exact (Q_HO336 h0_)) (Kd.R_base ho20) hb) (fun _ h_ => by first | trivial | exact h_ | exact h_.1))
      have z_HO339 := fun (h0_ : b 12 = true) => (show Kd.R k82 82 w19 w.heap.size (fun _ => True) v338 t337 from by first | exact (Kd.R_elder' (by (with_reducible repeat (first | apply Kd.R_alloc | apply Kd.R_drewN | apply Kd.R_drew)); exact (Q_HO339 h0_)) (Kd.R_base ho20) hb) | exact Kd.R_mono (Kd.R_elder' (by (with_reducible repeat (first | apply Kd.R_alloc | apply Kd.R_drewN | apply Kd.R_drew)); exact (Q_HO339 h0_)) (Kd.R_base ho20) hb) (fun _ h_ => by first | trivial | exact h_ | exact h_.1))
      clear HO_5
      clear BK322
      clear HB
      have HO_5 := n0_
      have HO327 := n1_
      have BK322 := n2_
      have HB := n3_
      clear n0_ n1_ n2_ n3_
      clear hb ho20
      refine hK.out _ _ ⟨v326, v329, v332, v335, v338, v341, (by rw [ha.out]; exact putSel_upk 2 hb_ rfl rfl rfl), (ra_ HO_5), (bk_ BK322), (bl1_ HB GE322), fun _ => (ro_ HO327), z_HO330, z_HO333, z_HO336, z_HO339, fun h0_ => absurd ((hoff 13 (by kernel_rfl)).symm.trans h0_) (by decide)⟩
     refine steps_cons ?_ ?_
     ·rintro b a w' ⟨v326, v329, v332, v335, v338, v341, ha, Q_HO_5, Q_BK322, Q_HB, Q_HO327, Q_HO330, Q_HO333, Q_HO336, Q_HO339, Q_HO342⟩ hb_ hon hoff
      refine ⟨_, rfl, fun K hK => ?_⟩
      have e21 : a.tmps[21]? = some (.pointer (some ⟨gb322, 0, none⟩)) := by rw [ha]; exact (putSel_off rfl).trans rfl
      replace ha := Aside0.mk ha
      have HO_5 := Aside0.mk Q_HO_5
      have BK322 := Aside0.mk Q_BK322
      have HB := Aside0.mk Q_HB
      have hc0_ : w'.cell? ⟨gb322, 0, none⟩ = some (.int .i64 ((rd_T53 l0 x13_1).f0)) := bc_ BK322 0 rfl
      have hc1_ : w'.cell? ⟨gb322, 1, none⟩ = some (.int .i64 ((rd_T53 l0 x13_1).f1)) := bc_ BK322 1 rfl
      have hc2_ : w'.cell? ⟨gb322, 2, none⟩ = some (.int .i64 ((rd_T53 l0 x13_1).f2)) := bc_ BK322 2 rfl
      have hc3_ : w'.cell? ⟨gb322, 3, none⟩ = some (.int .i64 ((rd_T53 l0 x13_1).f3)) := bc_ BK322 3 rfl
      refine value_ (w1 := w') (v := .int .i64 ((rd_T53 l0 x13_1).f0)) (by rfl) rfl ?_ ?_
      ·go_simp
       (try simp only [i64_w])
       try rfl
      refine hK.out _ _ ⟨v326, v329, v332, v335, v338, v341, (by rw [ha.out]; exact putSel_upk 3 hb_ rfl rfl rfl), Q_HO_5, Q_BK322, Q_HB, Q_HO327, fun h0_ _ => absurd ((hoff 6 (by kernel_rfl)).symm.trans h0_) (by decide), fun h0_ _ => absurd ((hoff 10 (by kernel_rfl)).symm.trans h0_) (by decide), fun h0_ => absurd ((hoff 11 (by kernel_rfl)).symm.trans h0_) (by decide), fun h0_ => absurd ((hoff 12 (by kernel_rfl)).symm.trans h0_) (by decide), fun h0_ => absurd ((hoff 13 (by kernel_rfl)).symm.trans h0_) (by decide)⟩
     refine steps_cons ?_ ?_
     ·rintro b a w' ⟨v326, v329, v332, v335, v338, v341, ha, Q_HO_5, Q_BK322, Q_HB, Q_HO327, Q_HO330, Q_HO333, Q_HO336, Q_HO339, Q_HO342⟩ hb_ hon hoff
      refine ⟨_, rfl, fun K hK => ?_⟩
      have e20 : a.tmps[20]? = some (.slice A1 l1.length c1) := by rw [ha]; exact (putSel_off rfl).trans rfl
      have e22 : a.tmps[22]? = some (.int .i64 ((rd_T53 l0 x13_1).f0)) := by rw [ha]; exact putSel_on (e := (5, 22, .int .i64 ((rd_T53 l0 x13_1).f0))) 3 rfl rfl (hon 5 (by kernel_rfl)) rfl
      replace ha := Aside0.mk ha
      have HO_5 := Aside0.mk Q_HO_5
      have BK322 := Aside0.mk Q_BK322
      have HB := Aside0.mk Q_HB
      refine goes_ Try.func88 (by kernel_rfl) rfl #[.slice A1 l1.length c1, .int .i64 ((rd_T53 l0 x13_1).f0)] (by rfl) rfl rfl (by first | (simp only [List.map_toArray, List.map_cons, List.map_nil, Act.eval, Array.getD_eq_getD_getElem?, Option.getD_some, e20, e22]; done) | (simp only [List.map_toArray, List.map_cons, List.map_nil, Act.eval, Array.getD_eq_getD_getElem?, Option.getD_some, e20, e22]; rfl)) ?_
      with_reducible refine (impl_CloudSpans.calls k1 _ _ l1 ((rd_T53 l0 x13_1).f0) t328 _ ?side1 ?side2 A9.out).mono ?_
      (case side1 => exact ck_ HR1 HB)
      (case side2 => exact HC1.out)
      rintro e w19 ⟨v329, rfl, ho0, hb⟩
      refine ⟨_, rfl, ?_⟩
      have n0_ := Aside0.mk (Kd.R_below (ra_ HO_5) hb)
      have n1_ := Aside0.mk (Kd.R_lower ho0 (below_size (bl1_ HB GE322)))
      have n2_ := Aside0.mk (blk_below (bk_ BK322) hb)
      have n3_ := Aside0.mk (below_step (bl1_ HB GE322) hb)
      have z_HO327 := fun (h0_ : b 2 = true) => (show Kd.R k82 82 w19 w.heap.size (fun _ => True) v326 y325 from by first | exact (Kd.R_elder' (by (with_reducible repeat (first | apply Kd.R_alloc | apply Kd.R_drewN | apply Kd.R_drew)); exact (Q_HO327 h0_)) (Kd.R_base ho0) hb) | exact Kd.R_mono (Kd.R_elder' (by (with_reducible repeat (first | apply Kd.R_alloc | apply Kd.R_drewN | apply Kd.R_drew)); exact (Q_HO327 h0_)) (Kd.R_base ho0) hb) (fun _ h_ => by first | trivial | exact h_ | exact h_.1))
      clear HO_5
      clear BK322
      clear HB
      have HO_5 := n0_
      have HO330 := n1_
      have BK322 := n2_
      have HB := n3_
      clear n0_ n1_ n2_ n3_
      (try clear hb)
      (try clear hb2)
      (try clear hk)
      (try clear hi)
      (try clear ho0)
      refine hK.out _ _ ⟨v326, v329, v332, v335, v338, v341, (by rw [ha.out]; exact putSel_upk 4 hb_ rfl rfl rfl), (ra_ HO_5), (bk_ BK322), (bl1_ HB GE322), z_HO327, fun _ _ => (ra_ HO330), fun h0_ _ => absurd ((hoff 10 (by kernel_rfl)).symm.trans h0_) (by decide), fun h0_ => absurd ((hoff 11 (by kernel_rfl)).symm.trans h0_) (by decide), fun h0_ => absurd ((hoff 12 (by kernel_rfl)).symm.trans h0_) (by decide), fun h0_ => absurd ((hoff 13 (by kernel_rfl)).symm.trans h0_) (by decide)⟩
     refine steps_cons ?_ ?_
     ·rintro b a w' ⟨v326, v329, v332, v335, v338, v341, ha, Q_HO_5, Q_BK322, Q_HB, Q_HO327, Q_HO330, Q_HO333, Q_HO336, Q_HO339, Q_HO342⟩ hb_ hon hoff
      refine ⟨_, rfl, fun K hK => ?_⟩
      have e25 : a.tmps[25]? = some (.pointer (some ⟨gb322, 1, none⟩)) := by rw [ha]; exact (putSel_off rfl).trans rfl
      replace ha := Aside0.mk ha
      have HO_5 := Aside0.mk Q_HO_5
      have BK322 := Aside0.mk Q_BK322
      have HB := Aside0.mk Q_HB
      have hc0_ : w'.cell? ⟨gb322, 0, none⟩ = some (.int .i64 ((rd_T53 l0 x13_1).f0)) := bc_ BK322 0 rfl
      have hc1_ : w'.cell? ⟨gb322, 1, none⟩ = some (.int .i64 ((rd_T53 l0 x13_1).f1)) := bc_ BK322 1 rfl
      have hc2_ : w'.cell? ⟨gb322, 2, none⟩ = some (.int .i64 ((rd_T53 l0 x13_1).f2)) := bc_ BK322 2 rfl
      have hc3_ : w'.cell? ⟨gb322, 3, none⟩ = some (.int .i64 ((rd_T53 l0 x13_1).f3)) := bc_ BK322 3 rfl
      refine value_ (w1 := w') (v := .int .i64 ((rd_T53 l0 x13_1).f1)) (by rfl) rfl ?_ ?_
      ·go_simp
       (try simp only [i64_w])
       try rfl
      refine hK.out _ _ ⟨v326, v329, v332, v335, v338, v341, (by rw [ha.out]; exact putSel_upk 5 hb_ rfl rfl rfl), Q_HO_5, Q_BK322, Q_HB, Q_HO327, Q_HO330, fun h0_ _ => absurd ((hoff 10 (by kernel_rfl)).symm.trans h0_) (by decide), fun h0_ => absurd ((hoff 11 (by kernel_rfl)).symm.trans h0_) (by decide), fun h0_ => absurd ((hoff 12 (by kernel_rfl)).symm.trans h0_) (by decide), fun h0_ => absurd ((hoff 13 (by kernel_rfl)).symm.trans h0_) (by decide)⟩
     refine steps_cons ?_ ?_
     ·rintro b a w' ⟨v326, v329, v332, v335, v338, v341, ha, Q_HO_5, Q_BK322, Q_HB, Q_HO327, Q_HO330, Q_HO333, Q_HO336, Q_HO339, Q_HO342⟩ hb_ hon hoff
      refine ⟨_, rfl, fun K hK => ?_⟩
      have e24 : a.tmps[24]? = some (.slice A1 l1.length c1) := by rw [ha]; exact (putSel_off rfl).trans rfl
      have e26 : a.tmps[26]? = some (.int .i64 ((rd_T53 l0 x13_1).f1)) := by rw [ha]; exact putSel_on (e := (9, 26, .int .i64 ((rd_T53 l0 x13_1).f1))) 5 rfl rfl (hon 9 (by kernel_rfl)) rfl
      replace ha := Aside0.mk ha
      have HO_5 := Aside0.mk Q_HO_5
      have BK322 := Aside0.mk Q_BK322
      have HB := Aside0.mk Q_HB
      have HO330 := Aside0.mk (Q_HO330 (hon 6 (by kernel_rfl)) (hoff 11 (by kernel_rfl)))
      refine goes_ Try.func88 (by kernel_rfl) rfl #[.slice A1 l1.length c1, .int .i64 ((rd_T53 l0 x13_1).f1)] (by rfl) rfl rfl (by first | (simp only [List.map_toArray, List.map_cons, List.map_nil, Act.eval, Array.getD_eq_getD_getElem?, Option.getD_some, e24, e26]; done) | (simp only [List.map_toArray, List.map_cons, List.map_nil, Act.eval, Array.getD_eq_getD_getElem?, Option.getD_some, e24, e26]; rfl)) ?_
      with_reducible refine (impl_CloudSpans.calls k1 _ _ l1 ((rd_T53 l0 x13_1).f1) t331 _ ?side1 ?side2 A10.out).mono ?_
      (case side1 => exact ck_ HR1 HB)
      (case side2 => exact HC1.out)
      rintro e w20 ⟨v332, rfl, ho0, hb⟩
      refine ⟨_, rfl, ?_⟩
      have n0_ := Aside0.mk (Kd.R_below (ra_ HO_5) hb)
      have n1_ := Aside0.mk (Kd.R_elder' (ra_ HO330) (Kd.R_base ho0) hb)
      have n2_ := Aside0.mk (Kd.R_lower (Kd.R_new' ho0 (Kd.R_lt (ra_ HO330))) (below_size (bl1_ HB GE322)))
      have n3_ := Aside0.mk (blk_below (bk_ BK322) hb)
      have n4_ := Aside0.mk (below_step (bl1_ HB GE322) hb)
      have z_HO327 := fun (h0_ : b 2 = true) => (show Kd.R k82 82 w20 w.heap.size (fun _ => True) v326 y325 from by first | exact (Kd.R_elder' (by (with_reducible repeat (first | apply Kd.R_alloc | apply Kd.R_drewN | apply Kd.R_drew)); exact (Q_HO327 h0_)) (Kd.R_base ho0) hb) | exact Kd.R_mono (Kd.R_elder' (by (with_reducible repeat (first | apply Kd.R_alloc | apply Kd.R_drewN | apply Kd.R_drew)); exact (Q_HO327 h0_)) (Kd.R_base ho0) hb) (fun _ h_ => by first | trivial | exact h_ | exact h_.1))
      clear HO_5
      clear HO330
      clear BK322
      clear HB
      have HO_5 := n0_
      have HO330 := n1_
      have HO333 := n2_
      have BK322 := n3_
      have HB := n4_
      clear n0_ n1_ n2_ n3_ n4_
      (try clear hb)
      (try clear hb2)
      (try clear hk)
      (try clear hi)
      (try clear ho0)
      refine hK.out _ _ ⟨v326, v329, v332, v335, v338, v341, (by rw [ha.out]; exact putSel_upk 6 hb_ rfl rfl rfl), (ra_ HO_5), (bk_ BK322), (bl1_ HB GE322), z_HO327, fun _ _ => (ro_ HO330), fun _ _ => (ro_ HO333), fun h0_ => absurd ((hoff 11 (by kernel_rfl)).symm.trans h0_) (by decide), fun h0_ => absurd ((hoff 12 (by kernel_rfl)).symm.trans h0_) (by decide), fun h0_ => absurd ((hoff 13 (by kernel_rfl)).symm.trans h0_) (by decide)⟩
     refine steps_cons ?_ ?_
     ·rintro b a w' ⟨v326, v329, v332, v335, v338, v341, ha, Q_HO_5, Q_BK322, Q_HB, Q_HO327, Q_HO330, Q_HO333, Q_HO336, Q_HO339, Q_HO342⟩ hb_ hon hoff
      refine ⟨_, rfl, fun K hK => ?_⟩
      have e23 : a.tmps[23]? = some (v329) := by rw [ha]; exact putSel_on (e := (6, 23, v329)) 4 rfl rfl (hon 6 (by kernel_rfl)) rfl
      have e27 : a.tmps[27]? = some (v332) := by rw [ha]; exact putSel_on (e := (10, 27, v332)) 6 rfl rfl (hon 10 (by kernel_rfl)) rfl
      replace ha := Aside0.mk ha
      have HO_5 := Aside0.mk Q_HO_5
      have BK322 := Aside0.mk Q_BK322
      have HB := Aside0.mk Q_HB
      have HO330 := Aside0.mk (Q_HO330 (hon 6 (by kernel_rfl)) hb_)
      have HO333 := Aside0.mk (Q_HO333 (hon 10 (by kernel_rfl)) hb_)
      obtain ⟨Ao21, co21, eo21⟩ := Kd.R_slice HO330.out
      (first | subst eo21 | (injection eo21 with f1_ f2_ f3_; have f4_ := f1_.symm; have f5_ := f3_.symm; clear f1_ f2_ f3_; subst f4_; subst f5_))
      obtain ⟨Ao22, co22, eo22⟩ := Kd.R_slice HO333.out
      (first | subst eo22 | (injection eo22 with f1_ f2_ f3_; have f4_ := f1_.symm; have f5_ := f3_.symm; clear f1_ f2_ f3_; subst f4_; subst f5_))
      refine Kd.N_lit_step (Kd.slice 82 k82) _ 40 ?hg (N' := 28) ?hd (xs := ([t328, t331] : List (List (S82)))) (inner := [.slice Ao21 t328.length co21, .slice Ao22 t331.length co22]) (ok := (fun k_ => some k_ ≠ (u5 : Value).ownBlock ∧ k_ ≠ gb322)) (okp := (fun k_ => some k_ ≠ (u5 : Value).ownBlock ∧ k_ ≠ gb322)) ?hr ?hp (fun _ hk => hk) ((show ∀ k_, w'.heap.size ≤ k_ → (fun k_ => some k_ ≠ (u5 : Value).ownBlock ∧ k_ ≠ gb322) k_ from fun k_ hk => ⟨Kd.fresh' (Kd.R_lt (ra_ HO_5)) k_ hk, Kd.freshB (g := gb322) (o := .cells #[.int .i64 ((rd_T53 l0 x13_1).f0), .int .i64 ((rd_T53 l0 x13_1).f1), .int .i64 ((rd_T53 l0 x13_1).f2), .int .i64 ((rd_T53 l0 x13_1).f3)] 53 (0, 0)) (bk_ BK322) k_ hk⟩) _ (Nat.le_refl _)) (Below.refl _ _) (Nat.le_refl _) (by simp) ?_; (case hd => rfl); (case hg => rfl); (case hr => first | (go_simp; done) | (go_simp; rfl)); (case hp => exact (Reps.one (show Kd.FK (Kd.slice 82 k82) _ _ t328 [.slice Ao21 t328.length co21] from (Kd.FK_slice_mk (Kd.R_reads' (Kd.R_mono (ok' := (fun k_ => some k_ ≠ (u5 : Value).ownBlock ∧ k_ ≠ gb322)) (Kd.R_types (Kd.R_apart' (HO330.out) (Kd.R_typed HO_5.out) (by decide)) BK322.out (by decide)) (fun k_ hk => ⟨hk.1.2, hk.2⟩))).2.1 (Kd.R_F (Kd.R_mono (ok' := (fun k_ => some k_ ≠ (u5 : Value).ownBlock ∧ k_ ≠ gb322)) (Kd.R_types (Kd.R_apart' (HO330.out) (Kd.R_typed HO_5.out) (by decide)) BK322.out (by decide)) (fun k_ hk => ⟨hk.1.2, hk.2⟩))))) (Reps.one (show Kd.FK (Kd.slice 82 k82) _ _ t331 [.slice Ao22 t331.length co22] from (Kd.FK_slice_mk (Kd.R_reads' (Kd.R_mono (ok' := (fun k_ => some k_ ≠ (u5 : Value).ownBlock ∧ k_ ≠ gb322)) (Kd.R_types (Kd.R_apart' (HO333.out) (Kd.R_typed HO_5.out) (by decide)) BK322.out (by decide)) (fun k_ hk => ⟨hk.1.2, hk.2⟩))).2.1 (Kd.R_F (Kd.R_mono (ok' := (fun k_ => some k_ ≠ (u5 : Value).ownBlock ∧ k_ ≠ gb322)) (Kd.R_types (Kd.R_apart' (HO333.out) (Kd.R_typed HO_5.out) (by decide)) BK322.out (by decide)) (fun k_ hk => ⟨hk.1.2, hk.2⟩))))) (Reps.none _ _))))
      intro v335 w23 ho24 hb hg_ hnew_
      clear hg_ hnew_
      (first | rw [← Ny334.out] at ho24 | (simp only [Int.reduceToNat] at ho24; rw [← Ny334.out] at ho24))
      have n0_ := Aside0.mk (Kd.R_below (ra_ HO_5) hb)
      have n1_ := Aside0.mk (Kd.N_lower ho24 (below_size (bl1_ HB GE322)))
      have n2_ := Aside0.mk (blk_below (bk_ BK322) hb)
      have n3_ := Aside0.mk (below_step (bl1_ HB GE322) hb)
      have z_HO327 := fun (h0_ : b 2 = true) => (show Kd.R k82 82 w23 w.heap.size (fun _ => True) v326 y325 from by first | exact (Kd.R_below (by (with_reducible repeat (first | apply Kd.R_alloc | apply Kd.R_drewN | apply Kd.R_drew)); exact (Q_HO327 h0_)) hb) | exact Kd.R_mono (Kd.R_below (by (with_reducible repeat (first | apply Kd.R_alloc | apply Kd.R_drewN | apply Kd.R_drew)); exact (Q_HO327 h0_)) hb) (fun _ h_ => by first | trivial | exact h_ | exact h_.1))
      clear HO_5
      clear BK322
      clear HB
      clear HO330
      clear HO333
      have HO_5 := n0_
      have HO336 := n1_
      have BK322 := n2_
      have HB := n3_
      clear n0_ n1_ n2_ n3_
      clear hb ho24
      refine hK.out _ _ ⟨v326, .slice Ao21 t328.length co21, .slice Ao22 t331.length co22, v335, v338, v341, (by rw [ha.out]; exact putSel_upk 7 hb_ rfl rfl rfl), (ra_ HO_5), (bk_ BK322), (bl1_ HB GE322), z_HO327, fun _ h1_ => absurd ((up_self b 11).symm.trans h1_) (by decide), fun _ h1_ => absurd ((up_self b 11).symm.trans h1_) (by decide), fun _ => (nro_ HO336), fun h0_ => absurd ((hoff 12 (by kernel_rfl)).symm.trans h0_) (by decide), fun h0_ => absurd ((hoff 13 (by kernel_rfl)).symm.trans h0_) (by decide)⟩
     refine steps_cons ?_ ?_
     ·rintro b a w' ⟨v326, v329, v332, v335, v338, v341, ha, Q_HO_5, Q_BK322, Q_HB, Q_HO327, Q_HO330, Q_HO333, Q_HO336, Q_HO339, Q_HO342⟩ hb_ hon hoff
      refine ⟨_, rfl, fun K hK => ?_⟩
      have e28 : a.tmps[28]? = some (v335) := by rw [ha]; exact putSel_on (e := (11, 28, v335)) 7 rfl rfl (hon 11 (by kernel_rfl)) rfl
      replace ha := Aside0.mk ha
      have HO_5 := Aside0.mk Q_HO_5
      have BK322 := Aside0.mk Q_BK322
      have HB := Aside0.mk Q_HB
      have HO336 := Aside0.mk (Q_HO336 (hon 11 (by kernel_rfl)))
      obtain ⟨Ao25, co25, eo25⟩ := Kd.N_slice HO336.out
      (first | subst eo25 | (injection eo25 with f1_ f2_ f3_; have f4_ := f1_.symm; have f5_ := f3_.symm; clear f1_ f2_ f3_; subst f4_; subst f5_))
      refine goes_ Try.func70 (by kernel_rfl) rfl #[.slice Ao25 y334.length co25] (by rfl) rfl rfl (by first | (simp only [List.map_toArray, List.map_cons, List.map_nil, Act.eval, Array.getD_eq_getD_getElem?, Option.getD_some, e28]; done) | (simp only [List.map_toArray, List.map_cons, List.map_nil, Act.eval, Array.getD_eq_getD_getElem?, Option.getD_some, e28]; rfl)) ?_
      with_reducible refine (impl_Span_70.calls k1 _ _ y334 t337 _ ?side1 ?side2 A11.out).mono ?_
      (case side1 => repeat (first | exact (Kd.N_reads' HO336.out).2.2 | (with_reducible refine Kd.C_alloc ?_ _) | (with_reducible refine Kd.C_drewN ?_ _) | (with_reducible refine Kd.C_drew ?_)))
      (case side2 => exact (Kd.N_reads' HO336.out).2.1)
      rintro e w26 ⟨v338, rfl, ho0, hb⟩
      refine ⟨_, rfl, ?_⟩
      have n0_ := Aside0.mk (Kd.R_below (ra_ HO_5) hb)
      have n1_ := Aside0.mk (Kd.N_elder' (by (with_reducible repeat (first | apply Kd.N_alloc | apply Kd.N_drewN | apply Kd.N_drew)); exact HO336.out) (Kd.R_base ho0) hb)
      have n2_ := Aside0.mk (Kd.R_lower ho0 (below_size (bl1_ HB GE322)))
      have n3_ := Aside0.mk (blk_below (bk_ BK322) hb)
      have n4_ := Aside0.mk (below_step (bl1_ HB GE322) hb)
      have z_HO327 := fun (h0_ : b 2 = true) => (show Kd.R k82 82 w26 w.heap.size (fun _ => True) v326 y325 from by first | exact (Kd.R_elder' (by (with_reducible repeat (first | apply Kd.R_alloc | apply Kd.R_drewN | apply Kd.R_drew)); exact (Q_HO327 h0_)) (Kd.R_base ho0) hb) | exact Kd.R_mono (Kd.R_elder' (by (with_reducible repeat (first | apply Kd.R_alloc | apply Kd.R_drewN | apply Kd.R_drew)); exact (Q_HO327 h0_)) (Kd.R_base ho0) hb) (fun _ h_ => by first | trivial | exact h_ | exact h_.1))
      clear HO_5
      clear HO336
      clear BK322
      clear HB
      have HO_5 := n0_
      have HO336 := n1_
      have HO339 := n2_
      have BK322 := n3_
      have HB := n4_
      clear n0_ n1_ n2_ n3_ n4_
      (try clear hb)
      (try clear hb2)
      (try clear hk)
      (try clear hi)
      (try clear ho0)
      refine hK.out _ _ ⟨v326, v329, v332, .slice Ao25 y334.length co25, v338, v341, (by rw [ha.out]; exact putSel_upk 8 hb_ rfl rfl rfl), (ra_ HO_5), (bk_ BK322), (bl1_ HB GE322), z_HO327, fun _ h1_ => absurd ((hon 11 (by kernel_rfl)).symm.trans h1_) (by decide), fun _ h1_ => absurd ((hon 11 (by kernel_rfl)).symm.trans h1_) (by decide), fun _ => (nro_ HO336), fun _ => (ro_ HO339), fun h0_ => absurd ((hoff 13 (by kernel_rfl)).symm.trans h0_) (by decide)⟩
     refine steps_cons ?_ ?_
     ·rintro b a w' ⟨v326, v329, v332, v335, v338, v341, ha, Q_HO_5, Q_BK322, Q_HB, Q_HO327, Q_HO330, Q_HO333, Q_HO336, Q_HO339, Q_HO342⟩ hb_ hon hoff
      refine ⟨_, rfl, fun K hK => ?_⟩
      have e19 : a.tmps[19]? = some (v326) := by rw [ha]; exact putSel_on (e := (2, 19, v326)) 2 rfl rfl (hon 2 (by kernel_rfl)) rfl
      have e29 : a.tmps[29]? = some (v338) := by rw [ha]; exact putSel_on (e := (12, 29, v338)) 8 rfl rfl (hon 12 (by kernel_rfl)) rfl
      replace ha := Aside0.mk ha
      have HO_5 := Aside0.mk Q_HO_5
      have BK322 := Aside0.mk Q_BK322
      have HB := Aside0.mk Q_HB
      have HO327 := Aside0.mk (Q_HO327 (hon 2 (by kernel_rfl)))
      have HO336 := Aside0.mk (Q_HO336 (hon 11 (by kernel_rfl)))
      have HO339 := Aside0.mk (Q_HO339 (hon 12 (by kernel_rfl)))
      obtain ⟨Ao29, co29, eo29⟩ := Kd.R_slice HO327.out
      (first | subst eo29 | (injection eo29 with f1_ f2_ f3_; have f4_ := f1_.symm; have f5_ := f3_.symm; clear f1_ f2_ f3_; subst f4_; subst f5_))
      obtain ⟨Ao30, co30, eo30⟩ := Kd.R_slice HO339.out
      (first | subst eo30 | (injection eo30 with f1_ f2_ f3_; have f4_ := f1_.symm; have f5_ := f3_.symm; clear f1_ f2_ f3_; subst f4_; subst f5_))
      refine goes_ Try.func69 (by kernel_rfl) rfl #[.slice Ao29 y325.length co29, .slice Ao30 t337.length co30] (by rfl) rfl rfl (by first | (simp only [List.map_toArray, List.map_cons, List.map_nil, Act.eval, Array.getD_eq_getD_getElem?, Option.getD_some, e19, e29]; done) | (simp only [List.map_toArray, List.map_cons, List.map_nil, Act.eval, Array.getD_eq_getD_getElem?, Option.getD_some, e19, e29]; rfl)) ?_
      with_reducible refine (impl_CutSpans.calls k1 _ _ y325 _ _ t337 t340 _ ?side1 ?side2 ?side3 ?side4 A12.out).mono ?_
      (case side1 => repeat (first | exact (Kd.R_reads' HO327.out).2.2 | (with_reducible refine Kd.C_alloc ?_ _) | (with_reducible refine Kd.C_drewN ?_ _) | (with_reducible refine Kd.C_drew ?_)))
      (case side2 => exact (Kd.R_reads' HO327.out).2.1)
      (case side3 => repeat (first | exact (Kd.R_reads' HO339.out).2.2 | (with_reducible refine Kd.C_alloc ?_ _) | (with_reducible refine Kd.C_drewN ?_ _) | (with_reducible refine Kd.C_drew ?_)))
      (case side4 => exact (Kd.R_reads' HO339.out).2.1)
      rintro e w31 ⟨v341, rfl, ho0, hb⟩
      refine ⟨_, rfl, sh7_ (Kd.R_below (ra_ HO_5) hb) (Kd.R_elder' (ra_ HO327) (Kd.R_base ho0) hb) (Kd.N_elder' (by (with_reducible repeat (first | apply Kd.N_alloc | apply Kd.N_drewN | apply Kd.N_drew)); exact HO336.out) (Kd.R_base ho0) hb) (Kd.R_elder' (ra_ HO339) (Kd.R_base ho0) hb) (Kd.R_lower (Kd.R_new' (Kd.R_new' ho0 (Kd.R_lt (ra_ HO327))) (Kd.R_lt (ra_ HO339))) (below_size (bl1_ HB GE322))) (blk_below (bk_ BK322) hb) (below_step (bl1_ HB GE322) hb) ?_⟩
      clear HO_5 HO327 HO336 HO339 BK322 HB hb ho0
      intro HO_5 HO327 HO336 HO339 HO342 BK322 HB
      obtain ⟨Ao32, co32, eo32⟩ := Kd.R_slice HO342.out
      (first | subst eo32 | (injection eo32 with f1_ f2_ f3_; have f4_ := f1_.symm; have f5_ := f3_.symm; clear f1_ f2_ f3_; subst f4_; subst f5_))
      refine hK.out _ _ ⟨.slice Ao29 y325.length co29, v329, v332, v335, .slice Ao30 t337.length co30, .slice Ao32 t340.length co32, (by rw [ha.out]; exact putSel_upk 9 hb_ rfl rfl rfl), (ra_ HO_5), (bk_ BK322), (bl1_ HB GE322), fun _ => (ro_ HO327), fun _ h1_ => absurd ((hon 11 (by kernel_rfl)).symm.trans h1_) (by decide), fun _ h1_ => absurd ((hon 11 (by kernel_rfl)).symm.trans h1_) (by decide), fun _ => (nro_ HO336), fun _ => (ro_ HO339), fun _ => (ro_ HO342)⟩
     refine steps_cons ?_ ?_
     ·rintro b a w' ⟨v326, v329, v332, v335, v338, v341, ha, Q_HO_5, Q_BK322, Q_HB, Q_HO327, Q_HO330, Q_HO333, Q_HO336, Q_HO339, Q_HO342⟩ hb_ hon hoff
      refine ⟨_, rfl, fun K hK => ?_⟩
      have e30 : a.tmps[30]? = some (v341) := by rw [ha]; exact putSel_on (e := (13, 30, v341)) 9 rfl rfl (hon 13 (by kernel_rfl)) rfl
      replace ha := Aside0.mk ha
      have HO_5 := Aside0.mk Q_HO_5
      have BK322 := Aside0.mk Q_BK322
      have HB := Aside0.mk Q_HB
      have HO327 := Aside0.mk (Q_HO327 (hon 2 (by kernel_rfl)))
      have HO336 := Aside0.mk (Q_HO336 (hon 11 (by kernel_rfl)))
      have HO339 := Aside0.mk (Q_HO339 (hon 12 (by kernel_rfl)))
      have HO342 := Aside0.mk (Q_HO342 (hon 13 (by kernel_rfl)))
      obtain ⟨Ao14_0, co14_0, eo_⟩ := Kd.R_slice HO342.out
      subst eo_
      refine value_ (w1 := w') (v := .int .i64 (t340.length : Int)) (by rfl) rfl ?_ ?_
      ·go_simp
       (try simp only [i64_w])
       try rfl
      refine hK.out _ _ ⟨v326, v329, v332, v335, v338, .slice Ao14_0 t340.length co14_0, (by rw [ha.out]; exact putSel_upk 10 hb_ rfl rfl rfl), Q_HO_5, Q_BK322, Q_HB, Q_HO327, fun _ h1_ => absurd ((hon 11 (by kernel_rfl)).symm.trans h1_) (by decide), fun _ h1_ => absurd ((hon 11 (by kernel_rfl)).symm.trans h1_) (by decide), Q_HO336, Q_HO339, Q_HO342⟩
     exact steps_nil
    rintro b a w32 hall ⟨v326, v329, v332, v335, v338, v341, ha, Q_HO_5, Q_BK322, Q_HB, Q_HO327, Q_HO330, Q_HO333, Q_HO336, Q_HO339, Q_HO342⟩
    clear BK322 HB HO_5
    have hb0_ := hall 0 (by kernel_rfl)
    have hb1_ := hall 1 (by kernel_rfl)
    have hb2_ := hall 2 (by kernel_rfl)
    have hb5_ := hall 5 (by kernel_rfl)
    have hb6_ := hall 6 (by kernel_rfl)
    have hb9_ := hall 9 (by kernel_rfl)
    have hb10_ := hall 10 (by kernel_rfl)
    have hb11_ := hall 11 (by kernel_rfl)
    have hb12_ := hall 12 (by kernel_rfl)
    have hb13_ := hall 13 (by kernel_rfl)
    have hb14_ := hall 14 (by kernel_rfl)
    subst ha
    simp only [putSel, hb0_, hb1_, hb2_, hb5_, hb6_, hb9_, hb10_, hb11_, hb12_, hb13_, hb14_, if_true, Act.put, List.setIfInBounds_toArray, List.set_cons_zero, List.set_cons_succ]
    have HO_5 := Aside0.mk Q_HO_5
    clear Q_HO_5
    have BK322 := Aside0.mk Q_BK322
    clear Q_BK322
    have HB := Aside0.mk Q_HB
    clear Q_HB
    have HO327 := Aside0.mk (Q_HO327 hb2_)
    clear Q_HO327
    clear Q_HO330
    clear Q_HO333
    have HO336 := Aside0.mk (Q_HO336 hb11_)
    clear Q_HO336
    have HO339 := Aside0.mk (Q_HO339 hb12_)
    clear Q_HO339
    have HO342 := Aside0.mk (Q_HO342 hb13_)
    clear Q_HO342
    clear hall hb0_ hb1_ hb2_ hb5_ hb6_ hb9_ hb10_ hb11_ hb12_ hb13_ hb14_
    obtain ⟨Ao33, co33, eo33⟩ := Kd.R_slice HO342.out
    (first | subst eo33 | (injection eo33 with f1_ f2_ f3_; have f4_ := f1_.symm; have f5_ := f3_.symm; clear f1_ f2_ f3_; subst f4_; subst f5_))
    try go_wp2
    go_loopg [5, 32] k1 (fun kq v5 v32 w' => ∃ (x5_2 : List (S53)) (x32_2 : Int), v32 = .int .i64 x32_2 ∧ Aside0 (impl_CutClouds.l1 kq l1 x5_2 l0 (l0.length : Int) x13_1 t340 (t340.length : Int) x32_2 ((rd_T53 l0 x13_1).f0) ((rd_T53 l0 x13_1).f1) ((rd_T53 l0 x13_1).f2) ((rd_T53 l0 x13_1).f3) = some r) ∧ Aside0 (kq ≤ k1) ∧ Aside0 (Kd.R k53 53 w' w.heap.size (fun k_ => k_ ≠ gb322) v5 x5_2) ∧ Aside0 (Kd.R k82 82 w' w.heap.size (fun _ => True) (.slice Ao33 t340.length co33) t340) ∧ Aside0 (w'.heap[gb322]? = some (.cells #[.int .i64 ((rd_T53 l0 x13_1).f0), .int .i64 ((rd_T53 l0 x13_1).f1), .int .i64 ((rd_T53 l0 x13_1).f2), .int .i64 ((rd_T53 l0 x13_1).f3)] 53 (0, 0))) ∧ Aside0 (Below w.heap.size w w'))
    case atStart => exact ⟨(x5_1), (0), (by first | rfl | (simp; done) | (simp [*]; done)), H', ⟨Nat.le_refl _⟩, ⟨ra_ HO_5⟩, ⟨by (with_reducible repeat (first | apply Kd.R_alloc | apply Kd.R_drewN | apply Kd.R_drew)); exact Kd.R_mono HO342.out (fun _ hk => trivial)⟩, ⟨by (with_reducible repeat (first | refine blk_drewN ?_ _ | refine blk_drew ?_ | refine blk_alloc ?_ _)); exact BK322.out⟩, ⟨bl1_ HB GE322⟩⟩
    case round =>
     clear H'
     try clear c1
     try clear c2
     try clear p2
     try clear c3
     try clear p3
     try clear q3
     try clear hx3
     try clear c4
     try clear c5
     try clear c5b0
     try clear c6
     try clear c6b0
     try clear c7
     try clear c7b0
     try clear c8
     try clear p32
     try clear q32
     try clear hx32
     try clear hcz14
     try clear hx321_0
     try clear hx321_1
     try clear hx321_2
     try clear hx321_3
     try clear p2
     try clear p321
     try clear q321
     obtain ⟨x5_2, x32_2, rfl, HA, HK2, HO_5, HO_30, BK322, HB⟩ := hrel
     cases gk with
     | zero => exact absurd HA.out (by simp [impl_CutClouds.l1])
     | succ k2 =>
      have H := HA.out
      clear HA
      simp only [impl_CutClouds.l1] at H
      by_cases c34 : x32_2 < (t340.length : Int)
      ·rw [if_pos c34] at H
       have c34b0 := decide_eq_true c34
       clear c34
       replace H := ifn_ H
       obtain ⟨c35, H⟩ := H
       have c35b0 := decide_eq_true c35
       clear c35
       replace H := ifn_ H
       obtain ⟨c36, H⟩ := H
       have c36b0 := decide_eq_true c36
       clear c36
       replace H := ifn_ H
       obtain ⟨c37, H⟩ := H
       have LMc37 := Aside0.mk c37
       clear c37
       replace H : ∃ y_ : List (S53), Aside0 (y_ = (x5_2 ++ [(⟨((rd_T53 l0 x13_1).f0), ((rd_T53 l0 x13_1).f1), (rd_T82 t340 x32_2).f0, (rd_T82 t340 x32_2).f1⟩ : S53)])) ∧ (impl_CutClouds.l1 k2 l1 y_ l0 (l0.length : Int) x13_1 t340 (t340.length : Int) (wrap64 (x32_2 + 1)) ((rd_T53 l0 x13_1).f0) ((rd_T53 l0 x13_1).f1) ((rd_T53 l0 x13_1).f2) ((rd_T53 l0 x13_1).f3)) = some r := ⟨_, ⟨rfl⟩, yh_ H⟩
       obtain ⟨y345, Ny345, H⟩ := H
       have H' := Aside0.mk H
       clear H
       have p343 : 0 ≤ (x32_2 : Int) := od_
       have q343 : x32_2 < (t340.length : Int) := od_
       obtain ⟨ad343, e343, hx343_0, hx343_1⟩ := at_T82 (Kd.R_reads' HO_30.out).2.2 x32_2 p343 q343
       cases e343
       replace p343 := eq_true p343
       replace q343 := eq_true q343
       go_wp2_with (first | ((with_reducible refine gd_ 9 ?_); refine bx_ 9 82 #[.int .i64 0, .int .i64 0] ?_; intro gb344 hg w38 hbox hb; refine sh9_ (Kd.R_below (ra_ HO_5) hb) (Kd.R_below (Kd.R_elderB (ra_ HO_30) gb344 (Nat.le_of_eq hg.symm)) hb) (blk_below (bk_ BK322) hb) (below_step (bl1_ HB GE322) hb) hbox (ge_ hg (bl1_ HB GE322)) (ge_ hg (bl1_ HB GE322)) (nl_ hg (bk_ BK322)) (ng_ hg (bk_ BK322)) ?_; clear HO_5 HO_30 BK322 HB hb hbox hg; intro HO_5 HO_30 BK322 HB BK344 GW344 GE344 NB322_344 NB344_322; have hnb39 := NB344_322.out; have hnc39 := NB322_344.out; have hcz40 := cf2_ BK344; have hcz41 := cf4_ BK322) | ((with_reducible refine gate_builtin (b := .append) (xs := #[.tmp 36, .tmp 46]) rfl ?_); at_builtin; refine Kd.R_append k53 (w0 := w) w.heap.size rfl (.tmp 36) (.tmp 46) 50 53 (.agg #[(.int .i64 0), (.int .i64 0), (.int .i64 0), (.int .i64 0)]) 32 rfl Try.underlying50 info53 rfl (by decide) (by omega) u5 x5_2 (⟨((rd_T53 l0 x13_1).f0), ((rd_T53 l0 x13_1).f1), (rd_T82 t340 x32_2).f0, (rd_T82 t340 x32_2).f1⟩ : S53) [.int .i64 ((rd_T53 l0 x13_1).f0), .int .i64 ((rd_T53 l0 x13_1).f1), .int .i64 ((rd_T82 t340 x32_2).f0), .int .i64 ((rd_T82 t340 x32_2).f1)] (fun k_ => k_ ≠ gb322) (fun _ => False) rfl (by first | (go_simp; done) | (go_simp; rfl)) ?aP (fun _ hk => hk.elim) ?aF ?aO ?aB ?aS ?aL ?_; (case aP => exact k53_mkM _ _ _ (⟨((rd_T53 l0 x13_1).f0), ((rd_T53 l0 x13_1).f1), (rd_T82 t340 x32_2).f0, (rd_T82 t340 x32_2).f1⟩ : S53)); (case aB => exact (bl2_ HB GE322 GE344)); (case aF => exact (fun k_ hk => Kd.freshB (g := gb322) (o := .cells #[.int .i64 ((rd_T53 l0 x13_1).f0), .int .i64 ((rd_T53 l0 x13_1).f1), .int .i64 ((rd_T53 l0 x13_1).f2), .int .i64 ((rd_T53 l0 x13_1).f3)] 53 (0, 0)) (by (with_reducible repeat (first | refine blk_drewN ?_ _ | refine blk_drew ?_ | refine blk_alloc ?_ _)); refine blk_far ?_ NB322_344.out _; (with_reducible repeat (first | refine blk_drewN ?_ _ | refine blk_drew ?_ | refine blk_alloc ?_ _)); refine blk_far ?_ NB322_344.out _; (with_reducible repeat (first | refine blk_drewN ?_ _ | refine blk_drew ?_ | refine blk_alloc ?_ _)); exact BK322.out) k_ hk)); (case aO => exact (by (with_reducible repeat (first | apply Kd.R_alloc | apply Kd.R_drewN | apply Kd.R_drew)); exact Kd.R_mono (Kd.R_far (p := ⟨gb344, 1, none⟩) (Kd.R_far (p := ⟨gb344, 0, none⟩) (Kd.R_types HO_5.out BK344.out (by decide)) (fun _ hk => hk.2) (.int .i64 ((rd_T82 t340 x32_2).f0))) (fun _ hk => hk.2) (.int .i64 ((rd_T82 t340 x32_2).f1))) (fun _ hk => hk.1))); (case aS => exact (below_size (bl2_ HB GE322 GE344))); (case aL => have := LMc37.out; omega); intro v346 w42 ho hb hg hat; rw [← Ny345.out] at ho; refine sh5_ (Kd.R_over' (by (with_reducible repeat (first | apply Kd.R_alloc | apply Kd.R_drewN | apply Kd.R_drew)); exact (Kd.R_mono (Kd.R_far (p := ⟨gb344, 1, none⟩) (Kd.R_far (p := ⟨gb344, 0, none⟩) (Kd.R_mono HO_30.out (fun k_ hk => (⟨hk, hk.2⟩ : _ ∧ k_ ≠ gb344))) (fun _ hk => hk.2) (.int .i64 ((rd_T82 t340 x32_2).f0))) (fun _ hk => hk.2) (.int .i64 ((rd_T82 t340 x32_2).f1))) (fun _ h_ => h_.1))) (Kd.R_typed (by (with_reducible repeat (first | apply Kd.R_alloc | apply Kd.R_drewN | apply Kd.R_drew)); exact (Kd.R_mono (Kd.R_far (p := ⟨gb344, 1, none⟩) (Kd.R_far (p := ⟨gb344, 0, none⟩) (Kd.R_types HO_5.out BK344.out (by decide)) (fun _ hk => hk.2) (.int .i64 ((rd_T82 t340 x32_2).f0))) (fun _ hk => hk.2) (.int .i64 ((rd_T82 t340 x32_2).f1))) (fun _ h_ => h_.1)))) (by decide) hg) (blk_grown (g := gb322) (o := .cells #[.int .i64 ((rd_T53 l0 x13_1).f0), .int .i64 ((rd_T53 l0 x13_1).f1), .int .i64 ((rd_T53 l0 x13_1).f2), .int .i64 ((rd_T53 l0 x13_1).f3)] 53 (0, 0)) (by (with_reducible repeat (first | refine blk_drewN ?_ _ | refine blk_drew ?_ | refine blk_alloc ?_ _)); refine blk_far ?_ NB322_344.out _; (with_reducible repeat (first | refine blk_drewN ?_ _ | refine blk_drew ?_ | refine blk_alloc ?_ _)); refine blk_far ?_ NB322_344.out _; (with_reducible repeat (first | refine blk_drewN ?_ _ | refine blk_drew ?_ | refine blk_alloc ?_ _)); exact BK322.out) hg (Kd.R_away HO_5.out (fun _ hk => hk))) (blk_grown (g := gb344) (o := .cells #[.int .i64 ((rd_T82 t340 x32_2).f0), .int .i64 ((rd_T82 t340 x32_2).f1)] 82 (0, 0)) (by (with_reducible repeat (first | refine blk_drewN ?_ _ | refine blk_drew ?_ | refine blk_alloc ?_ _)); refine blk_put (cs := #[.int .i64 ((rd_T82 t340 x32_2).f0), .int .i64 0]) ?_ 1 _ rfl; (with_reducible repeat (first | refine blk_drewN ?_ _ | refine blk_drew ?_ | refine blk_alloc ?_ _)); refine blk_put (cs := #[.int .i64 0, .int .i64 0]) ?_ 0 _ rfl; (with_reducible repeat (first | refine blk_drewN ?_ _ | refine blk_drew ?_ | refine blk_alloc ?_ _)); exact BK344.out) hg (Kd.R_ne HO_5.out BK344.out (by decide))) hb ho ?_; clear HO_30 BK322 BK344 HB HO_5 ho hb hg hat; intro HO_30 BK322 BK344 HB HO347))
       go_roundg k2
       case measure => have := HK1.out; have := HK2.out; omega
       case rel => exact ⟨(y345), (wrap64 (x32_2 + 1)), (by first | rfl | (simp; done) | (simp [*]; done)), H', ⟨by have := HK1.out; have := HK2.out; omega⟩, ⟨ra_ HO347⟩, ⟨by (with_reducible repeat (first | apply Kd.R_alloc | apply Kd.R_drewN | apply Kd.R_drew)); exact Kd.R_mono HO_30.out (fun _ hk => trivial)⟩, ⟨by (with_reducible repeat (first | refine blk_drewN ?_ _ | refine blk_drew ?_ | refine blk_alloc ?_ _)); exact BK322.out⟩, ⟨bl2_ HB GE322 GE344⟩⟩
      ·rw [if_neg c34] at H
       have c34b0 := decide_eq_false c34
       clear c34
       have H' := Aside0.mk H
       clear H
       go_wp2
       go_roundg k2
       case measure => have := HK1.out; have := HK2.out; omega
       case rel => exact ⟨(x5_2), (wrap64 (x13_1 + 1)), (by first | rfl | (simp; done) | (simp [*]; done)), H', ⟨by have := HK1.out; have := HK2.out; omega⟩, ⟨by (with_reducible repeat (first | apply Kd.R_alloc | apply Kd.R_drewN | apply Kd.R_drew)); exact Kd.R_mono HO_5.out (fun _ hk => trivial)⟩, ⟨bl1_ HB GE322⟩⟩
   ·rw [if_neg c5] at H
    have c5b0 : decide (x13_1 < (l0.length : Int)) = false := decide_eq_false c5
    clear c5
    obtain rfl := Option.some.inj H
    go_wp2
    go_ret
    exact ⟨_, by first | (rw [hRT_.out]; rfl) | exact er_, ra_ HO_5, bl_ HB⟩

/-! ### spec_IsSpan: function 119 -/
def spec_IsSpan.f (a0_0 : Int) (a0_1 : Int) : Option (Bool) := if a0_0 ≥ 0 then (if a0_1 ≤ 1000 then (some (decide (a0_0 < a0_1))) else (some false)) else (some false)
set_option maxHeartbeats 8000000 in
set_option maxRecDepth 100000 in
theorem spec_IsSpan.calls (a0_0 : Int) (a0_1 : Int) (r : Bool) (w : World) (h : spec_IsSpan.f a0_0 a0_1 = some r) :
  Calls Try.prog 119 #[.agg #[.int .i64 a0_0, .int .i64 a0_1]] w fun e w' => e = .returned (.bool r) ∧ Below w.heap.size w w' := by
 have hu82 := Try.underlying82
 have HB := Aside0.mk (Below.refl w.heap.size w)
 have H := h
 clear h
 unfold spec_IsSpan.f at H
 by_cases c2 : a0_0 ≥ 0
 ·rw [if_pos c2] at H
  have c2b0 : decide (0 ≤ a0_0) = true := decide_eq_true c2
  clear c2
  by_cases c3 : a0_1 ≤ 1000
  ·rw [if_pos c3] at H
   have c3b0 := decide_eq_true c3
   clear c3
   obtain rfl := Option.some.inj H
   go_enter Try.func119, Try.ntmps119
   go_wp2_with (first | ((with_reducible refine gd_ 1 ?_); refine bx_ 1 82 #[.int .i64 a0_0, .int .i64 a0_1] ?_; intro gb348 hg w4 hbox hb; refine sh4_ (below_step (bl_ HB) hb) hbox (ge_ hg (bl_ HB)) (ge_ hg (bl_ HB)) ?_; clear HB hb hbox hg; intro HB BK348 GW348 GE348; have hcz5 := cf2_ BK348))
   go_ret
   exact ⟨by first | (rw [hRT_.out]; rfl) | exact er_, bl1_ HB GE348⟩
  ·rw [if_neg c3] at H
   have c3b0 := decide_eq_false c3
   clear c3
   obtain rfl := Option.some.inj H
   go_enter Try.func119, Try.ntmps119
   go_wp2_with (first | ((with_reducible refine gd_ 1 ?_); refine bx_ 1 82 #[.int .i64 a0_0, .int .i64 a0_1] ?_; intro gb348 hg w6 hbox hb; refine sh4_ (below_step (bl_ HB) hb) hbox (ge_ hg (bl_ HB)) (ge_ hg (bl_ HB)) ?_; clear HB hb hbox hg; intro HB BK348 GW348 GE348; have hcz7 := cf2_ BK348))
   go_ret
   exact ⟨by first | (rw [hRT_.out]; rfl) | exact er_, bl1_ HB GE348⟩
 ·rw [if_neg c2] at H
  have c2b0 : decide (0 ≤ a0_0) = false := decide_eq_false c2
  clear c2
  obtain rfl := Option.some.inj H
  go_enter Try.func119, Try.ntmps119
  go_wp2_with (first | ((with_reducible refine gd_ 1 ?_); refine bx_ 1 82 #[.int .i64 a0_0, .int .i64 a0_1] ?_; intro gb348 hg w8 hbox hb; refine sh4_ (below_step (bl_ HB) hb) hbox (ge_ hg (bl_ HB)) (ge_ hg (bl_ HB)) ?_; clear HB hb hbox hg; intro HB BK348 GW348 GE348; have hcz9 := cf2_ BK348))
  go_ret
  exact ⟨by first | (rw [hRT_.out]; rfl) | exact er_, bl1_ HB GE348⟩

/-! ### spec_Max: function 120 -/
def spec_Max.f (a0 : Int) (a1 : Int) : Option (Int) := if a1 > a0 then (some a1) else (some a0)
set_option maxHeartbeats 8000000 in
set_option maxRecDepth 100000 in
theorem spec_Max.calls (a0 : Int) (a1 : Int) (r : Int) (w : World) (h : spec_Max.f a0 a1 = some r) :
  Calls Try.prog 120 #[.int .i64 a0, .int .i64 a1] w fun e w' => e = .returned (.int .i64 r) ∧ Drawn0 w w' := by
 have H := h
 clear h
 unfold spec_Max.f at H
 by_cases c3 : a1 > a0
 ·rw [if_pos c3] at H
  have c3b0 : decide (a0 < a1) = true := decide_eq_true c3
  clear c3
  obtain rfl := Option.some.inj H
  go_enter Try.func120, Try.ntmps120
  go_wp2
  go_ret
  exact ⟨by first | rfl | (simp; done) | (simp [*]; done), by repeat (first | exact Drawn0.refl _ | apply Drawn0.step)⟩
 ·rw [if_neg c3] at H
  have c3b0 : decide (a0 < a1) = false := decide_eq_false c3
  clear c3
  obtain rfl := Option.some.inj H
  go_enter Try.func120, Try.ntmps120
  go_wp2
  go_ret
  exact ⟨by first | rfl | (simp; done) | (simp [*]; done), by repeat (first | exact Drawn0.refl _ | apply Drawn0.step)⟩

/-! ### spec_l4Last: function 104 -/
def spec_l4Last.l0 : Nat → List (S82) → Int → Int → Option (Int)
 | 0, _, _, _ => none
 | k + 1, x0, x3, x4 => if x4 < (x0.length : Int) then (if 0 ≤ x4 then ((spec_IsSpan.f ((rd_T82 x0 x4).f0) ((rd_T82 x0 x4).f1)).bind fun t350 => (if t350 = true then ((spec_Max.f x3 ((rd_T82 x0 x4).f1)).bind fun t352 => (spec_l4Last.l0 k x0 t352 (wrap64 (x4 + 1)))) else (spec_l4Last.l0 k x0 x3 (wrap64 (x4 + 1))))) else (none)) else (some x3)
def spec_l4Last.f (k : Nat) (l0 : List (S82)) : Option (Int) := spec_l4Last.l0 k l0 0 0
theorem spec_l4Last.mono_l : ∀ k, (∀ y0 y1 y2, LeO (spec_l4Last.l0 k y0 y1 y2) (spec_l4Last.l0 (k + 1) y0 y1 y2))
 | 0 => fun _ _ _ r h => by simp [spec_l4Last.l0] at h
 | k + 1 => by
  have ih0 := spec_l4Last.mono_l k
  ·intro y0 y1 y2
   unfold spec_l4Last.l0
   repeat' first | (with_reducible first | exact ih0 _ _ _ | exact LeO.refl _ | exact LeO.none _ | refine LeO.ite ?_ ?_ | refine LeO.bind ?_ (fun _ => ?_)) | exact LeO.none _ | refine LeO.ite ?_ ?_ | refine LeO.bind ?_ (fun _ => ?_)
theorem spec_l4Last.mono : ∀ a0 k, LeO (spec_l4Last.f k a0) (spec_l4Last.f (k + 1) a0) := by
 intro a0 k
 have ih0 := spec_l4Last.mono_l k
 unfold spec_l4Last.f
 repeat' first | (with_reducible first | exact ih0 _ _ _ | exact LeO.refl _ | exact LeO.none _ | refine LeO.ite ?_ ?_ | refine LeO.bind ?_ (fun _ => ?_)) | exact LeO.none _ | refine LeO.ite ?_ ?_ | refine LeO.bind ?_ (fun _ => ?_)
set_option maxHeartbeats 8000000 in
set_option maxRecDepth 100000 in
theorem spec_l4Last.calls (k : Nat) (A0 : Option Addr) (c0 : Nat) (l0 : List (S82)) (r : Int) (w : World) (hr0 : Kd.C k82 w A0 l0.length l0) (hc0 : l0.length ≤ c0) (h : spec_l4Last.f k l0 = some r) :
  Calls Try.prog 104 #[.slice A0 l0.length c0] w fun e w' => e = .returned (.int .i64 r) ∧ Below w.heap.size w w' := by
 have hu82 := Try.underlying82
 have HR0 := Aside0.mk hr0
 have HC0 := Aside0.mk hc0
 clear hr0 hc0
 have HB := Aside0.mk (Below.refl w.heap.size w)
 have H := h
 clear h
 unfold spec_l4Last.f at H
 have H' := Aside0.mk H
 clear H
 go_enter Try.func104, Try.ntmps104
 go_wp2
 go_loopg [3, 4] k (fun kq v3 v4 w' => ∃ (x3_1 : Int) (x4_1 : Int), v3 = .int .i64 x3_1 ∧ v4 = .int .i64 x4_1 ∧ Aside0 (spec_l4Last.l0 kq l0 x3_1 x4_1 = some r) ∧ Aside0 (kq ≤ k) ∧ Aside0 (Below w.heap.size w w'))
 case atStart => exact ⟨(0), (0), (by first | rfl | (simp; done) | (simp [*]; done)), (by first | rfl | (simp; done) | (simp [*]; done)), H', ⟨Nat.le_refl _⟩, ⟨bl_ HB⟩⟩
 case round =>
  clear H'
  try clear c1
  obtain ⟨x3_1, x4_1, rfl, rfl, HA, HK1, HB⟩ := hrel
  cases gk with
  | zero => exact absurd HA.out (by simp [spec_l4Last.l0])
  | succ k1 =>
   have H := HA.out
   clear HA
   simp only [spec_l4Last.l0] at H
   by_cases c2 : x4_1 < (l0.length : Int)
   ·rw [if_pos c2] at H
    have c2b0 := decide_eq_true c2
    clear c2
    replace H := ifn_ H
    obtain ⟨c3, H⟩ := H
    have c3b0 := decide_eq_true c3
    clear c3
    replace H := bs_ H
    obtain ⟨t350, A4, H⟩ := H
    by_cases c5 : t350 = true
    ·subst c5
     rw [if_pos rfl] at H
     replace H := bs_ H
     obtain ⟨t352, A6, H⟩ := H
     have H' := Aside0.mk H
     clear H
     have p349 : 0 ≤ (x4_1 : Int) := od_
     have q349 : x4_1 < (l0.length : Int) := od_
     obtain ⟨ad349, e349, hx349_0, hx349_1⟩ := at_T82 HR0.out x4_1 p349 q349
     cases e349
     replace hx349_0 := hbc_ HB hx349_0
     replace hx349_1 := hbc_ HB hx349_1
     replace p349 := eq_true p349
     replace q349 := eq_true q349
     go_wp2_with (first | ((with_reducible refine gate_callee (f := 119) rfl ?_); refine gl_ 15 Try.func119 (spec_IsSpan.calls ((rd_T82 l0 x4_1).f0) ((rd_T82 l0 x4_1).f1) true _ A4.out) ?_; rintro e w7 ⟨rfl, hb⟩; refine ⟨_, rfl, sh1_ (below_step (bl_ HB) hb) ?_⟩; clear HB hb; intro HB; have p351 : 0 ≤ (x4_1 : Int) := od_; have q351 : x4_1 < (l0.length : Int) := od_; obtain ⟨ad351, e351, hx351_0, hx351_1⟩ := at_T82 HR0.out x4_1 p351 q351; obtain rfl : ad349 = ad351 := (by injection e351); replace hx351_0 := hbc_ HB hx351_0; replace hx351_1 := hbc_ HB hx351_1; replace p351 := eq_true p351; replace q351 := eq_true q351) | ((with_reducible refine gate_callee (f := 120) rfl ?_); refine gl_ 22 Try.func120 (spec_Max.calls x3_1 ((rd_T82 l0 x4_1).f1) t352 _ A6.out) ?_; rintro e w' ⟨rfl, ⟨nd, rfl⟩⟩; refine ⟨_, rfl, ?_⟩))
     go_roundg k1
     case measure => have := HK1.out; omega
     case rel => exact ⟨(t352), (wrap64 (x4_1 + 1)), (by first | rfl | (simp; done) | (simp [*]; done)), (by first | rfl | (simp; done) | (simp [*]; done)), H', ⟨by have := HK1.out; omega⟩, ⟨bl_ HB⟩⟩
    ·replace c5 := Bool.eq_false_iff.mpr c5
     subst c5
     have H1 : (spec_l4Last.l0 k1 l0 x3_1 (wrap64 (x4_1 + 1))) = some r := by rw [if_neg (show ¬ (false = true) by decide)] at H; exact H
     clear H
     have H := H1
     clear H1
     have H' := Aside0.mk H
     clear H
     have p349 : 0 ≤ (x4_1 : Int) := od_
     have q349 : x4_1 < (l0.length : Int) := od_
     obtain ⟨ad349, e349, hx349_0, hx349_1⟩ := at_T82 HR0.out x4_1 p349 q349
     cases e349
     replace hx349_0 := hbc_ HB hx349_0
     replace hx349_1 := hbc_ HB hx349_1
     replace p349 := eq_true p349
     replace q349 := eq_true q349
     go_wp2_with (first | ((with_reducible refine gate_callee (f := 119) rfl ?_); refine gl_ 15 Try.func119 (spec_IsSpan.calls ((rd_T82 l0 x4_1).f0) ((rd_T82 l0 x4_1).f1) false _ A4.out) ?_; rintro e w8 ⟨rfl, hb⟩; refine ⟨_, rfl, sh1_ (below_step (bl_ HB) hb) ?_⟩; clear HB hb; intro HB))
     go_roundg k1
     case measure => have := HK1.out; omega
     case rel => exact ⟨(x3_1), (wrap64 (x4_1 + 1)), (by first | rfl | (simp; done) | (simp [*]; done)), (by first | rfl | (simp; done) | (simp [*]; done)), H', ⟨by have := HK1.out; omega⟩, ⟨bl_ HB⟩⟩
   ·rw [if_neg c2] at H
    have c2b0 := decide_eq_false c2
    clear c2
    obtain rfl := Option.some.inj H
    go_wp2
    go_ret
    exact ⟨by first | (rw [hRT_.out]; rfl) | exact er_, bl_ HB⟩

/-! ### spec_InSpan: function 121 -/
def spec_InSpan.f (a0_0 : Int) (a0_1 : Int) (a1 : Int) : Option (Bool) := (spec_IsSpan.f a0_0 a0_1).bind fun t354 => (if t354 = true then (if a0_0 ≤ a1 then (some (decide (a1 < a0_1))) else (some false)) else (some false))
set_option maxHeartbeats 8000000 in
set_option maxRecDepth 100000 in
theorem spec_InSpan.calls (a0_0 : Int) (a0_1 : Int) (a1 : Int) (r : Bool) (w : World) (h : spec_InSpan.f a0_0 a0_1 a1 = some r) :
  Calls Try.prog 121 #[.agg #[.int .i64 a0_0, .int .i64 a0_1], .int .i64 a1] w fun e w' => e = .returned (.bool r) ∧ Below w.heap.size w w' := by
 have hu82 := Try.underlying82
 have HB := Aside0.mk (Below.refl w.heap.size w)
 have H := h
 clear h
 unfold spec_InSpan.f at H
 replace H := bs_ H
 obtain ⟨t354, A3, H⟩ := H
 by_cases c4 : t354 = true
 ·subst c4
  rw [if_pos rfl] at H
  by_cases c5 : a0_0 ≤ a1
  ·rw [if_pos c5] at H
   have c5b0 := decide_eq_true c5
   clear c5
   obtain rfl := Option.some.inj H
   go_enter Try.func121, Try.ntmps121
   go_wp2_with (first | ((with_reducible refine gd_ 2 ?_); refine bx_ 2 82 #[.int .i64 a0_0, .int .i64 a0_1] ?_; intro gb353 hg w6 hbox hb; refine sh4_ (below_step (bl_ HB) hb) hbox (ge_ hg (bl_ HB)) (ge_ hg (bl_ HB)) ?_; clear HB hb hbox hg; intro HB BK353 GW353 GE353; have hcz7 := cf2_ BK353) | ((with_reducible refine gate_callee (f := 119) rfl ?_); refine gl_ 6 Try.func119 (spec_IsSpan.calls a0_0 a0_1 true _ A3.out) ?_; rintro e w8 ⟨rfl, hb⟩; refine ⟨_, rfl, sh2_ (blk_below (bk_ BK353) hb) (below_step (bl1_ HB GE353) hb) ?_⟩; clear BK353 HB hb; intro BK353 HB; have hcz9 := cf2_ BK353))
   go_ret
   exact ⟨by first | (rw [hRT_.out]; rfl) | exact er_, bl1_ HB GE353⟩
  ·rw [if_neg c5] at H
   have c5b0 := decide_eq_false c5
   clear c5
   obtain rfl := Option.some.inj H
   go_enter Try.func121, Try.ntmps121
   go_wp2_with (first | ((with_reducible refine gd_ 2 ?_); refine bx_ 2 82 #[.int .i64 a0_0, .int .i64 a0_1] ?_; intro gb353 hg w10 hbox hb; refine sh4_ (below_step (bl_ HB) hb) hbox (ge_ hg (bl_ HB)) (ge_ hg (bl_ HB)) ?_; clear HB hb hbox hg; intro HB BK353 GW353 GE353; have hcz11 := cf2_ BK353) | ((with_reducible refine gate_callee (f := 119) rfl ?_); refine gl_ 6 Try.func119 (spec_IsSpan.calls a0_0 a0_1 true _ A3.out) ?_; rintro e w12 ⟨rfl, hb⟩; refine ⟨_, rfl, sh2_ (blk_below (bk_ BK353) hb) (below_step (bl1_ HB GE353) hb) ?_⟩; clear BK353 HB hb; intro BK353 HB; have hcz13 := cf2_ BK353))
   go_ret
   exact ⟨by first | (rw [hRT_.out]; rfl) | exact er_, bl1_ HB GE353⟩
 ·replace c4 := Bool.eq_false_iff.mpr c4
  subst c4
  have H1 : (some false) = some r := by rw [if_neg (show ¬ (false = true) by decide)] at H; exact H
  clear H
  have H := H1
  clear H1
  obtain rfl := Option.some.inj H
  go_enter Try.func121, Try.ntmps121
  go_wp2_with (first | ((with_reducible refine gd_ 2 ?_); refine bx_ 2 82 #[.int .i64 a0_0, .int .i64 a0_1] ?_; intro gb353 hg w14 hbox hb; refine sh4_ (below_step (bl_ HB) hb) hbox (ge_ hg (bl_ HB)) (ge_ hg (bl_ HB)) ?_; clear HB hb hbox hg; intro HB BK353 GW353 GE353; have hcz15 := cf2_ BK353) | ((with_reducible refine gate_callee (f := 119) rfl ?_); refine gl_ 6 Try.func119 (spec_IsSpan.calls a0_0 a0_1 false _ A3.out) ?_; rintro e w16 ⟨rfl, hb⟩; refine ⟨_, rfl, sh2_ (blk_below (bk_ BK353) hb) (below_step (bl1_ HB GE353) hb) ?_⟩; clear BK353 HB hb; intro BK353 HB))
  go_ret
  exact ⟨by first | (rw [hRT_.out]; rfl) | exact er_, bl1_ HB GE353⟩

/-! ### spec_InSpans: function 105 -/
def spec_InSpans.l0 : Nat → List (S82) → Int → Int → Option (Bool)
 | 0, _, _, _ => none
 | k + 1, x0, x1, x5 => if x5 < (x0.length : Int) then (if 0 ≤ x5 then ((spec_InSpan.f ((rd_T82 x0 x5).f0) ((rd_T82 x0 x5).f1) x1).bind fun t356 => (if t356 = true then (some true) else (spec_InSpans.l0 k x0 x1 (wrap64 (x5 + 1))))) else (none)) else (some false)
def spec_InSpans.f (k : Nat) (l0 : List (S82)) (a1 : Int) : Option (Bool) := spec_InSpans.l0 k l0 a1 0
theorem spec_InSpans.mono_l : ∀ k, (∀ y0 y1 y2, LeO (spec_InSpans.l0 k y0 y1 y2) (spec_InSpans.l0 (k + 1) y0 y1 y2))
 | 0 => fun _ _ _ r h => by simp [spec_InSpans.l0] at h
 | k + 1 => by
  have ih0 := spec_InSpans.mono_l k
  ·intro y0 y1 y2
   unfold spec_InSpans.l0
   repeat' first | (with_reducible first | exact ih0 _ _ _ | exact LeO.refl _ | exact LeO.none _ | refine LeO.ite ?_ ?_ | refine LeO.bind ?_ (fun _ => ?_)) | exact LeO.none _ | refine LeO.ite ?_ ?_ | refine LeO.bind ?_ (fun _ => ?_)
theorem spec_InSpans.mono : ∀ a0 a1 k, LeO (spec_InSpans.f k a0 a1) (spec_InSpans.f (k + 1) a0 a1) := by
 intro a0 a1 k
 have ih0 := spec_InSpans.mono_l k
 unfold spec_InSpans.f
 repeat' first | (with_reducible first | exact ih0 _ _ _ | exact LeO.refl _ | exact LeO.none _ | refine LeO.ite ?_ ?_ | refine LeO.bind ?_ (fun _ => ?_)) | exact LeO.none _ | refine LeO.ite ?_ ?_ | refine LeO.bind ?_ (fun _ => ?_)
set_option maxHeartbeats 8000000 in
set_option maxRecDepth 100000 in
theorem spec_InSpans.calls (k : Nat) (A0 : Option Addr) (c0 : Nat) (l0 : List (S82)) (a1 : Int) (r : Bool) (w : World) (hr0 : Kd.C k82 w A0 l0.length l0) (hc0 : l0.length ≤ c0) (h : spec_InSpans.f k l0 a1 = some r) :
  Calls Try.prog 105 #[.slice A0 l0.length c0, .int .i64 a1] w fun e w' => e = .returned (.bool r) ∧ Below w.heap.size w w' := by
 have hu82 := Try.underlying82
 have HR0 := Aside0.mk hr0
 have HC0 := Aside0.mk hc0
 clear hr0 hc0
 have HB := Aside0.mk (Below.refl w.heap.size w)
 have H := h
 clear h
 unfold spec_InSpans.f at H
 have H' := Aside0.mk H
 clear H
 go_enter Try.func105, Try.ntmps105
 go_wp2
 go_loopg [5] k (fun kq v5 w' => ∃ (x5_1 : Int), v5 = .int .i64 x5_1 ∧ Aside0 (spec_InSpans.l0 kq l0 a1 x5_1 = some r) ∧ Aside0 (kq ≤ k) ∧ Aside0 (Below w.heap.size w w'))
 case atStart => exact ⟨(0), (by first | rfl | (simp; done) | (simp [*]; done)), H', ⟨Nat.le_refl _⟩, ⟨bl_ HB⟩⟩
 case round =>
  clear H'
  try clear c1
  try clear p2
  obtain ⟨x5_1, rfl, HA, HK1, HB⟩ := hrel
  cases gk with
  | zero => exact absurd HA.out (by simp [spec_InSpans.l0])
  | succ k1 =>
   have H := HA.out
   clear HA
   simp only [spec_InSpans.l0] at H
   by_cases c3 : x5_1 < (l0.length : Int)
   ·rw [if_pos c3] at H
    have c3b0 := decide_eq_true c3
    clear c3
    replace H := ifn_ H
    obtain ⟨c4, H⟩ := H
    have c4b0 := decide_eq_true c4
    clear c4
    replace H := bs_ H
    obtain ⟨t356, A5, H⟩ := H
    by_cases c6 : t356 = true
    ·subst c6
     rw [if_pos rfl] at H
     obtain rfl := Option.some.inj H
     have p355 : 0 ≤ (x5_1 : Int) := od_
     have q355 : x5_1 < (l0.length : Int) := od_
     obtain ⟨ad355, e355, hx355_0, hx355_1⟩ := at_T82 HR0.out x5_1 p355 q355
     cases e355
     replace hx355_0 := hbc_ HB hx355_0
     replace hx355_1 := hbc_ HB hx355_1
     replace p355 := eq_true p355
     replace q355 := eq_true q355
     go_wp2_with (first | ((with_reducible refine gate_callee (f := 121) rfl ?_); refine gl_ 17 Try.func121 (spec_InSpan.calls ((rd_T82 l0 x5_1).f0) ((rd_T82 l0 x5_1).f1) a1 true _ A5.out) ?_; rintro e w7 ⟨rfl, hb⟩; refine ⟨_, rfl, sh1_ (below_step (bl_ HB) hb) ?_⟩; clear HB hb; intro HB))
     go_ret
     exact ⟨by first | (rw [hRT_.out]; rfl) | exact er_, bl_ HB⟩
    ·replace c6 := Bool.eq_false_iff.mpr c6
     subst c6
     have H1 : (spec_InSpans.l0 k1 l0 a1 (wrap64 (x5_1 + 1))) = some r := by rw [if_neg (show ¬ (false = true) by decide)] at H; exact H
     clear H
     have H := H1
     clear H1
     have H' := Aside0.mk H
     clear H
     have p355 : 0 ≤ (x5_1 : Int) := od_
     have q355 : x5_1 < (l0.length : Int) := od_
     obtain ⟨ad355, e355, hx355_0, hx355_1⟩ := at_T82 HR0.out x5_1 p355 q355
     cases e355
     replace hx355_0 := hbc_ HB hx355_0
     replace hx355_1 := hbc_ HB hx355_1
     replace p355 := eq_true p355
     replace q355 := eq_true q355
     go_wp2_with (first | ((with_reducible refine gate_callee (f := 121) rfl ?_); refine gl_ 17 Try.func121 (spec_InSpan.calls ((rd_T82 l0 x5_1).f0) ((rd_T82 l0 x5_1).f1) a1 false _ A5.out) ?_; rintro e w8 ⟨rfl, hb⟩; refine ⟨_, rfl, sh1_ (below_step (bl_ HB) hb) ?_⟩; clear HB hb; intro HB))
     go_roundg k1
     case measure => have := HK1.out; omega
     case rel => exact ⟨(wrap64 (x5_1 + 1)), (by first | rfl | (simp; done) | (simp [*]; done)), H', ⟨by have := HK1.out; omega⟩, ⟨bl_ HB⟩⟩
   ·rw [if_neg c3] at H
    have c3b0 := decide_eq_false c3
    clear c3
    obtain rfl := Option.some.inj H
    go_wp2
    go_ret
    exact ⟨by first | (rw [hRT_.out]; rfl) | exact er_, bl_ HB⟩

/-! ### spec_l4Put: function 106 -/
def spec_l4Put.f (l0 : List (S82)) (a1 : Int) : Option ((List (S82))) := if (l0.length : Int) > 0 then (if 0 ≤ (wrap64 ((l0.length : Int) - 1)) then (if (wrap64 ((l0.length : Int) - 1)) < (l0.length : Int) then (if ((rd_T82 l0 (wrap64 ((l0.length : Int) - 1))).f1) = a1 then (some (l0.set ((wrap64 ((l0.length : Int) - 1)) : Int).toNat (⟨(rd_T82 l0 (wrap64 ((l0.length : Int) - 1))).f0, wrap64 (a1 + 1)⟩ : S82))) else (if l0.length < 8796093022208 then (some (l0 ++ [(⟨a1, wrap64 (a1 + 1)⟩ : S82)])) else (none))) else (none)) else (none)) else (if l0.length < 8796093022208 then (some (l0 ++ [(⟨a1, wrap64 (a1 + 1)⟩ : S82)])) else (none))
set_option maxHeartbeats 8000000 in
set_option maxRecDepth 100000 in
theorem spec_l4Put.calls (P0_ : Nat → Prop) (u9000_ : Value) (l0 : List (S82)) (a1 : Int) (r : List (S82)) (w0 w : World) (hB : Below w0.heap.size w0 w) (ho0 : Kd.R k82 82 w w0.heap.size P0_ u9000_ l0) (h : spec_l4Put.f l0 a1 = some r) :
  Calls Try.prog 106 #[u9000_, .int .i64 a1] w fun e w' => ∃ v0_ : Value, e = .returned (v0_) ∧ Kd.R k82 82 w' w0.heap.size (fun k_ => (P0_ k_ ∨ w.heap.size ≤ k_)) v0_ r ∧ Below w0.heap.size w0 w' ∧ Kept w w' (fun k_ => P0_ k_) := by
 have hu82 := Try.underlying82
 have HO0 := Aside0.mk (show Kd.R k82 82 w w0.heap.size (fun k_ => (P0_ k_ ∨ w.heap.size ≤ k_)) u9000_ l0 from Kd.R_mono ho0 (fun k_ hk => (.inl hk)))
 have HK := Aside0.mk (Kept.refl w (fun k_ => P0_ k_))
 have HW0 := Aside0.mk hB.size
 have HB := Aside0.mk hB
 clear hB
 have H := h
 clear h
 unfold spec_l4Put.f at H
 by_cases c3 : (l0.length : Int) > 0
 ·rw [if_pos c3] at H
  have c3b0 : decide (0 < (l0.length : Int)) = true := decide_eq_true c3
  have c3b1 : decide (0 < l0.length) = true := decide_eq_true (by omega)
  clear c3
  obtain ⟨ji4, hji4⟩ : ∃ j_ : Int, (wrap64 ((l0.length : Int) - 1)) = j_ := ⟨_, rfl⟩
  replace H : (if 0 ≤ (ji4) then (if (ji4) < (l0.length : Int) then (if ((rd_T82 l0 (ji4)).f1) = a1 then (some (l0.set ((ji4) : Int).toNat (⟨(rd_T82 l0 (ji4)).f0, wrap64 (a1 + 1)⟩ : S82))) else (if l0.length < 8796093022208 then (some (l0 ++ [(⟨a1, wrap64 (a1 + 1)⟩ : S82)])) else (none))) else (none)) else (none)) = some r := by first | (rw [hji4] at H; exact H) | (simp only [hji4] at H ⊢; exact H)
  have hji4w : (IntKind.i64.wrap ((l0.length : Int) - 1)) = ji4 := (i64_w _).trans hji4
  replace H := ifn_ H
  obtain ⟨c5, H⟩ := H
  have c5b0 := decide_eq_true c5
  clear c5
  replace H := ifn_ H
  obtain ⟨c6, H⟩ := H
  have c6b0 := decide_eq_true c6
  clear c6
  by_cases c7 : ((rd_T82 l0 (ji4)).f1) = a1
  ·rw [if_pos c7] at H
   obtain ⟨c7b0, c7b1⟩ := bt_ c7
   clear c7
   replace H : ∃ y_ : List (S82), Aside0 (y_ = (l0.set ((ji4) : Int).toNat (⟨(rd_T82 l0 (ji4)).f0, wrap64 (a1 + 1)⟩ : S82))) ∧ (some y_) = some r := ⟨_, ⟨rfl⟩, yh_ H⟩
   obtain ⟨y358, Ny358, H⟩ := H
   obtain rfl := Option.some.inj H
   obtain ⟨Ao9, co9, eo9⟩ := Kd.R_slice HO0.out
   subst eo9
   have p357 : 0 ≤ ((ji4) : Int) := od_
   have q357 : (ji4) < (l0.length : Int) := od_
   obtain ⟨ad357, e357, hx357_0, hx357_1⟩ := at_T82 (Kd.R_reads' HO0.out).2.2 (ji4) p357 q357
   cases e357
   replace p357 := eq_true p357
   replace q357 := eq_true q357
   have p8 : 0 ≤ ((ji4) : Int) := od_
   have q8 : ((ji4) : Int) < ((l0.length : Int) : Int) := od_
   obtain ⟨go8, co8, eo8, gb8, gl8, cl8, HG8⟩ := Kd.R_form HO0.out (by omega)
   (first | cases eo8 | (injection eo8 with ea_ en_ ec_; (first | subst ea_ | (injection ea_ with ea_; subst ea_)); subst ec_; clear en_))
   have GB8 := Aside0.mk gb8
   have GG8 := Aside0.mk HG8
   clear gb8 gl8 HG8
   have HMgo8 := Aside0.mk (show (P0_ go8 ∨ w.heap.size ≤ go8) from (HO0.out.1 _ rfl))
   (first | simp only [add_plain] at hx357_0 | skip)
   (first | simp only [add_plain] at hx357_1 | skip)
   obtain ⟨ce8, hcl8, hM8, hcc8, hfr8⟩ := Kd.R_elem HO0.out z82 ((ji4) : Int) p8 q8
   obtain rfl := k82_openM hM8
   have hx8_0 : w.cell? ⟨go8, ((ji4) : Int).toNat * 2, none⟩ = some (.int .i64 ((rd_T82 l0 (ji4)).f0)) := hcc8 0 _ rfl
   have hx8_1 : w.cell? ⟨go8, ((ji4) : Int).toNat * 2 + 1, none⟩ = some (.int .i64 ((rd_T82 l0 (ji4)).f1)) := hcc8 1 _ rfl
   have hf8_0 : w.frozen? ⟨go8, ((ji4) : Int).toNat * 2, none⟩ = false := hfr8 0
   have hf8_1 : w.frozen? ⟨go8, ((ji4) : Int).toNat * 2 + 1, none⟩ = false := hfr8 1
   clear hcl8 hcc8 hfr8 hM8
   replace p8 := eq_true p8
   replace q8 := eq_true q8
   have HX10 := Aside0.mk (show Kd.R k82 82 w w0.heap.size (fun k_ => (P0_ k_ ∨ w.heap.size ≤ k_)) (.slice (some ⟨go8, 0, none⟩) l0.length co9) l0 from (ra_ HO0))
   obtain ⟨ce10, hcl10, hM10, hcc10, hfr10⟩ := Kd.R_elem HX10.out z82 ((ji4) : Int) od_ (by have h_ : ((ji4) : Int) < ((l0.length : Int) : Int) := od_; first | exact h_ | (have e_ := (Kd.R_reads' HO0.out).1; omega) | simpa using h_)
   obtain rfl := k82_openM hM10
   have HP10 := Kd.R_seg HX10.out ((ji4) : Int) od_ (by have h_ : ((ji4) : Int) < ((l0.length : Int) : Int) := od_; first | exact h_ | (have e_ := (Kd.R_reads' HO0.out).1; omega) | simpa using h_) (seg := [.int .i64 (wrap64 (a1 + 1))]) (j := 1) hcl10 hcc10 (show 2 ≤ 2 from by decide) (x' := (⟨(rd_T82 l0 (ji4)).f0, wrap64 (a1 + 1)⟩ : S82)) (k82_mkM _ _ _ (⟨(rd_T82 l0 (ji4)).f0, wrap64 (a1 + 1)⟩ : S82) ) (fun _ hk => hk)
   have hx10_1 := hcc10 1 _ rfl
   (try simp only [show (k82).sz = 2 from rfl, Nat.mul_one, Nat.add_zero] at hx10_1)
   have hf10_1 := hfr10 1
   (try simp only [show (k82).sz = 2 from rfl, Nat.mul_one, Nat.add_zero] at hf10_1)
   clear hcl10 hcc10 hfr10 hM10
   go_enter Try.func106, Try.ntmps106
   go_wp2_with (first | ((with_reducible refine gate_store (t := 3) (p := 26) rfl ?_); refine store_event (t := 3) (p := 26) (v := ?vo_w11) (w1 := (w.setCell ⟨go8, ((ji4) : Int).toNat * 2 + 1, none⟩ (.int .i64 (wrap64 (a1 + 1))))) ?hg ?ho ?hn ?hr ?_; (case ho => rfl); (case hg => rfl); (case hn => rfl); (case hr => first | (go_simp; done) | (go_simp; rfl)); intro w11 hw; have hg : w.grownBy w11 (some go8) := (by rw [hw]; exact HP10.2); have hp_ : Kd.R k82 82 w11 w0.heap.size (fun k_ => (P0_ k_ ∨ w.heap.size ≤ k_)) (.slice (some ⟨go8, 0, none⟩) l0.length co9) y358 := (by rw [hw, Ny358.out]; exact HP10.1); clear HP10; refine sh3_ hp_ ((by rw [hw]; exact below_set (HB.out) GB8.out : Below w0.heap.size w0 w11)) (Kept.of_grown (S := (fun k_ => P0_ k_)) hg (by repeat (first | (with_reducible first | exact HK.out | apply Kept.alloc | apply Kept.drewN | apply Kept.drew) | exact HK.out)) (fun k_ e_ => (HO0.out.1 k_ e_))) ?_; clear HO0 HB HK; intro HO0 HB HK; clear hg hw hp_))
   go_ret
   exact ⟨_, by first | rfl | (rw [hRT_.out]; rfl) | (simp [errW_none, errW_some] <;> rfl) | (simp only [← hji4]; first | rfl | (simp [errW_none, errW_some] <;> rfl)) | (simp [*, errW_none, errW_some] <;> rfl), ra_ HO0, bl_ HB, by repeat (first | (with_reducible first | exact HK.out | apply Kept.alloc | apply Kept.drewN | apply Kept.drew) | exact HK.out)⟩
  ·rw [if_neg c7] at H
   obtain ⟨c7b0, c7b1⟩ := bn_ c7
   replace H := ifn_ H
   obtain ⟨c12, H⟩ := H
   have LMc12 := Aside0.mk c12
   clear c12
   replace H : ∃ y_ : List (S82), Aside0 (y_ = (l0 ++ [(⟨a1, wrap64 (a1 + 1)⟩ : S82)])) ∧ (some y_) = some r := ⟨_, ⟨rfl⟩, yh_ H⟩
   obtain ⟨y359, Ny359, H⟩ := H
   obtain rfl := Option.some.inj H
   obtain ⟨Ao13, co13, eo13⟩ := Kd.R_slice HO0.out
   subst eo13
   have p357 : 0 ≤ ((ji4) : Int) := od_
   have q357 : (ji4) < (l0.length : Int) := od_
   obtain ⟨ad357, e357, hx357_0, hx357_1⟩ := at_T82 (Kd.R_reads' HO0.out).2.2 (ji4) p357 q357
   cases e357
   replace p357 := eq_true p357
   replace q357 := eq_true q357
   go_enter Try.func106, Try.ntmps106
   go_wp2_with (first | ((with_reducible refine gate_builtin (b := .append) (xs := #[.tmp 28, .tmp 33]) rfl ?_); (try (refine gate_guard (by rfl) ?_; dsimp only)); at_builtin; refine Kd.R_append k82 (w0 := w0) w0.heap.size rfl (.tmp 28) (.tmp 33) 40 82 (.agg #[(.int .i64 0), (.int .i64 0)]) 16 rfl Try.underlying40 info82 rfl (by decide) (by omega) (.slice (some ad357) l0.length co13) l0 (⟨a1, wrap64 (a1 + 1)⟩ : S82) [.int .i64 a1, .int .i64 (wrap64 (a1 + 1))] (fun k_ => (P0_ k_ ∨ w.heap.size ≤ k_)) (fun _ => False) rfl rfl ?aP (fun _ hk => hk.elim) ?aF ?aO ?aB ?aS ?aL ?_; (case aP => exact k82_mkM _ _ _ (⟨a1, wrap64 (a1 + 1)⟩ : S82)); (case aB => exact (bl_ HB)); (case aF => exact (fun k_ hk => (.inr (Nat.le_trans (by first | exact HK.out.1 | exact (show Kept w _ (fun k_ => P0_ k_) from by repeat (first | (with_reducible first | exact HK.out | apply Kept.alloc | apply Kept.drewN | apply Kept.drew) | exact HK.out)).1) hk)))); (case aO => exact (ra_ HO0)); (case aS => exact (below_size (bl_ HB))); (case aL => have := LMc12.out; omega); intro v360 w14 ho hb hg hat; rw [← Ny359.out] at ho; refine sh3_ hb (Kept.of_grown (S := (fun k_ => P0_ k_)) hg (by repeat (first | (with_reducible first | exact HK.out | apply Kept.alloc | apply Kept.drewN | apply Kept.drew) | exact HK.out)) (fun k_ e_ => (HO0.out.1 k_ e_))) ho ?_; clear HB HK HO0 ho hb hg hat; intro HB HK HO361))
   go_ret
   exact ⟨_, by first | rfl | (rw [hRT_.out]; rfl) | (simp [errW_none, errW_some] <;> rfl) | (simp only [← hji4]; first | rfl | (simp [errW_none, errW_some] <;> rfl)) | (simp [*, errW_none, errW_some] <;> rfl), ra_ HO361, bl_ HB, by repeat (first | (with_reducible first | exact HK.out | apply Kept.alloc | apply Kept.drewN | apply Kept.drew) | exact HK.out)⟩
 ·rw [if_neg c3] at H
  have c3b0 : decide (0 < (l0.length : Int)) = false := decide_eq_false c3
  have c3b1 : decide (0 < l0.length) = false := decide_eq_false (by omega)
  clear c3
  replace H := ifn_ H
  obtain ⟨c15, H⟩ := H
  have LMc15 := Aside0.mk c15
  clear c15
  replace H : ∃ y_ : List (S82), Aside0 (y_ = (l0 ++ [(⟨a1, wrap64 (a1 + 1)⟩ : S82)])) ∧ (some y_) = some r := ⟨_, ⟨rfl⟩, yh_ H⟩
  obtain ⟨y362, Ny362, H⟩ := H
  obtain rfl := Option.some.inj H
  obtain ⟨Ao16, co16, eo16⟩ := Kd.R_slice HO0.out
  subst eo16
  go_enter Try.func106, Try.ntmps106
  go_wp2_with (first | ((with_reducible refine gate_builtin (b := .append) (xs := #[.tmp 28, .tmp 33]) rfl ?_); (try (refine gate_guard (by rfl) ?_; dsimp only)); at_builtin; refine Kd.R_append k82 (w0 := w0) w0.heap.size rfl (.tmp 28) (.tmp 33) 40 82 (.agg #[(.int .i64 0), (.int .i64 0)]) 16 rfl Try.underlying40 info82 rfl (by decide) (by omega) (.slice Ao16 l0.length co16) l0 (⟨a1, wrap64 (a1 + 1)⟩ : S82) [.int .i64 a1, .int .i64 (wrap64 (a1 + 1))] (fun k_ => (P0_ k_ ∨ w.heap.size ≤ k_)) (fun _ => False) rfl rfl ?aP (fun _ hk => hk.elim) ?aF ?aO ?aB ?aS ?aL ?_; (case aP => exact k82_mkM _ _ _ (⟨a1, wrap64 (a1 + 1)⟩ : S82)); (case aB => exact (bl_ HB)); (case aF => exact (fun k_ hk => (.inr (Nat.le_trans (by first | exact HK.out.1 | exact (show Kept w _ (fun k_ => P0_ k_) from by repeat (first | (with_reducible first | exact HK.out | apply Kept.alloc | apply Kept.drewN | apply Kept.drew) | exact HK.out)).1) hk)))); (case aO => exact (ra_ HO0)); (case aS => exact (below_size (bl_ HB))); (case aL => have := LMc15.out; omega); intro v363 w17 ho hb hg hat; rw [← Ny362.out] at ho; refine sh3_ hb (Kept.of_grown (S := (fun k_ => P0_ k_)) hg (by repeat (first | (with_reducible first | exact HK.out | apply Kept.alloc | apply Kept.drewN | apply Kept.drew) | exact HK.out)) (fun k_ e_ => (HO0.out.1 k_ e_))) ho ?_; clear HB HK HO0 ho hb hg hat; intro HB HK HO364))
  go_ret
  exact ⟨_, by first | (rw [hRT_.out]; rfl) | exact er_, ra_ HO364, bl_ HB, by repeat (first | (with_reducible first | exact HK.out | apply Kept.alloc | apply Kept.drewN | apply Kept.drew) | exact HK.out)⟩

/-! ### spec_CutSpans: function 71 -/
def spec_CutSpans.l0 : Nat → List (S82) → List (S82) → List (S82) → Int → Int → Option ((List (S82)))
 | 0, _, _, _, _, _ => none
 | k + 1, x0, x1, x5, x6, x7 => if x7 < x6 then ((spec_InSpans.f k x0 x7).bind fun t369 => (if t369 = true then ((spec_InSpans.f k x1 x7).bind fun t370 => (if t370 = true then (spec_CutSpans.l0 k x0 x1 x5 x6 (wrap64 (x7 + 1))) else ((spec_l4Put.f x5 x7).bind fun t371 => (spec_CutSpans.l0 k x0 x1 t371 x6 (wrap64 (x7 + 1)))))) else (spec_CutSpans.l0 k x0 x1 x5 x6 (wrap64 (x7 + 1))))) else (some x5)
def spec_CutSpans.f (k : Nat) (l0 : List (S82)) (l1 : List (S82)) : Option ((List (S82))) := (spec_l4Last.f k l0).bind fun t368 => (spec_CutSpans.l0 k l0 l1 (([] : List (S82))) t368 0)
theorem spec_CutSpans.mono_l : ∀ k, (∀ y0 y1 y2 y3 y4, LeO (spec_CutSpans.l0 k y0 y1 y2 y3 y4) (spec_CutSpans.l0 (k + 1) y0 y1 y2 y3 y4))
 | 0 => fun _ _ _ _ _ r h => by simp [spec_CutSpans.l0] at h
 | k + 1 => by
  have ih0 := spec_CutSpans.mono_l k
  ·intro y0 y1 y2 y3 y4
   unfold spec_CutSpans.l0
   repeat' first | (with_reducible first | exact ih0 _ _ _ _ _ | exact spec_InSpans.mono _ _ _ | exact spec_l4Last.mono _ _ | exact LeO.refl _ | exact LeO.none _ | refine LeO.ite ?_ ?_ | refine LeO.bind ?_ (fun _ => ?_)) | exact LeO.none _ | refine LeO.ite ?_ ?_ | refine LeO.bind ?_ (fun _ => ?_)
theorem spec_CutSpans.mono : ∀ a0 a1 k, LeO (spec_CutSpans.f k a0 a1) (spec_CutSpans.f (k + 1) a0 a1) := by
 intro a0 a1 k
 have ih0 := spec_CutSpans.mono_l k
 unfold spec_CutSpans.f
 repeat' first | (with_reducible first | exact ih0 _ _ _ _ _ | exact spec_InSpans.mono _ _ _ | exact spec_l4Last.mono _ _ | exact LeO.refl _ | exact LeO.none _ | refine LeO.ite ?_ ?_ | refine LeO.bind ?_ (fun _ => ?_)) | exact LeO.none _ | refine LeO.ite ?_ ?_ | refine LeO.bind ?_ (fun _ => ?_)
set_option maxHeartbeats 8000000 in
set_option maxRecDepth 100000 in
theorem spec_CutSpans.calls (k : Nat) (A0 : Option Addr) (c0 : Nat) (l0 : List (S82)) (A1 : Option Addr) (c1 : Nat) (l1 : List (S82)) (r : List (S82)) (w : World) (hr0 : Kd.C k82 w A0 l0.length l0) (hc0 : l0.length ≤ c0) (hr1 : Kd.C k82 w A1 l1.length l1) (hc1 : l1.length ≤ c1) (h : spec_CutSpans.f k l0 l1 = some r) :
  Calls Try.prog 71 #[.slice A0 l0.length c0, .slice A1 l1.length c1] w fun e w' => ∃ v0_ : Value, e = .returned (v0_) ∧ Kd.R k82 82 w' w.heap.size (fun _ => True) v0_ r ∧ Below w.heap.size w w' := by
 have HR0 := Aside0.mk hr0
 have HC0 := Aside0.mk hc0
 clear hr0 hc0
 have HR1 := Aside0.mk hr1
 have HC1 := Aside0.mk hc1
 clear hr1 hc1
 have HB := Aside0.mk (Below.refl w.heap.size w)
 have H := h
 clear h
 unfold spec_CutSpans.f at H
 replace H : ∃ y_ : List (S82), Aside0 (y_ = (([] : List (S82)))) ∧ ((spec_l4Last.f k l0).bind fun t368 => (spec_CutSpans.l0 k l0 l1 y_ t368 0)) = some r := ⟨_, ⟨rfl⟩, yh_ H⟩
 obtain ⟨y365, Ny365, H⟩ := H
 replace H := bs_ H
 obtain ⟨t368, A3, H⟩ := H
 have H' := Aside0.mk H
 clear H
 go_enter Try.func71, Try.ntmps71
 go_wp2_with (first | ((with_reducible refine gate_dst (N := 8) rfl ?_); refine Kd.R_lit k82 _ 82 ?hg (N := 8) ?hd (xs := ([] : List (S82))) (inner := []) (ok := fun _ => True) (okp := fun _ => True) ?hr ?hp (fun _ hk => hk) trivial (Below.refl _ _) (Nat.le_refl _) (by simp) ?_; (case hd => rfl); (case hg => rfl); (case hr => first | (go_simp; done) | (go_simp; rfl)); (case hp => exact (Reps.none _ _)); intro v366 w4 ho5 hb hg_ hnew_; clear hg_ hnew_; (first | rw [← Ny365.out] at ho5 | (simp only [Int.reduceToNat] at ho5; rw [← Ny365.out] at ho5)); refine sh2_ (Kd.R_lower ho5 (below_size (bl_ HB))) (below_step (bl_ HB) hb) ?_; clear HB hb ho5; intro HO367 HB) | ((with_reducible refine gate_callee (f := 104) rfl ?_); refine gl_ 10 Try.func104 (spec_l4Last.calls k _ _ l0 t368 _ (ck_ HR0 HB) HC0.out A3.out) ?_; rintro e w6 ⟨rfl, hb⟩; refine ⟨_, rfl, sh2_ (Kd.R_below (ra_ HO367) hb) (below_step (bl_ HB) hb) ?_⟩; clear HO367 HB hb; intro HO367 HB))
 go_loopg [5, 7] k (fun kq v5 v7 w' => ∃ (x5_1 : List (S82)) (x7_1 : Int), v7 = .int .i64 x7_1 ∧ Aside0 (spec_CutSpans.l0 kq l0 l1 x5_1 t368 x7_1 = some r) ∧ Aside0 (kq ≤ k) ∧ Aside0 (Kd.R k82 82 w' w.heap.size (fun _ => True) v5 x5_1) ∧ Aside0 (Below w.heap.size w w'))
 case atStart => exact ⟨(y365), (0), (by first | rfl | (simp; done) | (simp [*]; done)), H', ⟨Nat.le_refl _⟩, ⟨ra_ HO367⟩, ⟨bl_ HB⟩⟩
 case round =>
  clear H'
  try clear c1
  try clear p2
  obtain ⟨x5_1, x7_1, rfl, HA, HK1, HO_5, HB⟩ := hrel
  cases gk with
  | zero => exact absurd HA.out (by simp [spec_CutSpans.l0])
  | succ k1 =>
   have H := HA.out
   clear HA
   simp only [spec_CutSpans.l0] at H
   by_cases c7 : x7_1 < t368
   ·rw [if_pos c7] at H
    have c7b0 := decide_eq_true c7
    clear c7
    replace H := bs_ H
    obtain ⟨t369, A8, H⟩ := H
    by_cases c9 : t369 = true
    ·subst c9
     rw [if_pos rfl] at H
     replace H := bs_ H
     obtain ⟨t370, A10, H⟩ := H
     by_cases c11 : t370 = true
     ·subst c11
      rw [if_pos rfl] at H
      have H' := Aside0.mk H
      clear H
      go_wp2_with (first | ((with_reducible refine gate_callee (f := 105) rfl ?_); refine gl_ 18 Try.func105 (spec_InSpans.calls k1 _ _ l0 x7_1 true _ (ck_ HR0 HB) HC0.out A8.out) ?_; rintro e w12 ⟨rfl, hb⟩; refine ⟨_, rfl, sh2_ (Kd.R_below (ra_ HO_5) hb) (below_step (bl_ HB) hb) ?_⟩; clear HO_5 HB hb; intro HO_5 HB) | (go_at_call 105; (with_reducible refine (spec_InSpans.calls k1 _ _ l1 x7_1 true _ ?side1 ?side2 A10.out).mono ?_); (case side1 => exact ck_ HR1 HB); (case side2 => exact HC1.out); rintro e w13 ⟨rfl, hb⟩; refine sh2_ (Kd.R_below (ra_ HO_5) hb) (below_step (bl_ HB) hb) ?_; clear HO_5 HB hb; intro HO_5 HB))
      go_roundg k1
      case measure => have := HK1.out; omega
      case rel => exact ⟨(x5_1), (wrap64 (x7_1 + 1)), (by first | rfl | (simp; done) | (simp [*]; done)), H', ⟨by have := HK1.out; omega⟩, ⟨ra_ HO_5⟩, ⟨bl_ HB⟩⟩
     ·replace c11 := Bool.eq_false_iff.mpr c11
      subst c11
      have H1 : ((spec_l4Put.f x5_1 x7_1).bind fun t371 => (spec_CutSpans.l0 k1 l0 l1 t371 t368 (wrap64 (x7_1 + 1)))) = some r := by rw [if_neg (show ¬ (false = true) by decide)] at H; exact H
      clear H
      have H := H1
      clear H1
      replace H := bs_ H
      obtain ⟨t371, A14, H⟩ := H
      have H' := Aside0.mk H
      clear H
      go_wp2_with (first | ((with_reducible refine gate_callee (f := 105) rfl ?_); refine gl_ 18 Try.func105 (spec_InSpans.calls k1 _ _ l0 x7_1 true _ (ck_ HR0 HB) HC0.out A8.out) ?_; rintro e w15 ⟨rfl, hb⟩; refine ⟨_, rfl, sh2_ (Kd.R_below (ra_ HO_5) hb) (below_step (bl_ HB) hb) ?_⟩; clear HO_5 HB hb; intro HO_5 HB) | (go_at_call 105; (with_reducible refine (spec_InSpans.calls k1 _ _ l1 x7_1 false _ ?side1 ?side2 A10.out).mono ?_); (case side1 => exact ck_ HR1 HB); (case side2 => exact HC1.out); rintro e w16 ⟨rfl, hb⟩; refine sh2_ (Kd.R_below (ra_ HO_5) hb) (below_step (bl_ HB) hb) ?_; clear HO_5 HB hb; intro HO_5 HB; obtain ⟨Ao17, co17, eo17⟩ := Kd.R_slice HO_5.out; subst eo17) | ((with_reducible refine gate_callee (f := 106) rfl ?_); refine goesL_ (some 27) rfl rfl Try.func106 (by kernel_rfl) rfl #[.slice Ao17 x5_1.length co17, .int .i64 x7_1] rfl mp_ ?_; (with_reducible refine (spec_l4Put.calls (fun k_ => some k_ = (.slice Ao17 x5_1.length co17 : Value).ownBlock) (.slice Ao17 x5_1.length co17) x5_1 x7_1 t371 w _ ?side1 ?side2 A14.out).mono ?_); (case side1 => repeat (first | (with_reducible first | exact HB.out | apply below_alloc | apply pw_below_drewN | apply below_drew1) | exact HB.out)); (case side2 => exact Kd.R_tight rfl HO_5.out); rintro e w18 ⟨v372, rfl, ho0, hb, hkp⟩; refine ⟨_, rfl, sh2_ (Kd.R_mono (ok' := fun k_ => True) ho0 (fun k_ hk_ => trivial)) hb ?_⟩; clear HB HO_5 hb hkp ho0; intro HO373 HB))
      go_roundg k1
      case measure => have := HK1.out; omega
      case rel => exact ⟨(t371), (wrap64 (x7_1 + 1)), (by first | rfl | (simp; done) | (simp [*]; done)), H', ⟨by have := HK1.out; omega⟩, ⟨ra_ HO373⟩, ⟨bl_ HB⟩⟩
    ·replace c9 := Bool.eq_false_iff.mpr c9
     subst c9
     have H1 : (spec_CutSpans.l0 k1 l0 l1 x5_1 t368 (wrap64 (x7_1 + 1))) = some r := by rw [if_neg (show ¬ (false = true) by decide)] at H; exact H
     clear H
     have H := H1
     clear H1
     have H' := Aside0.mk H
     clear H
     go_wp2_with (first | ((with_reducible refine gate_callee (f := 105) rfl ?_); refine gl_ 18 Try.func105 (spec_InSpans.calls k1 _ _ l0 x7_1 false _ (ck_ HR0 HB) HC0.out A8.out) ?_; rintro e w19 ⟨rfl, hb⟩; refine ⟨_, rfl, sh2_ (Kd.R_below (ra_ HO_5) hb) (below_step (bl_ HB) hb) ?_⟩; clear HO_5 HB hb; intro HO_5 HB))
     go_roundg k1
     case measure => have := HK1.out; omega
     case rel => exact ⟨(x5_1), (wrap64 (x7_1 + 1)), (by first | rfl | (simp; done) | (simp [*]; done)), H', ⟨by have := HK1.out; omega⟩, ⟨ra_ HO_5⟩, ⟨bl_ HB⟩⟩
   ·rw [if_neg c7] at H
    have c7b0 := decide_eq_false c7
    clear c7
    obtain rfl := Option.some.inj H
    go_wp2
    go_ret
    exact ⟨_, by first | (rw [hRT_.out]; rfl) | exact er_, ra_ HO_5, bl_ HB⟩

end Go.Proofs.Ytopbkdcicidajaa.PFnWeather
