-- Written by a program of this session for this claim (the kit's printer with changes).
import Derived.Test.YtcjfalmhohcifaaQFnExactCutCloudsx0
import Derived.Test.YtcjfalmhohcifaaQFnExactCutCloudsx1
namespace Go.Proofs.Ytcjfalmhohcifaa.PFnExactCutClouds
open Go.RowKit Go.Proofs.YtcjfalmhohcifaaW.PrintWords Go.Proofs.YtcjfalmhohcifaaW.PrintLast Go.Proofs.YtcjfalmhohcifaaW.PrintMore
attribute [local go_sem] max2_int min2_int max_two min_two max_three min_three max_four min_four   -- for this text's walks alone
set_option linter.unusedVariables false
set_option linter.unusedSimpArgs false

/-! ### spec_CutClouds: function 20 -/
mutual
def spec_CutClouds.l0 : Nat → List (S82) → List (S87) → List (S82) → Int → Option ((List (S82)))
 | 0, _, _, _, _ => none
 | k + 1, x0, x1, x5, x6 => if x6 < (x0.length : Int) then (if 0 ≤ x6 then ((spec_CloudSpans.f k x1 ((rd_T82 x0 x6).f0)).bind fun t155 => ((spec_CutSpans.f k (([(⟨(rd_T82 x0 x6).f2, (rd_T82 x0 x6).f3⟩ : S73)] : List (S73))) t155).bind fun t158 => ((spec_CloudSpans.f k x1 ((rd_T82 x0 x6).f1)).bind fun t161 => ((spec_CutSpans.f k t158 t161).bind fun t164 => (spec_CutClouds.l1 k x0 x1 x5 x6 t164 0 ((rd_T82 x0 x6).f0) ((rd_T82 x0 x6).f1) ((rd_T82 x0 x6).f2) ((rd_T82 x0 x6).f3)))))) else (none)) else (some x5)
def spec_CutClouds.l1 : Nat → List (S82) → List (S87) → List (S82) → Int → List (S73) → Int → Int → Int → Int → Int → Option ((List (S82)))
 | 0, _, _, _, _, _, _, _, _, _, _ => none
 | k + 1, x0, x1, x5, x6, x8, x9, x152000, x152001, x152002, x152003 => if x9 < (x8.length : Int) then (if 0 ≤ x9 then (if x5.length < 4398046511104 then (spec_CutClouds.l1 k x0 x1 (x5 ++ [(⟨x152000, x152001, (rd_T73 x8 x9).f0, (rd_T73 x8 x9).f1⟩ : S82)]) x6 x8 (wrap64 (x9 + 1)) x152000 x152001 x152002 x152003) else (none)) else (none)) else (spec_CutClouds.l0 k x0 x1 x5 (wrap64 (x6 + 1)))
end
def spec_CutClouds.f (k : Nat) (l0 : List (S82)) (l1 : List (S87)) : Option ((List (S82))) := spec_CutClouds.l0 k l0 l1 (([] : List (S82))) 0
theorem spec_CutClouds.mono_l : ∀ k, (∀ y0 y1 y2 y3, LeO (spec_CutClouds.l0 k y0 y1 y2 y3) (spec_CutClouds.l0 (k + 1) y0 y1 y2 y3)) ∧ (∀ y0 y1 y2 y3 y4 y5 y6 y7 y8 y9, LeO (spec_CutClouds.l1 k y0 y1 y2 y3 y4 y5 y6 y7 y8 y9) (spec_CutClouds.l1 (k + 1) y0 y1 y2 y3 y4 y5 y6 y7 y8 y9))
 | 0 => ⟨fun _ _ _ _ r h => by simp [spec_CutClouds.l0] at h, fun _ _ _ _ _ _ _ _ _ _ r h => by simp [spec_CutClouds.l1] at h⟩
 | k + 1 => by
  obtain ⟨ih0, ih1⟩ := spec_CutClouds.mono_l k
  refine ⟨?_, ?_⟩
  ·intro y0 y1 y2 y3
   unfold spec_CutClouds.l0
   repeat' first | (with_reducible first | exact ih0 _ _ _ _ | exact ih1 _ _ _ _ _ _ _ _ _ _ | exact spec_CloudSpans.mono _ _ _ | exact spec_CutSpans.mono _ _ _ | exact LeO.refl _ | exact LeO.none _ | refine LeO.ite ?_ ?_ | refine LeO.bind ?_ (fun _ => ?_)) | exact LeO.none _ | refine LeO.ite ?_ ?_ | refine LeO.bind ?_ (fun _ => ?_)
  ·intro y0 y1 y2 y3 y4 y5 y6 y7 y8 y9
   unfold spec_CutClouds.l1
   repeat' first | (with_reducible first | exact ih0 _ _ _ _ | exact ih1 _ _ _ _ _ _ _ _ _ _ | exact spec_CloudSpans.mono _ _ _ | exact spec_CutSpans.mono _ _ _ | exact LeO.refl _ | exact LeO.none _ | refine LeO.ite ?_ ?_ | refine LeO.bind ?_ (fun _ => ?_)) | exact LeO.none _ | refine LeO.ite ?_ ?_ | refine LeO.bind ?_ (fun _ => ?_)
theorem spec_CutClouds.mono : ∀ a0 a1 k, LeO (spec_CutClouds.f k a0 a1) (spec_CutClouds.f (k + 1) a0 a1) := by
 intro a0 a1 k
 obtain ⟨ih0, ih1⟩ := spec_CutClouds.mono_l k
 unfold spec_CutClouds.f
 repeat' first | (with_reducible first | exact ih0 _ _ _ _ | exact ih1 _ _ _ _ _ _ _ _ _ _ | exact spec_CloudSpans.mono _ _ _ | exact spec_CutSpans.mono _ _ _ | exact LeO.refl _ | exact LeO.none _ | refine LeO.ite ?_ ?_ | refine LeO.bind ?_ (fun _ => ?_)) | exact LeO.none _ | refine LeO.ite ?_ ?_ | refine LeO.bind ?_ (fun _ => ?_)
def spec_CutClouds.T6 : Bool × List (List Nat × List Nat) := (true, [([], []), ([0], [0]), ([], []), ([2], [2]), ([1, 3], [1, 3]), ([4], [4]), ([], []), ([], []), ([7], [7]), ([6, 8], [6, 8]), ([5, 9, 9], [5, 9]), ([10, 10, 0, 1, 2, 3, 4, 5, 6, 7, 8, 9, 10], [10])])
def spec_CutClouds.B6 : List Nat := [0, 1, 0, 4, 15, 31, 0, 0, 128, 448, 1023, 2047]
theorem spec_CutClouds.tab6 : rtab .any (opsOf Try.f20 6) = spec_CutClouds.T6 := by kernel_rfl
theorem spec_CutClouds.bits6 : waitsOk spec_CutClouds.T6.2 spec_CutClouds.B6 = true := by kernel_rfl
def spec_CutClouds.T11 : Bool × List (List Nat × List Nat) := (true, [([], []), ([], []), ([1], [1]), ([], []), ([3], [3]), ([], []), ([], []), ([5, 6], [5, 6]), ([7], [7]), ([8], [8]), ([], []), ([], []), ([10, 11], [10, 11]), ([12], [12]), ([13], [13]), ([2, 4, 9, 14], [2, 4, 9, 14]), ([15], [15]), ([0, 16], [0, 16]), ([17, 17, 0, 1, 2, 3, 4, 5, 6, 7, 8, 9, 10, 11, 12, 13, 14, 15, 16, 17], [0, 17])])
def spec_CutClouds.B11 : List Nat := [0, 0, 2, 0, 8, 0, 0, 96, 224, 480, 0, 0, 3072, 7168, 15360, 32766, 65534, 131071, 262143]
theorem spec_CutClouds.tab11 : rtab .any (opsOf Try.f20 11) = spec_CutClouds.T11 := by kernel_rfl
theorem spec_CutClouds.bits11 : waitsOk spec_CutClouds.T11.2 spec_CutClouds.B11 = true := by kernel_rfl
set_option maxHeartbeats 8000000 in
set_option maxRecDepth 100000 in
theorem spec_CutClouds.calls (k : Nat) (A0 : Option Addr) (c0 : Nat) (l0 : List (S82)) (A1 : Option Addr) (c1 : Nat) (l1 : List (S87)) (r : List (S82)) (w : World) (hr0 : Kd.C k82 w A0 l0.length l0) (hc0 : l0.length ≤ c0) (hr1 : Kd.C k87 w A1 l1.length l1) (hc1 : l1.length ≤ c1) (h : spec_CutClouds.f k l0 l1 = some r) :
  Calls Try.prog 20 #[.slice A0 l0.length c0, .slice A1 l1.length c1] w fun e w' => ∃ v0_ : Value, e = .returned (v0_) ∧ Kd.R k82 82 w' w.heap.size (fun _ => True) v0_ r ∧ Below w.heap.size w w' := by
 have hu82 := Try.underlying82
 have hu73 := Try.underlying73
 have HR0 := Aside0.mk hr0
 have HC0 := Aside0.mk hc0
 clear hr0 hc0
 have HR1 := Aside0.mk hr1
 have HC1 := Aside0.mk hc1
 clear hr1 hc1
 have HB := Aside0.mk (Below.refl w.heap.size w)
 have H := h
 clear h
 unfold spec_CutClouds.f at H
 replace H : ∃ y_ : List (S82), Aside0 (y_ = (([] : List (S82)))) ∧ (spec_CutClouds.l0 k l0 l1 y_ 0) = some r := ⟨_, ⟨rfl⟩, yh_ H⟩
 obtain ⟨y147, Ny147, H⟩ := H
 have H' := Aside0.mk H
 clear H
 go_enter Try.func20, Try.ntmps20
 go_wp2_with (first | ((with_reducible refine gate_dst (N := 10) rfl ?_); refine Kd.R_lit k82 _ 82 ?hg (N := 10) ?hd (xs := ([] : List (S82))) (inner := []) (ok := fun _ => True) (okp := fun _ => True) ?hr ?hp (fun _ hk => hk) trivial (Below.refl _ _) (Nat.le_refl _) (by simp) ?_; (case hd => rfl); (case hg => rfl); (case hr => first | (go_simp; done) | (go_simp; rfl)); (case hp => exact (Reps.none _ _)); intro v148 w3 ho4 hb hg_ hnew_; clear hg_ hnew_; (first | rw [← Ny147.out] at ho4 | (simp only [Int.reduceToNat] at ho4; rw [← Ny147.out] at ho4)); refine sh2_ (Kd.R_lower ho4 (below_size (bl_ HB))) (below_step (bl_ HB) hb) ?_; clear HB hb ho4; intro HO149 HB))
 go_loopg [5, 6] k (fun kq v5 v6 w' => ∃ (x5_1 : List (S82)) (x6_1 : Int), v6 = .int .i64 x6_1 ∧ Aside0 (spec_CutClouds.l0 kq l0 l1 x5_1 x6_1 = some r) ∧ Aside0 (kq ≤ k) ∧ Aside0 (Kd.R k82 82 w' w.heap.size (fun _ => True) v5 x5_1) ∧ Aside0 (Below w.heap.size w w'))
 case atStart => exact ⟨(y147), (0), (by first | rfl | (simp; done) | (simp [*]; done)), H', ⟨Nat.le_refl _⟩, ⟨ra_ HO149⟩, ⟨bl_ HB⟩⟩
 case round =>
  clear H'
  try clear c1
  try clear c2
  try clear p2
  obtain ⟨x5_1, x6_1, rfl, HA, HK1, HO_5, HB⟩ := hrel
  cases gk with
  | zero => exact absurd HA.out (by simp [spec_CutClouds.l0])
  | succ k1 =>
   have H := HA.out
   clear HA
   simp only [spec_CutClouds.l0] at H
   by_cases c5 : x6_1 < (l0.length : Int)
   ·rw [if_pos c5] at H
    have c5b0 := decide_eq_true c5
    clear c5
    replace H := ifn_ H
    obtain ⟨c6, H⟩ := H
    have c6b0 := decide_eq_true c6
    clear c6
    replace H : ∃ y_ : List (S73), Aside0 (y_ = (([(⟨(rd_T82 l0 x6_1).f2, (rd_T82 l0 x6_1).f3⟩ : S73)] : List (S73)))) ∧ ((spec_CloudSpans.f k1 l1 ((rd_T82 l0 x6_1).f0)).bind fun t155 => ((spec_CutSpans.f k1 y_ t155).bind fun t158 => ((spec_CloudSpans.f k1 l1 ((rd_T82 l0 x6_1).f1)).bind fun t161 => ((spec_CutSpans.f k1 t158 t161).bind fun t164 => (spec_CutClouds.l1 k1 l0 l1 x5_1 x6_1 t164 0 ((rd_T82 l0 x6_1).f0) ((rd_T82 l0 x6_1).f1) ((rd_T82 l0 x6_1).f2) ((rd_T82 l0 x6_1).f3)))))) = some r := ⟨_, ⟨rfl⟩, yh_ H⟩
    obtain ⟨y152, Ny152, H⟩ := H
    replace H := bs_ H
    obtain ⟨t155, A7, H⟩ := H
    replace H := bs_ H
    obtain ⟨t158, A8, H⟩ := H
    replace H := bs_ H
    obtain ⟨t161, A9, H⟩ := H
    replace H := bs_ H
    obtain ⟨t164, A10, H⟩ := H
    have H' := Aside0.mk H
    clear H
    have p150 : 0 ≤ (x6_1 : Int) := od_
    have q150 : x6_1 < (l0.length : Int) := od_
    obtain ⟨ad150, e150, hx150_0, hx150_1, hx150_2, hx150_3⟩ := at_T82 HR0.out x6_1 p150 q150
    cases e150
    replace hx150_0 := hbc_ HB hx150_0
    replace hx150_1 := hbc_ HB hx150_1
    replace hx150_2 := hbc_ HB hx150_2
    replace hx150_3 := hbc_ HB hx150_3
    replace p150 := eq_true p150
    replace q150 := eq_true q150
    try go_wp2_with (first | ((with_reducible refine gd_ 7 ?_); refine bx_ 7 82 #[.int .i64 0, .int .i64 0, .int .i64 0, .int .i64 0] ?_; intro gb151 hg w11 hbox hb; refine sh5_ (Kd.R_below (Kd.R_elderB (ra_ HO_5) gb151 (Nat.le_of_eq hg.symm)) hb) (below_step (bl_ HB) hb) hbox (ge_ hg (bl_ HB)) (ge_ hg (bl_ HB)) ?_; clear HO_5 HB hb hbox hg; intro HO_5 HB BK151 GW151 GE151; have hcz12 := cf4_ BK151))
    have n0_ : Aside0 (Kd.R k82 82 ((((w11.setCell ⟨gb151, 0, none⟩ (.int .i64 ((rd_T82 l0 x6_1).f0))).setCell ⟨gb151, 1, none⟩ (.int .i64 ((rd_T82 l0 x6_1).f1))).setCell ⟨gb151, 2, none⟩ (.int .i64 ((rd_T82 l0 x6_1).f2))).setCell ⟨gb151, 3, none⟩ (.int .i64 ((rd_T82 l0 x6_1).f3))) w.heap.size (fun k_ => k_ ≠ gb151) u5 x5_1) := ⟨by (with_reducible repeat (first | apply Kd.R_alloc | apply Kd.R_drewN | apply Kd.R_drew)); exact Kd.R_mono (Kd.R_far (p := ⟨gb151, 3, none⟩) (Kd.R_far (p := ⟨gb151, 2, none⟩) (Kd.R_far (p := ⟨gb151, 1, none⟩) (Kd.R_far (p := ⟨gb151, 0, none⟩) (Kd.R_mono HO_5.out (fun k_ hk => (⟨hk, hk.2⟩ : _ ∧ k_ ≠ gb151))) (fun _ hk => hk.2) (.int .i64 ((rd_T82 l0 x6_1).f0))) (fun _ hk => hk.2) (.int .i64 ((rd_T82 l0 x6_1).f1))) (fun _ hk => hk.2) (.int .i64 ((rd_T82 l0 x6_1).f2))) (fun _ hk => hk.2) (.int .i64 ((rd_T82 l0 x6_1).f3))) (fun _ hk => hk.1.2)⟩
    have n1_ : Aside0 (((((w11.setCell ⟨gb151, 0, none⟩ (.int .i64 ((rd_T82 l0 x6_1).f0))).setCell ⟨gb151, 1, none⟩ (.int .i64 ((rd_T82 l0 x6_1).f1))).setCell ⟨gb151, 2, none⟩ (.int .i64 ((rd_T82 l0 x6_1).f2))).setCell ⟨gb151, 3, none⟩ (.int .i64 ((rd_T82 l0 x6_1).f3))).heap[gb151]? = some (.cells #[.int .i64 ((rd_T82 l0 x6_1).f0), .int .i64 ((rd_T82 l0 x6_1).f1), .int .i64 ((rd_T82 l0 x6_1).f2), .int .i64 ((rd_T82 l0 x6_1).f3)] 82 (0, 0))) := ⟨by (with_reducible repeat (first | refine blk_drewN ?_ _ | refine blk_drew ?_ | refine blk_alloc ?_ _)); refine blk_put (cs := #[.int .i64 ((rd_T82 l0 x6_1).f0), .int .i64 ((rd_T82 l0 x6_1).f1), .int .i64 ((rd_T82 l0 x6_1).f2), .int .i64 0]) ?_ 3 _ rfl; (with_reducible repeat (first | refine blk_drewN ?_ _ | refine blk_drew ?_ | refine blk_alloc ?_ _)); refine blk_put (cs := #[.int .i64 ((rd_T82 l0 x6_1).f0), .int .i64 ((rd_T82 l0 x6_1).f1), .int .i64 0, .int .i64 0]) ?_ 2 _ rfl; (with_reducible repeat (first | refine blk_drewN ?_ _ | refine blk_drew ?_ | refine blk_alloc ?_ _)); refine blk_put (cs := #[.int .i64 ((rd_T82 l0 x6_1).f0), .int .i64 0, .int .i64 0, .int .i64 0]) ?_ 1 _ rfl; (with_reducible repeat (first | refine blk_drewN ?_ _ | refine blk_drew ?_ | refine blk_alloc ?_ _)); refine blk_put (cs := #[.int .i64 0, .int .i64 0, .int .i64 0, .int .i64 0]) ?_ 0 _ rfl; (with_reducible repeat (first | refine blk_drewN ?_ _ | refine blk_drew ?_ | refine blk_alloc ?_ _)); exact BK151.out⟩
    have n2_ : Aside0 (Below w.heap.size w ((((w11.setCell ⟨gb151, 0, none⟩ (.int .i64 ((rd_T82 l0 x6_1).f0))).setCell ⟨gb151, 1, none⟩ (.int .i64 ((rd_T82 l0 x6_1).f1))).setCell ⟨gb151, 2, none⟩ (.int .i64 ((rd_T82 l0 x6_1).f2))).setCell ⟨gb151, 3, none⟩ (.int .i64 ((rd_T82 l0 x6_1).f3)))) := ⟨bl1_ HB GE151⟩
    (try clear HO_5)
    (try clear BK151)
    (try clear HB)
    generalize ((((w11.setCell ⟨gb151, 0, none⟩ (.int .i64 ((rd_T82 l0 x6_1).f0))).setCell ⟨gb151, 1, none⟩ (.int .i64 ((rd_T82 l0 x6_1).f1))).setCell ⟨gb151, 2, none⟩ (.int .i64 ((rd_T82 l0 x6_1).f2))).setCell ⟨gb151, 3, none⟩ (.int .i64 ((rd_T82 l0 x6_1).f3))) = w13 at n0_ n1_ n2_ ⊢
    have HO_5 := n0_
    have BK151 := n1_
    have HB := n2_
    clear n0_ n1_ n2_
    refine sh3_ (Kd.R_drew HO_5.out) (blk_drew BK151.out) (below_drew1 HB.out) ?_
    clear HO_5 BK151 HB
    intro HO_5 BK151 HB
    refine start_ (n := 12) (S := fun w' => True) (ds := []) #[false, false, false, false, false, false, false, false, false, false, false, false] (by kernel_rfl) rfl rfl trivial (fun hHeld => ?_); refine with_tabW spec_CutClouds.tab6 spec_CutClouds.bits6 (fun HT_ HW_ => ?_)
    generalize w13.drew = w14 at HO_5 BK151 HB hHeld ⊢
    refine pur_ 0 #[true, false, false, false, false, false, false, false, false, false, false, false] (some 21) HT_ ?_
    refine pur_ 2 #[true, false, true, false, false, false, false, false, false, false, false, false] (some 23) HT_ ?_
    refine pur_ 6 #[true, false, true, false, false, false, true, false, false, false, false, false] (some 27) HT_ ?_
    refine pur_ 7 #[true, false, true, false, false, false, true, true, false, false, false, false] (some 28) HT_ ?_
    refine inv_at [1, 3, 4, 5, 8, 9, 10, 11] (fun a0_ b a w' => ∃ (v153 : Value) (v156 : Value) (v159 : Value) (m11_ : Value), a = putSel a0_ b [(1, 22, .int .i64 ((rd_T82 l0 x6_1).f2)), (3, 24, .int .i64 ((rd_T82 l0 x6_1).f3)), (4, 25, .agg #[.int .i64 ((rd_T82 l0 x6_1).f2), .int .i64 ((rd_T82 l0 x6_1).f3)]), (5, 26, v153), (8, 29, .int .i64 ((rd_T82 l0 x6_1).f0)), (9, 30, v156), (10, 31, v159), (11, 8, m11_)] ∧ (Kd.R k82 82 w' w.heap.size (fun k_ => k_ ≠ gb151) u5 x5_1) ∧ (w'.heap[gb151]? = some (.cells #[.int .i64 ((rd_T82 l0 x6_1).f0), .int .i64 ((rd_T82 l0 x6_1).f1), .int .i64 ((rd_T82 l0 x6_1).f2), .int .i64 ((rd_T82 l0 x6_1).f3)] 82 (0, 0))) ∧ (Below w.heap.size w w') ∧ (b 5 = true → Kd.R k73 73 w' w.heap.size (fun _ => True) v153 y152) ∧ (b 9 = true → Kd.R k73 73 w' w.heap.size (fun _ => True) v156 t155) ∧ (b 10 = true → Kd.R k73 73 w' w.heap.size (fun _ => True) v159 t158) ∧ (b 11 = true → (m11_ : Value) = v159)) HT_.out HW_.out (by kernel_rfl) (by kernel_rfl) ?_ ?_ ?_
    ·exact ⟨.bool false, .bool false, .bool false, .bool false, by simp only [putSel, Bool.false_eq_true, if_false], HO_5.out, BK151.out, HB.out, fun h_ => absurd h_ (by decide), fun h_ => absurd h_ (by decide), fun h_ => absurd h_ (by decide), fun h_ => absurd h_ (by decide)⟩
    ·skip
     clear BK151 HB HO_5
     refine steps_cons ?_ ?_
     ·rintro b a w' ⟨v153, v156, v159, m11_, ha, Q_HO_5, Q_BK151, Q_HB, Q_HO154, Q_HO157, Q_HO160, Q_X11_⟩ hb_ hon hoff
      refine ⟨_, rfl, fun K hK => ?_⟩
      have e21 : a.tmps[21]? = some (.pointer (some ⟨gb151, 2, none⟩)) := by rw [ha]; exact (putSel_off rfl).trans rfl
      replace ha := Aside0.mk ha
      have HO_5 := Aside0.mk Q_HO_5
      have BK151 := Aside0.mk Q_BK151
      have HB := Aside0.mk Q_HB
      have hc0_ : w'.cell? ⟨gb151, 0, none⟩ = some (.int .i64 ((rd_T82 l0 x6_1).f0)) := bc_ BK151 0 rfl
      have hc1_ : w'.cell? ⟨gb151, 1, none⟩ = some (.int .i64 ((rd_T82 l0 x6_1).f1)) := bc_ BK151 1 rfl
      have hc2_ : w'.cell? ⟨gb151, 2, none⟩ = some (.int .i64 ((rd_T82 l0 x6_1).f2)) := bc_ BK151 2 rfl
      have hc3_ : w'.cell? ⟨gb151, 3, none⟩ = some (.int .i64 ((rd_T82 l0 x6_1).f3)) := bc_ BK151 3 rfl
      refine value_ (w1 := w') (v := .int .i64 ((rd_T82 l0 x6_1).f2)) (by rfl) rfl ?_ ?_
      ·go_simp
       (try simp only [i64_w])
       try rfl
      refine hK.out _ _ ⟨v153, v156, v159, m11_, (by rw [ha.out]; exact putSel_upk 0 hb_ rfl rfl rfl), Q_HO_5, Q_BK151, Q_HB, fun h0_ => absurd ((hoff 5 (by kernel_rfl)).symm.trans h0_) (by decide), Q_HO157, fun h0_ => absurd ((hoff 10 (by kernel_rfl)).symm.trans h0_) (by decide), fun h0_ => absurd ((hoff 11 (by kernel_rfl)).symm.trans h0_) (by decide)⟩
     refine steps_cons ?_ ?_
     ·rintro b a w' ⟨v153, v156, v159, m11_, ha, Q_HO_5, Q_BK151, Q_HB, Q_HO154, Q_HO157, Q_HO160, Q_X11_⟩ hb_ hon hoff
      refine ⟨_, rfl, fun K hK => ?_⟩
      have e23 : a.tmps[23]? = some (.pointer (some ⟨gb151, 3, none⟩)) := by rw [ha]; exact (putSel_off rfl).trans rfl
      replace ha := Aside0.mk ha
      have HO_5 := Aside0.mk Q_HO_5
      have BK151 := Aside0.mk Q_BK151
      have HB := Aside0.mk Q_HB
      have hc0_ : w'.cell? ⟨gb151, 0, none⟩ = some (.int .i64 ((rd_T82 l0 x6_1).f0)) := bc_ BK151 0 rfl
      have hc1_ : w'.cell? ⟨gb151, 1, none⟩ = some (.int .i64 ((rd_T82 l0 x6_1).f1)) := bc_ BK151 1 rfl
      have hc2_ : w'.cell? ⟨gb151, 2, none⟩ = some (.int .i64 ((rd_T82 l0 x6_1).f2)) := bc_ BK151 2 rfl
      have hc3_ : w'.cell? ⟨gb151, 3, none⟩ = some (.int .i64 ((rd_T82 l0 x6_1).f3)) := bc_ BK151 3 rfl
      refine value_ (w1 := w') (v := .int .i64 ((rd_T82 l0 x6_1).f3)) (by rfl) rfl ?_ ?_
      ·go_simp
       (try simp only [i64_w])
       try rfl
      refine hK.out _ _ ⟨v153, v156, v159, m11_, (by rw [ha.out]; exact putSel_upk 1 hb_ rfl rfl rfl), Q_HO_5, Q_BK151, Q_HB, fun h0_ => absurd ((hoff 5 (by kernel_rfl)).symm.trans h0_) (by decide), Q_HO157, fun h0_ => absurd ((hoff 10 (by kernel_rfl)).symm.trans h0_) (by decide), fun h0_ => absurd ((hoff 11 (by kernel_rfl)).symm.trans h0_) (by decide)⟩
     refine steps_cons ?_ ?_
     ·rintro b a w' ⟨v153, v156, v159, m11_, ha, Q_HO_5, Q_BK151, Q_HB, Q_HO154, Q_HO157, Q_HO160, Q_X11_⟩ hb_ hon hoff
      refine ⟨_, rfl, fun K hK => ?_⟩
      have e22 : a.tmps[22]? = some (.int .i64 ((rd_T82 l0 x6_1).f2)) := by rw [ha]; exact putSel_on (e := (1, 22, .int .i64 ((rd_T82 l0 x6_1).f2))) 0 rfl rfl (hon 1 (by kernel_rfl)) rfl
      have e24 : a.tmps[24]? = some (.int .i64 ((rd_T82 l0 x6_1).f3)) := by rw [ha]; exact putSel_on (e := (3, 24, .int .i64 ((rd_T82 l0 x6_1).f3))) 1 rfl rfl (hon 3 (by kernel_rfl)) rfl
      replace ha := Aside0.mk ha
      have HO_5 := Aside0.mk Q_HO_5
      have BK151 := Aside0.mk Q_BK151
      have HB := Aside0.mk Q_HB
      refine value_ (w1 := w') (v := .agg #[.int .i64 ((rd_T82 l0 x6_1).f2), .int .i64 ((rd_T82 l0 x6_1).f3)]) (by rfl) rfl ?_ ?_
      ·go_simp
       (try simp only [i64_w])
       try rfl
      refine hK.out _ _ ⟨v153, v156, v159, m11_, (by rw [ha.out]; exact putSel_upk 2 hb_ rfl rfl rfl), Q_HO_5, Q_BK151, Q_HB, fun h0_ => absurd ((hoff 5 (by kernel_rfl)).symm.trans h0_) (by decide), Q_HO157, fun h0_ => absurd ((hoff 10 (by kernel_rfl)).symm.trans h0_) (by decide), fun h0_ => absurd ((hoff 11 (by kernel_rfl)).symm.trans h0_) (by decide)⟩
     refine steps_cons ?_ ?_
     ·rintro b a w' ⟨v153, v156, v159, m11_, ha, Q_HO_5, Q_BK151, Q_HB, Q_HO154, Q_HO157, Q_HO160, Q_X11_⟩ hb_ hon hoff
      refine ⟨_, rfl, fun K hK => ?_⟩
      have e25 : a.tmps[25]? = some (.agg #[.int .i64 ((rd_T82 l0 x6_1).f2), .int .i64 ((rd_T82 l0 x6_1).f3)]) := by rw [ha]; exact putSel_on (e := (4, 25, .agg #[.int .i64 ((rd_T82 l0 x6_1).f2), .int .i64 ((rd_T82 l0 x6_1).f3)])) 2 rfl rfl (hon 4 (by kernel_rfl)) rfl
      replace ha := Aside0.mk ha
      have HO_5 := Aside0.mk Q_HO_5
      have BK151 := Aside0.mk Q_BK151
      have HB := Aside0.mk Q_HB
      refine Kd.R_lit_step k73 _ 73 ?hg (N := 26) ?hd (xs := ([(⟨(rd_T82 l0 x6_1).f2, (rd_T82 l0 x6_1).f3⟩ : S73)] : List (S73))) (inner := [.int .i64 ((rd_T82 l0 x6_1).f2), .int .i64 ((rd_T82 l0 x6_1).f3)]) (ok := fun _ => True) (okp := fun _ => True) ?hr ?hp (fun _ hk => hk) trivial (Below.refl _ _) (Nat.le_refl _) (by simp) ?_; (case hd => rfl); (case hg => rfl); (case hr => first | (go_simp; done) | (go_simp; rfl)); (case hp => exact (Reps.c2 (show Kd.M k73 _ _ _ (⟨(rd_T82 l0 x6_1).f2, (rd_T82 l0 x6_1).f3⟩ : S73) [.int .i64 ((rd_T82 l0 x6_1).f2), .int .i64 ((rd_T82 l0 x6_1).f3)] from (k73_mkM _ _ _ (⟨(rd_T82 l0 x6_1).f2, (rd_T82 l0 x6_1).f3⟩ : S73) )) (Reps.none _ _)))
      intro v153 w15 ho16 hb hg_ hnew_
      clear hg_ hnew_
      (first | rw [← Ny152.out] at ho16 | (simp only [Int.reduceToNat] at ho16; rw [← Ny152.out] at ho16))
      have n0_ := Aside0.mk (Kd.R_below (ra_ HO_5) hb)
      have n1_ := Aside0.mk (Kd.R_lower ho16 (below_size (bl1_ HB GE151)))
      have n2_ := Aside0.mk (blk_below (bk_ BK151) hb)
      have n3_ := Aside0.mk (below_step (bl1_ HB GE151) hb)
      have z_HO157 := fun (h0_ : b 9 = true) => (show Kd.R k73 73 w15 w.heap.size (fun _ => True) v156 t155 from by first | exact (Kd.R_elder' (by (with_reducible repeat (first | apply Kd.R_alloc | apply Kd.R_drewN | apply Kd.R_drew)); exact (Q_HO157 h0_)) (Kd.R_base ho16) hb) | exact Kd.R_mono (Kd.R_elder' (by (with_reducible repeat (first | apply Kd.R_alloc | apply Kd.R_drewN | apply Kd.R_drew)); exact (Q_HO157 h0_)) (Kd.R_base ho16) hb) (fun _ h_ => by first | trivial | exact h_ | exact h_.1))
      clear HO_5
      clear BK151
      clear HB
      have HO_5 := n0_
      have HO154 := n1_
      have BK151 := n2_
      have HB := n3_
      clear n0_ n1_ n2_ n3_
      clear hb ho16
      refine hK.out _ _ ⟨v153, v156, v159, m11_, (by rw [ha.out]; exact putSel_upk 3 hb_ rfl rfl rfl), (ra_ HO_5), (bk_ BK151), (bl1_ HB GE151), fun _ => (ro_ HO154), z_HO157, fun h0_ => absurd ((hoff 10 (by kernel_rfl)).symm.trans h0_) (by decide), fun h0_ => absurd ((hoff 11 (by kernel_rfl)).symm.trans h0_) (by decide)⟩
     refine steps_cons ?_ ?_
     ·rintro b a w' ⟨v153, v156, v159, m11_, ha, Q_HO_5, Q_BK151, Q_HB, Q_HO154, Q_HO157, Q_HO160, Q_X11_⟩ hb_ hon hoff
      refine ⟨_, rfl, fun K hK => ?_⟩
      have e28 : a.tmps[28]? = some (.pointer (some ⟨gb151, 0, none⟩)) := by rw [ha]; exact (putSel_off rfl).trans rfl
      replace ha := Aside0.mk ha
      have HO_5 := Aside0.mk Q_HO_5
      have BK151 := Aside0.mk Q_BK151
      have HB := Aside0.mk Q_HB
      have hc0_ : w'.cell? ⟨gb151, 0, none⟩ = some (.int .i64 ((rd_T82 l0 x6_1).f0)) := bc_ BK151 0 rfl
      have hc1_ : w'.cell? ⟨gb151, 1, none⟩ = some (.int .i64 ((rd_T82 l0 x6_1).f1)) := bc_ BK151 1 rfl
      have hc2_ : w'.cell? ⟨gb151, 2, none⟩ = some (.int .i64 ((rd_T82 l0 x6_1).f2)) := bc_ BK151 2 rfl
      have hc3_ : w'.cell? ⟨gb151, 3, none⟩ = some (.int .i64 ((rd_T82 l0 x6_1).f3)) := bc_ BK151 3 rfl
      refine value_ (w1 := w') (v := .int .i64 ((rd_T82 l0 x6_1).f0)) (by rfl) rfl ?_ ?_
      ·go_simp
       (try simp only [i64_w])
       try rfl
      refine hK.out _ _ ⟨v153, v156, v159, m11_, (by rw [ha.out]; exact putSel_upk 4 hb_ rfl rfl rfl), Q_HO_5, Q_BK151, Q_HB, Q_HO154, fun h0_ => absurd ((hoff 9 (by kernel_rfl)).symm.trans h0_) (by decide), fun h0_ => absurd ((hoff 10 (by kernel_rfl)).symm.trans h0_) (by decide), fun h0_ => absurd ((hoff 11 (by kernel_rfl)).symm.trans h0_) (by decide)⟩
     refine steps_cons ?_ ?_
     ·rintro b a w' ⟨v153, v156, v159, m11_, ha, Q_HO_5, Q_BK151, Q_HB, Q_HO154, Q_HO157, Q_HO160, Q_X11_⟩ hb_ hon hoff
      refine ⟨_, rfl, fun K hK => ?_⟩
      have e27 : a.tmps[27]? = some (.slice A1 l1.length c1) := by rw [ha]; exact (putSel_off rfl).trans rfl
      have e29 : a.tmps[29]? = some (.int .i64 ((rd_T82 l0 x6_1).f0)) := by rw [ha]; exact putSel_on (e := (8, 29, .int .i64 ((rd_T82 l0 x6_1).f0))) 4 rfl rfl (hon 8 (by kernel_rfl)) rfl
      replace ha := Aside0.mk ha
      have HO_5 := Aside0.mk Q_HO_5
      have BK151 := Aside0.mk Q_BK151
      have HB := Aside0.mk Q_HB
      refine goes_ Try.func58 (by kernel_rfl) rfl #[.slice A1 l1.length c1, .int .i64 ((rd_T82 l0 x6_1).f0)] (by rfl) rfl rfl (by first | (simp only [List.map_toArray, List.map_cons, List.map_nil, Act.eval, Array.getD_eq_getD_getElem?, Option.getD_some, e27, e29]; done) | (simp only [List.map_toArray, List.map_cons, List.map_nil, Act.eval, Array.getD_eq_getD_getElem?, Option.getD_some, e27, e29]; rfl)) ?_
      with_reducible refine (spec_CloudSpans.calls k1 _ _ l1 ((rd_T82 l0 x6_1).f0) t155 _ ?side1 ?side2 A7.out).mono ?_
      (case side1 => exact ck_ HR1 HB)
      (case side2 => exact HC1.out)
      rintro e w15 ⟨v156, rfl, ho0, hb⟩
      refine ⟨_, rfl, ?_⟩
      have n0_ := Aside0.mk (Kd.R_below (ra_ HO_5) hb)
      have n1_ := Aside0.mk (Kd.R_lower ho0 (below_size (bl1_ HB GE151)))
      have n2_ := Aside0.mk (blk_below (bk_ BK151) hb)
      have n3_ := Aside0.mk (below_step (bl1_ HB GE151) hb)
      have z_HO154 := fun (h0_ : b 5 = true) => (show Kd.R k73 73 w15 w.heap.size (fun _ => True) v153 y152 from by first | exact (Kd.R_elder' (by (with_reducible repeat (first | apply Kd.R_alloc | apply Kd.R_drewN | apply Kd.R_drew)); exact (Q_HO154 h0_)) (Kd.R_base ho0) hb) | exact Kd.R_mono (Kd.R_elder' (by (with_reducible repeat (first | apply Kd.R_alloc | apply Kd.R_drewN | apply Kd.R_drew)); exact (Q_HO154 h0_)) (Kd.R_base ho0) hb) (fun _ h_ => by first | trivial | exact h_ | exact h_.1))
      clear HO_5
      clear BK151
      clear HB
      have HO_5 := n0_
      have HO157 := n1_
      have BK151 := n2_
      have HB := n3_
      clear n0_ n1_ n2_ n3_
      (try clear hb)
      (try clear hb2)
      (try clear hk)
      (try clear hi)
      (try clear ho0)
      refine hK.out _ _ ⟨v153, v156, v159, m11_, (by rw [ha.out]; exact putSel_upk 5 hb_ rfl rfl rfl), (ra_ HO_5), (bk_ BK151), (bl1_ HB GE151), z_HO154, fun _ => (ro_ HO157), fun h0_ => absurd ((hoff 10 (by kernel_rfl)).symm.trans h0_) (by decide), fun h0_ => absurd ((hoff 11 (by kernel_rfl)).symm.trans h0_) (by decide)⟩
     refine steps_cons ?_ ?_
     ·rintro b a w' ⟨v153, v156, v159, m11_, ha, Q_HO_5, Q_BK151, Q_HB, Q_HO154, Q_HO157, Q_HO160, Q_X11_⟩ hb_ hon hoff
      refine ⟨_, rfl, fun K hK => ?_⟩
      have e26 : a.tmps[26]? = some (v153) := by rw [ha]; exact putSel_on (e := (5, 26, v153)) 3 rfl rfl (hon 5 (by kernel_rfl)) rfl
      have e30 : a.tmps[30]? = some (v156) := by rw [ha]; exact putSel_on (e := (9, 30, v156)) 5 rfl rfl (hon 9 (by kernel_rfl)) rfl
      replace ha := Aside0.mk ha
      have HO_5 := Aside0.mk Q_HO_5
      have BK151 := Aside0.mk Q_BK151
      have HB := Aside0.mk Q_HB
      have HO154 := Aside0.mk (Q_HO154 (hon 5 (by kernel_rfl)))
      have HO157 := Aside0.mk (Q_HO157 (hon 9 (by kernel_rfl)))
      obtain ⟨Ao19, co19, eo19⟩ := Kd.R_slice HO154.out
      (first | subst eo19 | (injection eo19 with f1_ f2_ f3_; have f4_ := f1_.symm; have f5_ := f3_.symm; clear f1_ f2_ f3_; subst f4_; subst f5_))
      obtain ⟨Ao20, co20, eo20⟩ := Kd.R_slice HO157.out
      (first | subst eo20 | (injection eo20 with f1_ f2_ f3_; have f4_ := f1_.symm; have f5_ := f3_.symm; clear f1_ f2_ f3_; subst f4_; subst f5_))
      refine goes_ Try.func43 (by kernel_rfl) rfl #[.slice Ao19 y152.length co19, .slice Ao20 t155.length co20] (by rfl) rfl rfl (by first | (simp only [List.map_toArray, List.map_cons, List.map_nil, Act.eval, Array.getD_eq_getD_getElem?, Option.getD_some, e26, e30]; done) | (simp only [List.map_toArray, List.map_cons, List.map_nil, Act.eval, Array.getD_eq_getD_getElem?, Option.getD_some, e26, e30]; rfl)) ?_
      with_reducible refine (spec_CutSpans.calls k1 _ _ y152 _ _ t155 t158 _ ?side1 ?side2 ?side3 ?side4 A8.out).mono ?_
      (case side1 => repeat (first | exact (Kd.R_reads' HO154.out).2.2 | (with_reducible refine Kd.C_alloc ?_ _) | (with_reducible refine Kd.C_drewN ?_ _) | (with_reducible refine Kd.C_drew ?_)))
      (case side2 => exact (Kd.R_reads' HO154.out).2.1)
      (case side3 => repeat (first | exact (Kd.R_reads' HO157.out).2.2 | (with_reducible refine Kd.C_alloc ?_ _) | (with_reducible refine Kd.C_drewN ?_ _) | (with_reducible refine Kd.C_drew ?_)))
      (case side4 => exact (Kd.R_reads' HO157.out).2.1)
      rintro e w21 ⟨v159, rfl, ho0, hb⟩
      refine ⟨_, rfl, sh6_ (Kd.R_below (ra_ HO_5) hb) (Kd.R_elder' (ra_ HO154) (Kd.R_base ho0) hb) (Kd.R_elder' (ra_ HO157) (Kd.R_base ho0) hb) (Kd.R_lower (Kd.R_new' (Kd.R_new' ho0 (Kd.R_lt (ra_ HO154))) (Kd.R_lt (ra_ HO157))) (below_size (bl1_ HB GE151))) (blk_below (bk_ BK151) hb) (below_step (bl1_ HB GE151) hb) ?_⟩
      clear HO_5 HO154 HO157 BK151 HB hb ho0
      intro HO_5 HO154 HO157 HO160 BK151 HB
      refine hK.out _ _ ⟨.slice Ao19 y152.length co19, .slice Ao20 t155.length co20, v159, m11_, (by rw [ha.out]; exact putSel_upk 6 hb_ rfl rfl rfl), (ra_ HO_5), (bk_ BK151), (bl1_ HB GE151), fun _ => (ro_ HO154), fun _ => (ro_ HO157), fun _ => (ro_ HO160), fun h0_ => absurd ((hoff 11 (by kernel_rfl)).symm.trans h0_) (by decide)⟩
     refine steps_cons ?_ ?_
     ·rintro b a w' ⟨v153, v156, v159, m11_, ha, Q_HO_5, Q_BK151, Q_HB, Q_HO154, Q_HO157, Q_HO160, Q_X11_⟩ hb_ hon hoff
      refine ⟨_, rfl, fun K hK => ?_⟩
      have e31 : a.tmps[31]? = some (v159) := by rw [ha]; exact putSel_on (e := (10, 31, v159)) 6 rfl rfl (hon 10 (by kernel_rfl)) rfl
      replace ha := Aside0.mk ha
      have HO_5 := Aside0.mk Q_HO_5
      have BK151 := Aside0.mk Q_BK151
      have HB := Aside0.mk Q_HB
      have HO154 := Aside0.mk (Q_HO154 (hon 5 (by kernel_rfl)))
      have HO157 := Aside0.mk (Q_HO157 (hon 9 (by kernel_rfl)))
      have HO160 := Aside0.mk (Q_HO160 (hon 10 (by kernel_rfl)))
      refine value_ (w1 := w') (v := v159) (by rfl) rfl ?_ ?_
      ·go_simp
       (try simp only [i64_w])
       try rfl
      refine hK.out _ _ ⟨v153, v156, v159, (v159), (by rw [ha.out]; exact putSel_upk 7 hb_ rfl rfl rfl), Q_HO_5, Q_BK151, Q_HB, Q_HO154, Q_HO157, Q_HO160, fun _ => rfl⟩
     exact steps_nil
    rintro b a w21 hall ⟨v153, v156, v159, m11_, ha, Q_HO_5, Q_BK151, Q_HB, Q_HO154, Q_HO157, Q_HO160, Q_X11_⟩
    clear BK151 HB HO_5
    have hb1_ := hall 1 (by kernel_rfl)
    have hb3_ := hall 3 (by kernel_rfl)
    have hb4_ := hall 4 (by kernel_rfl)
    have hb5_ := hall 5 (by kernel_rfl)
    have hb8_ := hall 8 (by kernel_rfl)
    have hb9_ := hall 9 (by kernel_rfl)
    have hb10_ := hall 10 (by kernel_rfl)
    have hb11_ := hall 11 (by kernel_rfl)
    subst ha
    obtain rfl := Q_X11_ hb11_
    simp only [putSel, hb1_, hb3_, hb4_, hb5_, hb8_, hb9_, hb10_, hb11_, if_true, Act.put, List.setIfInBounds_toArray, List.set_cons_zero, List.set_cons_succ]
    have HO_5 := Aside0.mk Q_HO_5
    clear Q_HO_5
    have BK151 := Aside0.mk Q_BK151
    clear Q_BK151
    have HB := Aside0.mk Q_HB
    clear Q_HB
    have HO154 := Aside0.mk (Q_HO154 hb5_)
    clear Q_HO154
    have HO157 := Aside0.mk (Q_HO157 hb9_)
    clear Q_HO157
    have HO160 := Aside0.mk (Q_HO160 hb10_)
    clear Q_HO160
    clear hall hb1_ hb3_ hb4_ hb5_ hb8_ hb9_ hb10_ hb11_
    have hcz22 := cf4_ BK151
    try go_wp2_with (first | ((with_reducible refine gate_callee (f := 58) rfl ?_); refine gl_ 36 Try.func58 (spec_CloudSpans.calls k1 _ _ l1 ((rd_T82 l0 x6_1).f1) t161 _ (ck_ HR1 HB) HC1.out A9.out) ?_; rintro e w23 ⟨v162, rfl, ho0, hb⟩; refine ⟨_, rfl, sh7_ (Kd.R_below (ra_ HO_5) hb) (Kd.R_elder' (ra_ HO154) (Kd.R_base ho0) hb) (Kd.R_elder' (ra_ HO157) (Kd.R_base ho0) hb) (Kd.R_elder' (ra_ HO160) (Kd.R_base ho0) hb) (Kd.R_lower (Kd.R_new' (Kd.R_new' (Kd.R_new' ho0 (Kd.R_lt (ra_ HO154))) (Kd.R_lt (ra_ HO157))) (Kd.R_lt (ra_ HO160))) (below_size (bl1_ HB GE151))) (blk_below (bk_ BK151) hb) (below_step (bl1_ HB GE151) hb) ?_⟩; clear HO_5 HO154 HO157 HO160 BK151 HB hb ho0; intro HO_5 HO154 HO157 HO160 HO163 BK151 HB; obtain ⟨Ao24, co24, eo24⟩ := Kd.R_slice HO160.out; subst eo24; obtain ⟨Ao25, co25, eo25⟩ := Kd.R_slice HO163.out; subst eo25) | ((with_reducible refine gate_callee (f := 43) rfl ?_); refine gl_ 37 Try.func43 (spec_CutSpans.calls k1 _ _ t158 _ _ t161 t164 _ (cr_ HO160) (rl_ HO160) (cr_ HO163) (rl_ HO163) A10.out) ?_; rintro e w26 ⟨v165, rfl, ho0, hb⟩; refine ⟨_, rfl, sh8_ (Kd.R_below (ra_ HO_5) hb) (Kd.R_elder' (ra_ HO154) (Kd.R_base ho0) hb) (Kd.R_elder' (ra_ HO157) (Kd.R_base ho0) hb) (Kd.R_elder' (ra_ HO160) (Kd.R_base ho0) hb) (Kd.R_elder' (ra_ HO163) (Kd.R_base ho0) hb) (Kd.R_lower (Kd.R_new' (Kd.R_new' (Kd.R_new' (Kd.R_new' ho0 (Kd.R_lt (ra_ HO154))) (Kd.R_lt (ra_ HO157))) (Kd.R_lt (ra_ HO160))) (Kd.R_lt (ra_ HO163))) (below_size (bl1_ HB GE151))) (blk_below (bk_ BK151) hb) (below_step (bl1_ HB GE151) hb) ?_⟩; clear HO_5 HO154 HO157 HO160 HO163 BK151 HB hb ho0; intro HO_5 HO154 HO157 HO160 HO163 HO166 BK151 HB))
    go_loopg [5, 9] k1 (fun kq v5 v9 w' => ∃ (x5_2 : List (S82)) (x9_2 : Int), v9 = .int .i64 x9_2 ∧ Aside0 (spec_CutClouds.l1 kq l0 l1 x5_2 x6_1 t164 x9_2 ((rd_T82 l0 x6_1).f0) ((rd_T82 l0 x6_1).f1) ((rd_T82 l0 x6_1).f2) ((rd_T82 l0 x6_1).f3) = some r) ∧ Aside0 (kq ≤ k1) ∧ Aside0 (Kd.R k82 82 w' w.heap.size (fun k_ => k_ ≠ gb151) v5 x5_2) ∧ Aside0 (Kd.R k73 73 w' w.heap.size (fun _ => True) v165 t164) ∧ Aside0 (w'.heap[gb151]? = some (.cells #[.int .i64 ((rd_T82 l0 x6_1).f0), .int .i64 ((rd_T82 l0 x6_1).f1), .int .i64 ((rd_T82 l0 x6_1).f2), .int .i64 ((rd_T82 l0 x6_1).f3)] 82 (0, 0))) ∧ Aside0 (Below w.heap.size w w'))
    case atStart => exact ⟨(x5_1), (0), (by first | rfl | (simp; done) | (simp [*]; done)), H', ⟨Nat.le_refl _⟩, ⟨ra_ HO_5⟩, ⟨by (with_reducible repeat (first | apply Kd.R_alloc | apply Kd.R_drewN | apply Kd.R_drew)); exact Kd.R_mono HO166.out (fun _ hk => trivial)⟩, ⟨by (with_reducible repeat (first | refine blk_drewN ?_ _ | refine blk_drew ?_ | refine blk_alloc ?_ _)); exact BK151.out⟩, ⟨bl1_ HB GE151⟩⟩
    case round =>
     clear H'
     try clear c1
     try clear p1
     try clear q1
     try clear hx1
     try clear c2
     try clear p2
     try clear c3
     try clear c4
     try clear c5
     try clear c5b0
     try clear c6
     try clear c6b0
     try clear p15
     try clear q15
     try clear hx15
     try clear c20
     try clear hcz12
     try clear hcz22
     try clear hx150_0
     try clear hx150_1
     try clear hx150_2
     try clear hx150_3
     try clear p150
     try clear p2
     try clear q150
     obtain ⟨x5_2, x9_2, rfl, HA, HK2, HO_5, HO_8, BK151, HB⟩ := hrel
     cases gk with
     | zero => exact absurd HA.out (by simp [spec_CutClouds.l1])
     | succ k2 =>
      have H := HA.out
      clear HA
      simp only [spec_CutClouds.l1] at H
      by_cases c27 : x9_2 < (t164.length : Int)
      ·rw [if_pos c27] at H
       have c27b0 := decide_eq_true c27
       clear c27
       replace H := ifn_ H
       obtain ⟨c28, H⟩ := H
       have c28b0 := decide_eq_true c28
       clear c28
       replace H := ifn_ H
       obtain ⟨c29, H⟩ := H
       have LMc29 := Aside0.mk c29
       clear c29
       replace H : ∃ y_ : List (S82), Aside0 (y_ = (x5_2 ++ [(⟨((rd_T82 l0 x6_1).f0), ((rd_T82 l0 x6_1).f1), (rd_T73 t164 x9_2).f0, (rd_T73 t164 x9_2).f1⟩ : S82)])) ∧ (spec_CutClouds.l1 k2 l0 l1 y_ x6_1 t164 (wrap64 (x9_2 + 1)) ((rd_T82 l0 x6_1).f0) ((rd_T82 l0 x6_1).f1) ((rd_T82 l0 x6_1).f2) ((rd_T82 l0 x6_1).f3)) = some r := ⟨_, ⟨rfl⟩, yh_ H⟩
       obtain ⟨y169, Ny169, H⟩ := H
       have H' := Aside0.mk H
       clear H
       obtain ⟨Ao30, co30, eo30⟩ := Kd.R_slice HO_8.out
       subst eo30
       try go_wp2
       refine sh4_ (Kd.R_drew HO_5.out) (Kd.R_drew HO_8.out) (blk_drew BK151.out) (below_drew1 HB.out) ?_
       clear HO_5 HO_8 BK151 HB
       intro HO_5 HO_8 BK151 HB
       have p167 : 0 ≤ (x9_2 : Int) := od_
       have q167 : x9_2 < (t164.length : Int) := od_
       obtain ⟨ad167, e167, hx167_0, hx167_1⟩ := at_T73 (Kd.R_reads' HO_8.out).2.2 x9_2 p167 q167
       cases e167
       replace p167 := eq_true p167
       replace q167 := eq_true q167
       have p168 : 0 ≤ (x9_2 : Int) := od_
       have q168 : x9_2 < (t164.length : Int) := od_
       obtain ⟨ad168, e168, hx168_0, hx168_1⟩ := at_T73 (Kd.R_reads' HO_8.out).2.2 x9_2 p168 q168
       obtain rfl : ad167 = ad168 := (by injection e168)
       replace p168 := eq_true p168
       replace q168 := eq_true q168
       refine start_ (n := 19) (S := fun w' => w'.cell? ⟨gb151, 0, none⟩ = some (.int .i64 ((rd_T82 l0 x6_1).f0)) ∧ w'.cell? ⟨gb151, 1, none⟩ = some (.int .i64 ((rd_T82 l0 x6_1).f1)) ∧ w'.cell? ⟨gb151, 2, none⟩ = some (.int .i64 ((rd_T82 l0 x6_1).f2)) ∧ w'.cell? ⟨gb151, 3, none⟩ = some (.int .i64 ((rd_T82 l0 x6_1).f3)) ∧ w'.cell? (ad167.add ((x9_2).toNat * 2)) = some (.int .i64 ((rd_T73 t164 x9_2).f0)) ∧ w'.cell? ⟨(ad167.add ((x9_2).toNat * 2)).block, (ad167.add ((x9_2).toNat * 2)).off + 1, none⟩ = some (.int .i64 ((rd_T73 t164 x9_2).f1)) ∧ w'.cell? (ad167.add ((x9_2).toNat * 2)) = some (.int .i64 ((rd_T73 t164 x9_2).f0)) ∧ w'.cell? ⟨(ad167.add ((x9_2).toNat * 2)).block, (ad167.add ((x9_2).toNat * 2)).off + 1, none⟩ = some (.int .i64 ((rd_T73 t164 x9_2).f1))) (ds := [16, 17]) #[false, false, false, false, false, false, false, false, false, false, false, false, false, false, false, false, false, false, false] (by kernel_rfl) rfl rfl ⟨(bc_ BK151 0 rfl), (bc_ BK151 1 rfl), (bc_ BK151 2 rfl), (bc_ BK151 3 rfl), hx167_0, hx167_1, hx168_0, hx168_1⟩ (fun hHeld => ?_); refine with_tabW spec_CutClouds.tab11 spec_CutClouds.bits11 (fun HT_ HW_ => ?_)
       generalize wr.drew = w31 at HO_5 HO_8 BK151 HB hx167_0 hx167_1 hx168_0 hx168_1 hHeld ⊢
       refine pur_ 0 #[true, false, false, false, false, false, false, false, false, false, false, false, false, false, false, false, false, false, false] (some 44) HT_ ?_
       refine pur_ 1 #[true, true, false, false, false, false, false, false, false, false, false, false, false, false, false, false, false, false, false] (some 45) HT_ ?_
       refine pur_ 3 #[true, true, false, true, false, false, false, false, false, false, false, false, false, false, false, false, false, false, false] (some 47) HT_ ?_
       refine pur_ 5 #[true, true, false, true, false, true, false, false, false, false, false, false, false, false, false, false, false, false, false] (some 49) HT_ ?_
       refine pur_ 6 #[true, true, false, true, false, true, true, false, false, false, false, false, false, false, false, false, false, false, false] (some 50) HT_ ?_
       refine pur_ 7 #[true, true, false, true, false, true, true, true, false, false, false, false, false, false, false, false, false, false, false] (some 51) HT_ ?_
       refine pur_ 8 #[true, true, false, true, false, true, true, true, true, false, false, false, false, false, false, false, false, false, false] (some 52) HT_ ?_
       refine pur_ 10 #[true, true, false, true, false, true, true, true, true, false, true, false, false, false, false, false, false, false, false] (some 54) HT_ ?_
       refine pur_ 11 #[true, true, false, true, false, true, true, true, true, false, true, true, false, false, false, false, false, false, false] (some 55) HT_ ?_
       refine pur_ 12 #[true, true, false, true, false, true, true, true, true, false, true, true, true, false, false, false, false, false, false] (some 56) HT_ ?_
       refine pur_ 13 #[true, true, false, true, false, true, true, true, true, false, true, true, true, true, false, false, false, false, false] (some 57) HT_ ?_
       refine tak_ 2 #[true, true, true, true, false, true, true, true, true, false, true, true, true, true, false, false, false, false, false] (some 46) HT_ HW_ hHeld ?_
       refine tak_ 4 #[true, true, true, true, true, true, true, true, true, false, true, true, true, true, false, false, false, false, false] (some 48) HT_ HW_ hHeld ?_
       refine tak_ 9 #[true, true, true, true, true, true, true, true, true, true, true, true, true, true, false, false, false, false, false] (some 53) HT_ HW_ hHeld ?_
       refine tak_ 14 #[true, true, true, true, true, true, true, true, true, true, true, true, true, true, true, false, false, false, false] (some 58) HT_ HW_ hHeld ?_
       refine pur_ 15 #[true, true, true, true, true, true, true, true, true, true, true, true, true, true, true, true, false, false, false] (some 59) HT_ ?_
       refine last_ (i := 16) (N := some 60) #[true, true, true, true, true, true, true, true, true, true, true, true, true, true, true, true, true, false, false] rfl rfl (one_of HT_.out (by kernel_rfl)) (by decide) (fun K hK => ?_)
       refine value_ (w1 := ?_) (v := ?_) (by rfl) rfl ?_ ?_
       rotate_left 2
       ·go_simp
        constructor
        ·rfl
        ·rfl
       refine hK.out _ _ ?_
       clear hK K
       refine norm_ (a' := ?_) ?_ ?_
       rotate_left
       ·show Act.put _ (some 60) _ = _
        simp only [Act.put, List.setIfInBounds_toArray, List.set_cons_zero, List.set_cons_succ, i64_w, i32_w]
        rfl
       refine last_ (i := 17) (N := some 61) #[true, true, true, true, true, true, true, true, true, true, true, true, true, true, true, true, true, true, false] rfl rfl (one_of HT_.out (by kernel_rfl)) (by decide) (fun K hK => ?_)
       refine Kd.R_append_step k82 (w0 := w) w.heap.size (by rfl) (.tmp 44) (.tmp 60) 45 82 (.agg #[(.int .i64 0), (.int .i64 0), (.int .i64 0), (.int .i64 0)]) 32 rfl Try.underlying45 info82 rfl (by decide) (by omega) u5 x5_2 (⟨((rd_T82 l0 x6_1).f0), ((rd_T82 l0 x6_1).f1), (rd_T73 t164 x9_2).f0, (rd_T73 t164 x9_2).f1⟩ : S82) [.int .i64 ((rd_T82 l0 x6_1).f0), .int .i64 ((rd_T82 l0 x6_1).f1), .int .i64 ((rd_T73 t164 x9_2).f0), .int .i64 ((rd_T73 t164 x9_2).f1)] (fun k_ => k_ ≠ gb151) (fun _ => False) rfl rfl ?aP (fun _ hk => hk.elim) ?aF ?aO ?aB ?aS ?aL ?_
       (case aP => exact k82_mkM _ _ _ (⟨((rd_T82 l0 x6_1).f0), ((rd_T82 l0 x6_1).f1), (rd_T73 t164 x9_2).f0, (rd_T73 t164 x9_2).f1⟩ : S82))
       (case aB => exact (bl1_ HB GE151))
       (case aF => exact (fun k_ hk => Kd.freshB (g := gb151) (o := .cells #[.int .i64 ((rd_T82 l0 x6_1).f0), .int .i64 ((rd_T82 l0 x6_1).f1), .int .i64 ((rd_T82 l0 x6_1).f2), .int .i64 ((rd_T82 l0 x6_1).f3)] 82 (0, 0)) (bk_ BK151) k_ hk))
       (case aO => exact (ra_ HO_5))
       (case aS => exact (below_size (bl1_ HB GE151)))
       (case aL => have := LMc29.out; omega)
       intro v170 w32 ho hb hg hat
       rw [← Ny169.out] at ho
       refine sh4_ (Kd.R_over' (ra_ HO_8) (Kd.R_typed (ra_ HO_5)) (by decide) hg) (blk_grown (g := gb151) (o := .cells #[.int .i64 ((rd_T82 l0 x6_1).f0), .int .i64 ((rd_T82 l0 x6_1).f1), .int .i64 ((rd_T82 l0 x6_1).f2), .int .i64 ((rd_T82 l0 x6_1).f3)] 82 (0, 0)) (bk_ BK151) hg (Kd.R_away HO_5.out (fun _ hk => hk))) hb ho ?_
       clear HO_8 BK151 HB HO_5 ho hb hg hat
       intro HO_8 BK151 HB HO171
       refine hK.out _ _ ?_
       clear hK K
       refine norm_ (a' := ?_) ?_ ?_
       rotate_left
       ·show Act.put _ (some 61) _ = _
        simp only [Act.put, List.setIfInBounds_toArray, List.set_cons_zero, List.set_cons_succ, i64_w, i32_w]
        rfl
       refine pur_ 18 #[true, true, true, true, true, true, true, true, true, true, true, true, true, true, true, true, true, true, true] (some 5) HT_ ?_
       refine done_ (done_of HT_.out (by kernel_rfl)) ?_
       try go_wp2
       go_roundg k2
       case measure => have := HK1.out; have := HK2.out; omega
       case rel => exact ⟨(y169), (wrap64 (x9_2 + 1)), (by first | rfl | (simp; done) | (simp [*]; done)), H', ⟨by have := HK1.out; have := HK2.out; omega⟩, ⟨ra_ HO171⟩, ⟨ra_ HO_8⟩, ⟨by (with_reducible repeat (first | refine blk_drewN ?_ _ | refine blk_drew ?_ | refine blk_alloc ?_ _)); exact BK151.out⟩, ⟨bl1_ HB GE151⟩⟩
      ·rw [if_neg c27] at H
       have c27b0 : decide (x9_2 < (t164.length : Int)) = false := decide_eq_false c27
       clear c27
       have H' := Aside0.mk H
       clear H
       obtain ⟨Ao33, co33, eo33⟩ := Kd.R_slice HO_8.out
       subst eo33
       go_wp2
       go_roundg k2
       case measure => have := HK1.out; have := HK2.out; omega
       case rel => exact ⟨(x5_2), (wrap64 (x6_1 + 1)), (by first | rfl | (simp; done) | (simp [*]; done)), H', ⟨by have := HK1.out; have := HK2.out; omega⟩, ⟨by (with_reducible repeat (first | apply Kd.R_alloc | apply Kd.R_drewN | apply Kd.R_drew)); exact Kd.R_mono HO_5.out (fun _ hk => trivial)⟩, ⟨bl1_ HB GE151⟩⟩
   ·rw [if_neg c5] at H
    have c5b0 : decide (x6_1 < (l0.length : Int)) = false := decide_eq_false c5
    clear c5
    obtain rfl := Option.some.inj H
    go_wp2
    go_ret
    exact ⟨_, er_, ra_ HO_5, bl_ HB⟩

/-! ### laws_toContact: function 59 -/
def laws_toContact.f (a0_0 : Int) (a0_1 : Int) (a0_2 : Int) (a0_3 : Int) : Option (Int × Int × Int × Int) := some (a0_0, a0_1, a0_2, a0_3)
set_option maxHeartbeats 8000000 in
set_option maxRecDepth 100000 in
theorem laws_toContact.calls (a0_0 : Int) (a0_1 : Int) (a0_2 : Int) (a0_3 : Int) (r1 : Int) (r2 : Int) (r3 : Int) (r4 : Int) (w : World) (h : laws_toContact.f a0_0 a0_1 a0_2 a0_3 = some (r1, r2, r3, r4)) :
  Calls Try.prog 59 #[.agg #[.int .i64 a0_0, .int .i64 a0_1, .int .i64 a0_2, .int .i64 a0_3]] w fun e w' => e = .returned (.agg #[.int .i64 r1, .int .i64 r2, .int .i64 r3, .int .i64 r4]) ∧ Below w.heap.size w w' := by
 have hu85 := Try.underlying85
 have hu82 := Try.underlying82
 have HB := Aside0.mk (Below.refl w.heap.size w)
 have H := h
 clear h
 unfold laws_toContact.f at H
 simp only [Option.some.injEq, Prod.mk.injEq] at H
 obtain ⟨rfl, rfl, rfl, rfl⟩ := H
 go_enter Try.func59, Try.ntmps59
 go_wp2_with (first | ((with_reducible refine gd_ 1 ?_); refine bx_ 1 85 #[.int .i64 a0_0, .int .i64 a0_1, .int .i64 a0_2, .int .i64 a0_3] ?_; intro gb172 hg w2 hbox hb; refine sh4_ (below_step (bl_ HB) hb) hbox (ge_ hg (bl_ HB)) (ge_ hg (bl_ HB)) ?_; clear HB hb hbox hg; intro HB BK172 GW172 GE172) | ((with_reducible refine gd_ 2 ?_); refine bx_ 2 82 #[.int .i64 0, .int .i64 0, .int .i64 0, .int .i64 0] ?_; intro gb173 hg w3 hbox hb; refine sh7_ (blk_below (bk_ BK172) hb) (below_step (bl1_ HB GE172) hb) hbox (ge_ hg (bl1_ HB GE172)) (ge_ hg (bl1_ HB GE172)) (nl_ hg (bk_ BK172)) (ng_ hg (bk_ BK172)) ?_; clear BK172 HB hb hbox hg; intro BK172 HB BK173 GW173 GE173 NB172_173 NB173_172) | ((with_reducible refine gd_ 3 ?_); refine bx_ 3 82 #[.int .i64 0, .int .i64 0, .int .i64 0, .int .i64 0] ?_; intro gb174 hg w4 hbox hb; refine sh10_ (blk_below (bk_ BK172) hb) (blk_below (bk_ BK173) hb) (below_step (bl2_ HB GE172 GE173) hb) hbox (ge_ hg (bl2_ HB GE172 GE173)) (ge_ hg (bl2_ HB GE172 GE173)) (nl_ hg (bk_ BK172)) (ng_ hg (bk_ BK172)) (nl_ hg (bk_ BK173)) (ng_ hg (bk_ BK173)) ?_; clear BK172 BK173 HB hb hbox hg; intro BK172 BK173 HB BK174 GW174 GE174 NB172_174 NB174_172 NB173_174 NB174_173; have hnb5 := NB172_173.out; have hnc5 := NB173_172.out; have hnb6 := NB172_174.out; have hnc6 := NB174_172.out; have hcz7 := cf4_ BK172; have hnb8 := NB174_173.out; have hnc8 := NB173_174.out; have hcz9 := cf4_ BK174; have hcz10 := cf4_ BK173))
 refine bodyPost_ret (results_cell_row rfl _ _ gb173 82 #[.int .i64 a0_0, .int .i64 a0_1, .int .i64 a0_2, .int .i64 a0_3] (0, 0) _ rfl (by (with_reducible repeat (first | refine blk_drewN ?_ _ | refine blk_drew ?_ | refine blk_alloc ?_ _)); refine blk_put (cs := #[.int .i64 a0_0, .int .i64 a0_1, .int .i64 a0_2, .int .i64 0]) ?_ 3 _ rfl; (with_reducible repeat (first | refine blk_drewN ?_ _ | refine blk_drew ?_ | refine blk_alloc ?_ _)); refine blk_put (cs := #[.int .i64 a0_0, .int .i64 a0_1, .int .i64 0, .int .i64 0]) ?_ 2 _ rfl; (with_reducible repeat (first | refine blk_drewN ?_ _ | refine blk_drew ?_ | refine blk_alloc ?_ _)); refine blk_put (cs := #[.int .i64 a0_0, .int .i64 0, .int .i64 0, .int .i64 0]) ?_ 1 _ rfl; (with_reducible repeat (first | refine blk_drewN ?_ _ | refine blk_drew ?_ | refine blk_alloc ?_ _)); refine blk_put (cs := #[.int .i64 0, .int .i64 0, .int .i64 0, .int .i64 0]) ?_ 0 _ rfl; (with_reducible repeat (first | refine blk_drewN ?_ _ | refine blk_drew ?_ | refine blk_alloc ?_ _)); refine blk_far ?_ NB173_174.out _; (with_reducible repeat (first | refine blk_drewN ?_ _ | refine blk_drew ?_ | refine blk_alloc ?_ _)); refine blk_far ?_ NB173_174.out _; (with_reducible repeat (first | refine blk_drewN ?_ _ | refine blk_drew ?_ | refine blk_alloc ?_ _)); refine blk_far ?_ NB173_174.out _; (with_reducible repeat (first | refine blk_drewN ?_ _ | refine blk_drew ?_ | refine blk_alloc ?_ _)); refine blk_far ?_ NB173_174.out _; (with_reducible repeat (first | refine blk_drewN ?_ _ | refine blk_drew ?_ | refine blk_alloc ?_ _)); exact BK173.out) Try.underlying82 rfl (by kernel_rfl)) rfl ?_
 exact ⟨er_, bl3_ HB GE172 GE173 GE174⟩

/-! ### laws_toContactS: function 21 -/
def laws_toContactS.l0 : Nat → List (S85) → List (S82) → Int → Option ((List (S82)))
 | 0, _, _, _ => none
 | k + 1, x0, x3, x4 => if x4 < (x0.length : Int) then (if 0 ≤ x4 then ((laws_toContact.f ((rd_T85 x0 x4).f0) ((rd_T85 x0 x4).f1) ((rd_T85 x0 x4).f2) ((rd_T85 x0 x4).f3)).bind fun bt179 => (if x4 < (x3.length : Int) then (laws_toContactS.l0 k x0 (x3.set (x4 : Int).toNat (⟨bt179.1, bt179.2.1, bt179.2.2.1, bt179.2.2.2⟩ : S82)) (wrap64 (x4 + 1))) else (none))) else (none)) else (some x3)
def laws_toContactS.f (k : Nat) (l0 : List (S85)) : Option ((List (S82))) := if 0 ≤ (l0.length : Int) then (if ((l0.length : Int) : Int).toNat ≤ 8796093022208 then (laws_toContactS.l0 k l0 (List.replicate ((l0.length : Int) : Int).toNat z82) 0) else (none)) else (none)
theorem laws_toContactS.mono_l : ∀ k, (∀ y0 y1 y2, LeO (laws_toContactS.l0 k y0 y1 y2) (laws_toContactS.l0 (k + 1) y0 y1 y2))
 | 0 => fun _ _ _ r h => by simp [laws_toContactS.l0] at h
 | k + 1 => by
  have ih0 := laws_toContactS.mono_l k
  ·intro y0 y1 y2
   unfold laws_toContactS.l0
   repeat' first | (with_reducible first | exact ih0 _ _ _ | exact LeO.refl _ | exact LeO.none _ | refine LeO.ite ?_ ?_ | refine LeO.bind ?_ (fun _ => ?_)) | exact LeO.none _ | refine LeO.ite ?_ ?_ | refine LeO.bind ?_ (fun _ => ?_)
theorem laws_toContactS.mono : ∀ a0 k, LeO (laws_toContactS.f k a0) (laws_toContactS.f (k + 1) a0) := by
 intro a0 k
 have ih0 := laws_toContactS.mono_l k
 unfold laws_toContactS.f
 repeat' first | (with_reducible first | exact ih0 _ _ _ | exact LeO.refl _ | exact LeO.none _ | refine LeO.ite ?_ ?_ | refine LeO.bind ?_ (fun _ => ?_)) | exact LeO.none _ | refine LeO.ite ?_ ?_ | refine LeO.bind ?_ (fun _ => ?_)
set_option maxHeartbeats 8000000 in
set_option maxRecDepth 100000 in
theorem laws_toContactS.calls (k : Nat) (A0 : Option Addr) (c0 : Nat) (l0 : List (S85)) (r : List (S82)) (w : World) (hr0 : Kd.C k85 w A0 l0.length l0) (hc0 : l0.length ≤ c0) (h : laws_toContactS.f k l0 = some r) :
  Calls Try.prog 21 #[.slice A0 l0.length c0] w fun e w' => ∃ v0_ : Value, e = .returned (v0_) ∧ Kd.R k82 82 w' w.heap.size (fun _ => True) v0_ r ∧ Below w.heap.size w w' := by
 have hu85 := Try.underlying85
 have hu82 := Try.underlying82
 have HR0 := Aside0.mk hr0
 have HC0 := Aside0.mk hc0
 clear hr0 hc0
 have HB := Aside0.mk (Below.refl w.heap.size w)
 have H := h
 clear h
 unfold laws_toContactS.f at H
 replace H := ifn_ H
 obtain ⟨c2, H⟩ := H
 have c2b0 := eq_true c2
 have c2b1 := decide_eq_true c2
 clear c2
 replace H := ifn_ H
 obtain ⟨c3, H⟩ := H
 have c3b0 := eq_true c3
 have c3b1 := decide_eq_true c3
 clear c3
 replace H : ∃ y_ : List (S82), Aside0 (y_ = (List.replicate ((l0.length : Int) : Int).toNat z82)) ∧ (laws_toContactS.l0 k l0 y_ 0) = some r := ⟨_, ⟨rfl⟩, yh_ H⟩
 obtain ⟨y175, Ny175, H⟩ := H
 have H' := Aside0.mk H
 clear H
 go_enter Try.func21, Try.ntmps21
 go_wp2_with (first | ((with_reducible refine gate_dst (N := 7) rfl ?_); refine Kd.R_make k82 _ 82 rfl (N := 7) rfl 45 _ _ rfl (l0.length : Int) rfl rfl Try.underlying45 (.agg #[(.int .i64 0), (.int .i64 0), (.int .i64 0), (.int .i64 0)]) 32 info82 rfl (by decide) (by omega) z82 (ok := fun _ => True) (okp := fun _ => True) (k82_mkM _ _ _ z82 ) (fun _ hk => hk) trivial od_ (Nat.le_trans (Nat.mul_le_mul_right _ (od_ : (l0.length : Int).toNat ≤ 8796093022208)) (by omega)) (Below.refl _ _) (Nat.le_refl _) ?_; intro v176 w4 ho5 hb hg_ hnew_; clear hg_ hnew_; (first | rw [← Ny175.out] at ho5 | (simp only [Int.reduceToNat] at ho5; rw [← Ny175.out] at ho5)); refine sh2_ (Kd.R_lower ho5 (below_size (bl_ HB))) (below_step (bl_ HB) hb) ?_; clear HB hb ho5; intro HO177 HB))
 go_loopg [4] k (fun kq v4 w' => ∃ (x3_1 : List (S82)) (x4_1 : Int), v4 = .int .i64 x4_1 ∧ Aside0 (laws_toContactS.l0 kq l0 x3_1 x4_1 = some r) ∧ Aside0 (kq ≤ k) ∧ Aside0 (Kd.R k82 82 w' w.heap.size (fun _ => True) v176 x3_1) ∧ Aside0 (Below w.heap.size w w'))
 case atStart => exact ⟨(y175), (0), (by first | rfl | (simp; done) | (simp [*]; done)), H', ⟨Nat.le_refl _⟩, ⟨ra_ HO177⟩, ⟨bl_ HB⟩⟩
 case round =>
  clear H'
  try clear c2
  try clear c2b0
  try clear c2b1
  try clear p2
  try clear c3
  try clear c3b0
  try clear c3b1
  obtain ⟨x3_1, x4_1, rfl, HA, HK1, HO_3, HB⟩ := hrel
  cases gk with
  | zero => exact absurd HA.out (by simp [laws_toContactS.l0])
  | succ k1 =>
   have H := HA.out
   clear HA
   simp only [laws_toContactS.l0] at H
   by_cases c6 : x4_1 < (l0.length : Int)
   ·rw [if_pos c6] at H
    have c6b0 := decide_eq_true c6
    clear c6
    replace H := ifn_ H
    obtain ⟨c7, H⟩ := H
    have c7b0 := decide_eq_true c7
    clear c7
    replace H := bs_ H
    obtain ⟨⟨t179, t180, t181, t182⟩, A8, H⟩ := H
    dsimp only at H
    replace H := ifn_ H
    obtain ⟨c9, H⟩ := H
    have c9b0 := decide_eq_true c9
    clear c9
    replace H : ∃ y_ : List (S82), Aside0 (y_ = (x3_1.set (x4_1 : Int).toNat (⟨t179, t180, t181, t182⟩ : S82))) ∧ (laws_toContactS.l0 k1 l0 y_ (wrap64 (x4_1 + 1))) = some r := ⟨_, ⟨rfl⟩, yh_ H⟩
    obtain ⟨y183, Ny183, H⟩ := H
    have H' := Aside0.mk H
    clear H
    have p178 : 0 ≤ (x4_1 : Int) := od_
    have q178 : x4_1 < (l0.length : Int) := od_
    obtain ⟨ad178, e178, hx178_0, hx178_1, hx178_2, hx178_3⟩ := at_T85 HR0.out x4_1 p178 q178
    cases e178
    replace hx178_0 := hbc_ HB hx178_0
    replace hx178_1 := hbc_ HB hx178_1
    replace hx178_2 := hbc_ HB hx178_2
    replace hx178_3 := hbc_ HB hx178_3
    replace p178 := eq_true p178
    replace q178 := eq_true q178
    go_wp2_with (first | ((with_reducible refine gate_callee (f := 59) rfl ?_); refine gl_ 20 Try.func59 (laws_toContact.calls ((rd_T85 l0 x4_1).f0) ((rd_T85 l0 x4_1).f1) ((rd_T85 l0 x4_1).f2) ((rd_T85 l0 x4_1).f3) t179 t180 t181 t182 _ A8.out) ?_; rintro e w11 ⟨rfl, hb⟩; refine ⟨_, rfl, sh2_ (Kd.R_below (ra_ HO_3) hb) (below_step (bl_ HB) hb) ?_⟩; clear HO_3 HB hb; intro HO_3 HB; have p10 : 0 ≤ (x4_1 : Int) := od_; have q10 : (x4_1 : Int) < ((x3_1.length : Int) : Int) := od_; obtain ⟨go10, co10, eo10, gb10, gl10, cl10, HG10⟩ := Kd.R_form HO_3.out (by omega); (first | cases eo10 | (injection eo10 with ea_ en_ ec_; (first | subst ea_ | (injection ea_ with ea_; subst ea_)); subst ec_; clear en_)); have GB10 := Aside0.mk gb10; have GG10 := Aside0.mk HG10; clear gb10 gl10 HG10; obtain ⟨ce10, hcl10, hM10, hcc10, hfr10⟩ := Kd.R_elem HO_3.out z82 (x4_1 : Int) p10 q10; obtain rfl := k82_openM hM10; have hx10_0 : w11.cell? ⟨go10, (x4_1 : Int).toNat * 4, none⟩ = some (.int .i64 ((rd_T82 x3_1 x4_1).f0)) := hcc10 0 _ rfl; have hx10_1 : w11.cell? ⟨go10, (x4_1 : Int).toNat * 4 + 1, none⟩ = some (.int .i64 ((rd_T82 x3_1 x4_1).f1)) := hcc10 1 _ rfl; have hx10_2 : w11.cell? ⟨go10, (x4_1 : Int).toNat * 4 + 2, none⟩ = some (.int .i64 ((rd_T82 x3_1 x4_1).f2)) := hcc10 2 _ rfl; have hx10_3 : w11.cell? ⟨go10, (x4_1 : Int).toNat * 4 + 3, none⟩ = some (.int .i64 ((rd_T82 x3_1 x4_1).f3)) := hcc10 3 _ rfl; have hf10_0 : w11.frozen? ⟨go10, (x4_1 : Int).toNat * 4, none⟩ = false := hfr10 0; have hf10_1 : w11.frozen? ⟨go10, (x4_1 : Int).toNat * 4 + 1, none⟩ = false := hfr10 1; have hf10_2 : w11.frozen? ⟨go10, (x4_1 : Int).toNat * 4 + 2, none⟩ = false := hfr10 2; have hf10_3 : w11.frozen? ⟨go10, (x4_1 : Int).toNat * 4 + 3, none⟩ = false := hfr10 3; clear hcl10 hcc10 hfr10 hM10; replace p10 := eq_true p10; replace q10 := eq_true q10; have HX12 := Aside0.mk (show Kd.R k82 82 w11 w.heap.size (fun _ => True) (.slice (some ⟨go10, 0, none⟩) x3_1.length co10) x3_1 from (ra_ HO_3)); obtain ⟨ce12, hcl12, hM12, hcc12, hfr12⟩ := Kd.R_elem HX12.out z82 (x4_1 : Int) od_ (by have h_ : (x4_1 : Int) < ((x3_1.length : Int) : Int) := od_; first | exact h_ | (have e_ := (Kd.R_reads' HO_3.out).1; omega) | simpa using h_); obtain rfl := k82_openM hM12; have HP12 := Kd.R_seg HX12.out (x4_1 : Int) od_ (by have h_ : (x4_1 : Int) < ((x3_1.length : Int) : Int) := od_; first | exact h_ | (have e_ := (Kd.R_reads' HO_3.out).1; omega) | simpa using h_) (seg := [.int .i64 t179, .int .i64 t180, .int .i64 t181, .int .i64 t182]) (j := 0) hcl12 hcc12 (show 4 ≤ 4 from by decide) (x' := (⟨t179, t180, t181, t182⟩ : S82)) (k82_mkM _ _ _ (⟨t179, t180, t181, t182⟩ : S82) ) (fun _ hk => hk); have hx12_0 := hcc12 0 _ rfl; (try simp only [show (k82).sz = 4 from rfl, Nat.mul_one, Nat.add_zero] at hx12_0); have hf12_0 := hfr12 0; (try simp only [show (k82).sz = 4 from rfl, Nat.mul_one, Nat.add_zero] at hf12_0); have hx12_1 := hcc12 1 _ rfl; (try simp only [show (k82).sz = 4 from rfl, Nat.mul_one, Nat.add_zero] at hx12_1); have hf12_1 := hfr12 1; (try simp only [show (k82).sz = 4 from rfl, Nat.mul_one, Nat.add_zero] at hf12_1); have hx12_2 := hcc12 2 _ rfl; (try simp only [show (k82).sz = 4 from rfl, Nat.mul_one, Nat.add_zero] at hx12_2); have hf12_2 := hfr12 2; (try simp only [show (k82).sz = 4 from rfl, Nat.mul_one, Nat.add_zero] at hf12_2); have hx12_3 := hcc12 3 _ rfl; (try simp only [show (k82).sz = 4 from rfl, Nat.mul_one, Nat.add_zero] at hx12_3); have hf12_3 := hfr12 3; (try simp only [show (k82).sz = 4 from rfl, Nat.mul_one, Nat.add_zero] at hf12_3); clear hcl12 hcc12 hfr12 hM12) | ((with_reducible refine gate_store (t := 82) (p := 21) rfl ?_); refine store_event (t := 82) (p := 21) (v := ?vo_w13) (w1 := ((((w11.setCell ⟨go10, (x4_1 : Int).toNat * 4, none⟩ (.int .i64 t179)).setCell ⟨go10, (x4_1 : Int).toNat * 4 + 1, none⟩ (.int .i64 t180)).setCell ⟨go10, (x4_1 : Int).toNat * 4 + 2, none⟩ (.int .i64 t181)).setCell ⟨go10, (x4_1 : Int).toNat * 4 + 3, none⟩ (.int .i64 t182))) ?hg ?ho ?hn ?hr ?_; (case ho => rfl); (case hg => rfl); (case hn => rfl); (case hr => first | (go_simp; done) | (go_simp; rfl)); intro w13 hw; have hg : w11.grownBy w13 (some go10) := (by rw [hw]; exact HP12.2); have hp_ : Kd.R k82 82 w13 w.heap.size (fun _ => True) (.slice (some ⟨go10, 0, none⟩) x3_1.length co10) y183 := (by rw [hw, Ny183.out]; exact HP12.1); clear HP12; refine sh2_ hp_ ((by rw [hw]; exact below_set (below_set (below_set (below_set (HB.out) GB10.out) GB10.out) GB10.out) GB10.out : Below w.heap.size w w13)) ?_; clear HO_3 HB; intro HO_3 HB; clear hg hw hp_))
    go_roundg k1
    case measure => have := HK1.out; omega
    case rel => exact ⟨(y183), (wrap64 (x4_1 + 1)), (by first | rfl | (simp; done) | (simp [*]; done)), H', ⟨by have := HK1.out; omega⟩, ⟨ra_ HO_3⟩, ⟨bl_ HB⟩⟩
   ·rw [if_neg c6] at H
    have c6b0 := decide_eq_false c6
    clear c6
    obtain rfl := Option.some.inj H
    go_wp2
    go_ret
    exact ⟨_, er_, ra_ HO_3, bl_ HB⟩

/-! ### laws_toCloud: function 60 -/
def laws_toCloud.f (a0_0 : Int) (a0_1 : Int) (a0_2 : Int) : Option (Int × Int × Int) := some (a0_0, a0_1, a0_2)
set_option maxHeartbeats 8000000 in
set_option maxRecDepth 100000 in
theorem laws_toCloud.calls (a0_0 : Int) (a0_1 : Int) (a0_2 : Int) (r1 : Int) (r2 : Int) (r3 : Int) (w : World) (h : laws_toCloud.f a0_0 a0_1 a0_2 = some (r1, r2, r3)) :
  Calls Try.prog 60 #[.agg #[.int .i64 a0_0, .int .i64 a0_1, .int .i64 a0_2]] w fun e w' => e = .returned (.agg #[.int .i64 r1, .int .i64 r2, .int .i64 r3]) ∧ Below w.heap.size w w' := by
 have hu89 := Try.underlying89
 have hu87 := Try.underlying87
 have HB := Aside0.mk (Below.refl w.heap.size w)
 have H := h
 clear h
 unfold laws_toCloud.f at H
 simp only [Option.some.injEq, Prod.mk.injEq] at H
 obtain ⟨rfl, rfl, rfl⟩ := H
 go_enter Try.func60, Try.ntmps60
 go_wp2_with (first | ((with_reducible refine gd_ 1 ?_); refine bx_ 1 89 #[.int .i64 a0_0, .int .i64 a0_1, .int .i64 a0_2] ?_; intro gb184 hg w2 hbox hb; refine sh4_ (below_step (bl_ HB) hb) hbox (ge_ hg (bl_ HB)) (ge_ hg (bl_ HB)) ?_; clear HB hb hbox hg; intro HB BK184 GW184 GE184) | ((with_reducible refine gd_ 2 ?_); refine bx_ 2 87 #[.int .i64 0, .int .i64 0, .int .i64 0] ?_; intro gb185 hg w3 hbox hb; refine sh7_ (blk_below (bk_ BK184) hb) (below_step (bl1_ HB GE184) hb) hbox (ge_ hg (bl1_ HB GE184)) (ge_ hg (bl1_ HB GE184)) (nl_ hg (bk_ BK184)) (ng_ hg (bk_ BK184)) ?_; clear BK184 HB hb hbox hg; intro BK184 HB BK185 GW185 GE185 NB184_185 NB185_184) | ((with_reducible refine gd_ 3 ?_); refine bx_ 3 87 #[.int .i64 0, .int .i64 0, .int .i64 0] ?_; intro gb186 hg w4 hbox hb; refine sh10_ (blk_below (bk_ BK184) hb) (blk_below (bk_ BK185) hb) (below_step (bl2_ HB GE184 GE185) hb) hbox (ge_ hg (bl2_ HB GE184 GE185)) (ge_ hg (bl2_ HB GE184 GE185)) (nl_ hg (bk_ BK184)) (ng_ hg (bk_ BK184)) (nl_ hg (bk_ BK185)) (ng_ hg (bk_ BK185)) ?_; clear BK184 BK185 HB hb hbox hg; intro BK184 BK185 HB BK186 GW186 GE186 NB184_186 NB186_184 NB185_186 NB186_185; have hnb5 := NB184_185.out; have hnc5 := NB185_184.out; have hnb6 := NB184_186.out; have hnc6 := NB186_184.out; have hcz7 := cf3_ BK184; have hnb8 := NB186_185.out; have hnc8 := NB185_186.out; have hcz9 := cf3_ BK186; have hcz10 := cf3_ BK185))
 refine bodyPost_ret (results_cell_row rfl _ _ gb185 87 #[.int .i64 a0_0, .int .i64 a0_1, .int .i64 a0_2] (0, 0) _ rfl (by (with_reducible repeat (first | refine blk_drewN ?_ _ | refine blk_drew ?_ | refine blk_alloc ?_ _)); refine blk_put (cs := #[.int .i64 a0_0, .int .i64 a0_1, .int .i64 0]) ?_ 2 _ rfl; (with_reducible repeat (first | refine blk_drewN ?_ _ | refine blk_drew ?_ | refine blk_alloc ?_ _)); refine blk_put (cs := #[.int .i64 a0_0, .int .i64 0, .int .i64 0]) ?_ 1 _ rfl; (with_reducible repeat (first | refine blk_drewN ?_ _ | refine blk_drew ?_ | refine blk_alloc ?_ _)); refine blk_put (cs := #[.int .i64 0, .int .i64 0, .int .i64 0]) ?_ 0 _ rfl; (with_reducible repeat (first | refine blk_drewN ?_ _ | refine blk_drew ?_ | refine blk_alloc ?_ _)); refine blk_far ?_ NB185_186.out _; (with_reducible repeat (first | refine blk_drewN ?_ _ | refine blk_drew ?_ | refine blk_alloc ?_ _)); refine blk_far ?_ NB185_186.out _; (with_reducible repeat (first | refine blk_drewN ?_ _ | refine blk_drew ?_ | refine blk_alloc ?_ _)); refine blk_far ?_ NB185_186.out _; (with_reducible repeat (first | refine blk_drewN ?_ _ | refine blk_drew ?_ | refine blk_alloc ?_ _)); exact BK185.out) Try.underlying87 rfl (by kernel_rfl)) rfl ?_
 exact ⟨er_, bl3_ HB GE184 GE185 GE186⟩

/-! ### laws_toCloudS: function 22 -/
def laws_toCloudS.l0 : Nat → List (S89) → List (S87) → Int → Option ((List (S87)))
 | 0, _, _, _ => none
 | k + 1, x0, x3, x4 => if x4 < (x0.length : Int) then (if 0 ≤ x4 then ((laws_toCloud.f ((rd_T89 x0 x4).f0) ((rd_T89 x0 x4).f1) ((rd_T89 x0 x4).f2)).bind fun bt191 => (if x4 < (x3.length : Int) then (laws_toCloudS.l0 k x0 (x3.set (x4 : Int).toNat (⟨bt191.1, bt191.2.1, bt191.2.2⟩ : S87)) (wrap64 (x4 + 1))) else (none))) else (none)) else (some x3)
def laws_toCloudS.f (k : Nat) (l0 : List (S89)) : Option ((List (S87))) := if 0 ≤ (l0.length : Int) then (if ((l0.length : Int) : Int).toNat ≤ 11728124029610 then (laws_toCloudS.l0 k l0 (List.replicate ((l0.length : Int) : Int).toNat z87) 0) else (none)) else (none)
theorem laws_toCloudS.mono_l : ∀ k, (∀ y0 y1 y2, LeO (laws_toCloudS.l0 k y0 y1 y2) (laws_toCloudS.l0 (k + 1) y0 y1 y2))
 | 0 => fun _ _ _ r h => by simp [laws_toCloudS.l0] at h
 | k + 1 => by
  have ih0 := laws_toCloudS.mono_l k
  ·intro y0 y1 y2
   unfold laws_toCloudS.l0
   repeat' first | (with_reducible first | exact ih0 _ _ _ | exact LeO.refl _ | exact LeO.none _ | refine LeO.ite ?_ ?_ | refine LeO.bind ?_ (fun _ => ?_)) | exact LeO.none _ | refine LeO.ite ?_ ?_ | refine LeO.bind ?_ (fun _ => ?_)
theorem laws_toCloudS.mono : ∀ a0 k, LeO (laws_toCloudS.f k a0) (laws_toCloudS.f (k + 1) a0) := by
 intro a0 k
 have ih0 := laws_toCloudS.mono_l k
 unfold laws_toCloudS.f
 repeat' first | (with_reducible first | exact ih0 _ _ _ | exact LeO.refl _ | exact LeO.none _ | refine LeO.ite ?_ ?_ | refine LeO.bind ?_ (fun _ => ?_)) | exact LeO.none _ | refine LeO.ite ?_ ?_ | refine LeO.bind ?_ (fun _ => ?_)
set_option maxHeartbeats 8000000 in
set_option maxRecDepth 100000 in
theorem laws_toCloudS.calls (k : Nat) (A0 : Option Addr) (c0 : Nat) (l0 : List (S89)) (r : List (S87)) (w : World) (hr0 : Kd.C k89 w A0 l0.length l0) (hc0 : l0.length ≤ c0) (h : laws_toCloudS.f k l0 = some r) :
  Calls Try.prog 22 #[.slice A0 l0.length c0] w fun e w' => ∃ v0_ : Value, e = .returned (v0_) ∧ Kd.R k87 87 w' w.heap.size (fun _ => True) v0_ r ∧ Below w.heap.size w w' := by
 have hu89 := Try.underlying89
 have hu87 := Try.underlying87
 have HR0 := Aside0.mk hr0
 have HC0 := Aside0.mk hc0
 clear hr0 hc0
 have HB := Aside0.mk (Below.refl w.heap.size w)
 have H := h
 clear h
 unfold laws_toCloudS.f at H
 replace H := ifn_ H
 obtain ⟨c2, H⟩ := H
 have c2b0 := eq_true c2
 have c2b1 := decide_eq_true c2
 clear c2
 replace H := ifn_ H
 obtain ⟨c3, H⟩ := H
 have c3b0 := eq_true c3
 have c3b1 := decide_eq_true c3
 clear c3
 replace H : ∃ y_ : List (S87), Aside0 (y_ = (List.replicate ((l0.length : Int) : Int).toNat z87)) ∧ (laws_toCloudS.l0 k l0 y_ 0) = some r := ⟨_, ⟨rfl⟩, yh_ H⟩
 obtain ⟨y187, Ny187, H⟩ := H
 have H' := Aside0.mk H
 clear H
 go_enter Try.func22, Try.ntmps22
 go_wp2_with (first | ((with_reducible refine gate_dst (N := 7) rfl ?_); refine Kd.R_make k87 _ 87 rfl (N := 7) rfl 48 _ _ rfl (l0.length : Int) rfl rfl Try.underlying48 (.agg #[(.int .i64 0), (.int .i64 0), (.int .i64 0)]) 24 info87 rfl (by decide) (by omega) z87 (ok := fun _ => True) (okp := fun _ => True) (k87_mkM _ _ _ z87 ) (fun _ hk => hk) trivial od_ (Nat.le_trans (Nat.mul_le_mul_right _ (od_ : (l0.length : Int).toNat ≤ 11728124029610)) (by omega)) (Below.refl _ _) (Nat.le_refl _) ?_; intro v188 w4 ho5 hb hg_ hnew_; clear hg_ hnew_; (first | rw [← Ny187.out] at ho5 | (simp only [Int.reduceToNat] at ho5; rw [← Ny187.out] at ho5)); refine sh2_ (Kd.R_lower ho5 (below_size (bl_ HB))) (below_step (bl_ HB) hb) ?_; clear HB hb ho5; intro HO189 HB))
 go_loopg [4] k (fun kq v4 w' => ∃ (x3_1 : List (S87)) (x4_1 : Int), v4 = .int .i64 x4_1 ∧ Aside0 (laws_toCloudS.l0 kq l0 x3_1 x4_1 = some r) ∧ Aside0 (kq ≤ k) ∧ Aside0 (Kd.R k87 87 w' w.heap.size (fun _ => True) v188 x3_1) ∧ Aside0 (Below w.heap.size w w'))
 case atStart => exact ⟨(y187), (0), (by first | rfl | (simp; done) | (simp [*]; done)), H', ⟨Nat.le_refl _⟩, ⟨ra_ HO189⟩, ⟨bl_ HB⟩⟩
 case round =>
  clear H'
  try clear c2
  try clear c2b0
  try clear c2b1
  try clear p2
  try clear c3
  try clear c3b0
  try clear c3b1
  obtain ⟨x3_1, x4_1, rfl, HA, HK1, HO_3, HB⟩ := hrel
  cases gk with
  | zero => exact absurd HA.out (by simp [laws_toCloudS.l0])
  | succ k1 =>
   have H := HA.out
   clear HA
   simp only [laws_toCloudS.l0] at H
   by_cases c6 : x4_1 < (l0.length : Int)
   ·rw [if_pos c6] at H
    have c6b0 := decide_eq_true c6
    clear c6
    replace H := ifn_ H
    obtain ⟨c7, H⟩ := H
    have c7b0 := decide_eq_true c7
    clear c7
    replace H := bs_ H
    obtain ⟨⟨t191, t192, t193⟩, A8, H⟩ := H
    dsimp only at H
    replace H := ifn_ H
    obtain ⟨c9, H⟩ := H
    have c9b0 := decide_eq_true c9
    clear c9
    replace H : ∃ y_ : List (S87), Aside0 (y_ = (x3_1.set (x4_1 : Int).toNat (⟨t191, t192, t193⟩ : S87))) ∧ (laws_toCloudS.l0 k1 l0 y_ (wrap64 (x4_1 + 1))) = some r := ⟨_, ⟨rfl⟩, yh_ H⟩
    obtain ⟨y194, Ny194, H⟩ := H
    have H' := Aside0.mk H
    clear H
    have p190 : 0 ≤ (x4_1 : Int) := od_
    have q190 : x4_1 < (l0.length : Int) := od_
    obtain ⟨ad190, e190, hx190_0, hx190_1, hx190_2⟩ := at_T89 HR0.out x4_1 p190 q190
    cases e190
    replace hx190_0 := hbc_ HB hx190_0
    replace hx190_1 := hbc_ HB hx190_1
    replace hx190_2 := hbc_ HB hx190_2
    replace p190 := eq_true p190
    replace q190 := eq_true q190
    go_wp2_with (first | ((with_reducible refine gate_callee (f := 60) rfl ?_); refine gl_ 20 Try.func60 (laws_toCloud.calls ((rd_T89 l0 x4_1).f0) ((rd_T89 l0 x4_1).f1) ((rd_T89 l0 x4_1).f2) t191 t192 t193 _ A8.out) ?_; rintro e w11 ⟨rfl, hb⟩; refine ⟨_, rfl, sh2_ (Kd.R_below (ra_ HO_3) hb) (below_step (bl_ HB) hb) ?_⟩; clear HO_3 HB hb; intro HO_3 HB; have p10 : 0 ≤ (x4_1 : Int) := od_; have q10 : (x4_1 : Int) < ((x3_1.length : Int) : Int) := od_; obtain ⟨go10, co10, eo10, gb10, gl10, cl10, HG10⟩ := Kd.R_form HO_3.out (by omega); (first | cases eo10 | (injection eo10 with ea_ en_ ec_; (first | subst ea_ | (injection ea_ with ea_; subst ea_)); subst ec_; clear en_)); have GB10 := Aside0.mk gb10; have GG10 := Aside0.mk HG10; clear gb10 gl10 HG10; obtain ⟨ce10, hcl10, hM10, hcc10, hfr10⟩ := Kd.R_elem HO_3.out z87 (x4_1 : Int) p10 q10; obtain rfl := k87_openM hM10; have hx10_0 : w11.cell? ⟨go10, (x4_1 : Int).toNat * 3, none⟩ = some (.int .i64 ((rd_T87 x3_1 x4_1).f0)) := hcc10 0 _ rfl; have hx10_1 : w11.cell? ⟨go10, (x4_1 : Int).toNat * 3 + 1, none⟩ = some (.int .i64 ((rd_T87 x3_1 x4_1).f1)) := hcc10 1 _ rfl; have hx10_2 : w11.cell? ⟨go10, (x4_1 : Int).toNat * 3 + 2, none⟩ = some (.int .i64 ((rd_T87 x3_1 x4_1).f2)) := hcc10 2 _ rfl; have hf10_0 : w11.frozen? ⟨go10, (x4_1 : Int).toNat * 3, none⟩ = false := hfr10 0; have hf10_1 : w11.frozen? ⟨go10, (x4_1 : Int).toNat * 3 + 1, none⟩ = false := hfr10 1; have hf10_2 : w11.frozen? ⟨go10, (x4_1 : Int).toNat * 3 + 2, none⟩ = false := hfr10 2; clear hcl10 hcc10 hfr10 hM10; replace p10 := eq_true p10; replace q10 := eq_true q10; have HX12 := Aside0.mk (show Kd.R k87 87 w11 w.heap.size (fun _ => True) (.slice (some ⟨go10, 0, none⟩) x3_1.length co10) x3_1 from (ra_ HO_3)); obtain ⟨ce12, hcl12, hM12, hcc12, hfr12⟩ := Kd.R_elem HX12.out z87 (x4_1 : Int) od_ (by have h_ : (x4_1 : Int) < ((x3_1.length : Int) : Int) := od_; first | exact h_ | (have e_ := (Kd.R_reads' HO_3.out).1; omega) | simpa using h_); obtain rfl := k87_openM hM12; have HP12 := Kd.R_seg HX12.out (x4_1 : Int) od_ (by have h_ : (x4_1 : Int) < ((x3_1.length : Int) : Int) := od_; first | exact h_ | (have e_ := (Kd.R_reads' HO_3.out).1; omega) | simpa using h_) (seg := [.int .i64 t191, .int .i64 t192, .int .i64 t193]) (j := 0) hcl12 hcc12 (show 3 ≤ 3 from by decide) (x' := (⟨t191, t192, t193⟩ : S87)) (k87_mkM _ _ _ (⟨t191, t192, t193⟩ : S87) ) (fun _ hk => hk); have hx12_0 := hcc12 0 _ rfl; (try simp only [show (k87).sz = 3 from rfl, Nat.mul_one, Nat.add_zero] at hx12_0); have hf12_0 := hfr12 0; (try simp only [show (k87).sz = 3 from rfl, Nat.mul_one, Nat.add_zero] at hf12_0); have hx12_1 := hcc12 1 _ rfl; (try simp only [show (k87).sz = 3 from rfl, Nat.mul_one, Nat.add_zero] at hx12_1); have hf12_1 := hfr12 1; (try simp only [show (k87).sz = 3 from rfl, Nat.mul_one, Nat.add_zero] at hf12_1); have hx12_2 := hcc12 2 _ rfl; (try simp only [show (k87).sz = 3 from rfl, Nat.mul_one, Nat.add_zero] at hx12_2); have hf12_2 := hfr12 2; (try simp only [show (k87).sz = 3 from rfl, Nat.mul_one, Nat.add_zero] at hf12_2); clear hcl12 hcc12 hfr12 hM12) | ((with_reducible refine gate_store (t := 87) (p := 21) rfl ?_); refine store_event (t := 87) (p := 21) (v := ?vo_w13) (w1 := (((w11.setCell ⟨go10, (x4_1 : Int).toNat * 3, none⟩ (.int .i64 t191)).setCell ⟨go10, (x4_1 : Int).toNat * 3 + 1, none⟩ (.int .i64 t192)).setCell ⟨go10, (x4_1 : Int).toNat * 3 + 2, none⟩ (.int .i64 t193))) ?hg ?ho ?hn ?hr ?_; (case ho => rfl); (case hg => rfl); (case hn => rfl); (case hr => first | (go_simp; done) | (go_simp; rfl)); intro w13 hw; have hg : w11.grownBy w13 (some go10) := (by rw [hw]; exact HP12.2); have hp_ : Kd.R k87 87 w13 w.heap.size (fun _ => True) (.slice (some ⟨go10, 0, none⟩) x3_1.length co10) y194 := (by rw [hw, Ny194.out]; exact HP12.1); clear HP12; refine sh2_ hp_ ((by rw [hw]; exact below_set (below_set (below_set (HB.out) GB10.out) GB10.out) GB10.out : Below w.heap.size w w13)) ?_; clear HO_3 HB; intro HO_3 HB; clear hg hw hp_))
    go_roundg k1
    case measure => have := HK1.out; omega
    case rel => exact ⟨(y194), (wrap64 (x4_1 + 1)), (by first | rfl | (simp; done) | (simp [*]; done)), H', ⟨by have := HK1.out; omega⟩, ⟨ra_ HO_3⟩, ⟨bl_ HB⟩⟩
   ·rw [if_neg c6] at H
    have c6b0 := decide_eq_false c6
    clear c6
    obtain rfl := Option.some.inj H
    go_wp2
    go_ret
    exact ⟨_, er_, ra_ HO_3, bl_ HB⟩

section
variable {P : Program} {ops : Array Oper} {Q : Exit → Act → World → Prop}
theorem gate_fnval {rest : List Oper} {o : Oper} {a : Act} {W : World} {s : Tmp} {az : Array Operand} {ts : Array TypeId} (_ho : o.op = .call { callee := .value (.tmp s), args := az, argTypes := ts }) (h : wpList P ops Q (o :: rest) a W) : wpList P ops Q (o :: rest) a W := h
theorem goesF_ {rest : List Oper} {oi : Oper} {a : Act} {w : World} (N : Option Tmp) (hd : oi.dst = N) (hg : oi.guard = none) {f : FuncId} {lb : Array Value} {s : Tmp} {az : Array Operand} {ts : Array TypeId} (eg : ∀ args w, (callFunc f args).run P w = .ok (.enter f args) w) (args : Array Value)
  (hop : oi.op = .call { callee := .value (.tmp s), args := az, argTypes := ts }) (hs : a.eval (.tmp s) = .func (.func f) #[] lb) (hargs : az.map a.eval = args)
  (h : Calls P f (args ++ lb) w fun e w' => ∃ v, e = .returned v ∧ wpList P ops Q rest (a.put N v) w') : wpList P ops Q (oi :: rest) a w := by
 refine wpList_plain hg fun K hK => ?_
 have he := eg (args ++ lb) w
 have hrun : (execOp a.eval oi).run P w = .ok (.enter f (args ++ lb)) w := by
  unfold execOp
  simp [hop, resolve, Deferred.ofValue, invoke, hs, hargs, he]
 unfold Oper.wp
 rw [hrun, Oper.upon_enter]
 refine h.mono fun e w'' hh => ?_
 obtain ⟨v, rfl, hk⟩ := hh
 subst hd
 exact hK _ _ hk
end
/-! ### spansWhere, at any function value: function 75 -/
def sw.l0 (q : Nat → Int → Option Bool) : Nat → Int → List (S73) → Int → Option ((List (S73)))
 | 0, _, _, _ => none
 | k + 1, x1, x7, x8 => if x8 < (mn x1 1000) then ((q k x8).bind fun t198 => (if t198 = true then (if (wrap64 ((x7.length : Int) - 1)) ≥ 0 then (if 0 ≤ (wrap64 ((x7.length : Int) - 1)) then (if (wrap64 ((x7.length : Int) - 1)) < (x7.length : Int) then (if ((rd_T73 x7 (wrap64 ((x7.length : Int) - 1))).f1) = x8 then (sw.l0 q k x1 (x7.set ((wrap64 ((x7.length : Int) - 1)) : Int).toNat (⟨(rd_T73 x7 (wrap64 ((x7.length : Int) - 1))).f0, wrap64 (((rd_T73 x7 (wrap64 ((x7.length : Int) - 1))).f1) + 1)⟩ : S73)) (wrap64 (x8 + 1))) else (if x7.length < 8796093022208 then (sw.l0 q k x1 (x7 ++ [(⟨x8, wrap64 (x8 + 1)⟩ : S73)]) (wrap64 (x8 + 1))) else (none))) else (none)) else (none)) else (if x7.length < 8796093022208 then (sw.l0 q k x1 (x7 ++ [(⟨x8, wrap64 (x8 + 1)⟩ : S73)]) (wrap64 (x8 + 1))) else (none))) else (sw.l0 q k x1 x7 (wrap64 (x8 + 1))))) else (some x7)
def sw.f (q : Nat → Int → Option Bool) (k : Nat) (a0 : Int) (a1 : Int) : Option ((List (S73))) := sw.l0 q k a1 (([] : List (S73))) (mx a0 0)
theorem sw.mono_l (q : Nat → Int → Option Bool) (hm : ∀ t k, LeO (q k t) (q (k + 1) t)) : ∀ k, (∀ y0 y1 y2, LeO (sw.l0 q k y0 y1 y2) (sw.l0 q (k + 1) y0 y1 y2))
 | 0 => fun _ _ _ r h => by simp [sw.l0] at h
 | k + 1 => by
  have ih0 := sw.mono_l q hm k
  ·intro y0 y1 y2
   unfold sw.l0
   repeat' first | (with_reducible first | exact ih0 _ _ _ | exact hm _ _ | exact LeO.refl _ | exact LeO.none _ | refine LeO.ite ?_ ?_ | refine LeO.bind ?_ (fun _ => ?_)) | exact LeO.none _ | refine LeO.ite ?_ ?_ | refine LeO.bind ?_ (fun _ => ?_)
theorem sw.mono (q : Nat → Int → Option Bool) (hm : ∀ t k, LeO (q k t) (q (k + 1) t)) : ∀ a0 a1 k, LeO (sw.f q k a0 a1) (sw.f q (k + 1) a0 a1) := by
 intro a0 a1 k
 have ih0 := sw.mono_l q hm k
 unfold sw.f
 repeat' first | (with_reducible first | exact ih0 _ _ _ | exact hm _ _ | exact LeO.refl _ | exact LeO.none _ | refine LeO.ite ?_ ?_ | refine LeO.bind ?_ (fun _ => ?_)) | exact LeO.none _ | refine LeO.ite ?_ ?_ | refine LeO.bind ?_ (fun _ => ?_)
set_option maxHeartbeats 8000000 in
set_option maxRecDepth 100000 in
theorem sw.calls (q : Nat → Int → Option Bool) (k : Nat) (a0 : Int) (a1 : Int) (r : List (S73)) (w : World) (gF : FuncId) (lb : Array Value) (eg : ∀ args w, (callFunc gF args).run Try.prog w = .ok (.enter gF args) w) (hq : ∀ (k' : Nat) (t : Int) (b : Bool) (W : World), q k' t = some b → Below w.heap.size w W → Calls Try.prog gF (#[.int .i64 t] ++ lb) W fun e w' => e = .returned (.bool b) ∧ Below W.heap.size W w') (h : sw.f q k a0 a1 = some r) :
  Calls Try.prog 75 #[.int .i64 a0, .int .i64 a1, .func (.func gF) #[] lb] w fun e w' => ∃ v0_ : Value, e = .returned (v0_) ∧ Kd.R k73 73 w' w.heap.size (fun _ => True) v0_ r ∧ Below w.heap.size w w' := by
 have hu73 := Try.underlying73
 have HB := Aside0.mk (Below.refl w.heap.size w)
 have H := h
 clear h
 unfold sw.f at H
 replace H : ∃ y_ : List (S73), Aside0 (y_ = (([] : List (S73)))) ∧ (sw.l0 q k a1 y_ (mx a0 0)) = some r := ⟨_, ⟨rfl⟩, yh_ H⟩
 obtain ⟨y195, Ny195, H⟩ := H
 obtain ⟨ji4, hji4⟩ : ∃ j_ : Int, (mx a0 0) = j_ := ⟨_, rfl⟩
 replace H : (sw.l0 q k a1 y195 ji4) = some r := by first | (rw [hji4] at H; exact H) | (simp only [hji4] at H ⊢; exact H)
 (try (have hji4l : 0 ≤ ji4 := by (rw [← hji4]; unfold mx; (repeat' split) <;> omega)))
 (try (have hji4m : 0 ≤ ji4 := by omega))
 have hji4_ : (if a0 < 0 then 0 else a0) = ji4 := hji4
 have H' := Aside0.mk H
 clear H
 go_enter Try.func75, Try.ntmps75
 go_wp2_with (first | ((with_reducible refine gate_dst (N := 10) rfl ?_); refine Kd.R_lit k73 _ 73 ?hg (N := 10) ?hd (xs := ([] : List (S73))) (inner := []) (ok := fun _ => True) (okp := fun _ => True) ?hr ?hp (fun _ hk => hk) trivial (Below.refl _ _) (Nat.le_refl _) (by simp) ?_; (case hd => rfl); (case hg => rfl); (case hr => first | (go_simp; done) | (go_simp; rfl)); (case hp => exact (Reps.none _ _)); intro v196 w5 ho6 hb hg_ hnew_; clear hg_ hnew_; (first | rw [← Ny195.out] at ho6 | (simp only [Int.reduceToNat] at ho6; rw [← Ny195.out] at ho6)); refine sh2_ (Kd.R_lower ho6 (below_size (bl_ HB))) (below_step (bl_ HB) hb) ?_; clear HB hb ho6; intro HO197 HB))
 go_loopg [7, 8] k (fun kq v7 v8 w' => ∃ (x7_1 : List (S73)) (x8_1 : Int), v8 = .int .i64 x8_1 ∧ Aside0 (sw.l0 q kq a1 x7_1 x8_1 = some r) ∧ Aside0 (kq ≤ k) ∧ Aside0 (Kd.R k73 73 w' w.heap.size (fun _ => True) v7 x7_1) ∧ Aside0 (Below w.heap.size w w'))
 case atStart => exact ⟨(y195), (ji4), (by first | rfl | (simp; done) | (simp only [← hji4] <;> (first | rfl | simp)) | (simp [*]; done)), H', ⟨Nat.le_refl _⟩, ⟨ra_ HO197⟩, ⟨bl_ HB⟩⟩
 case round =>
  clear H'
  try clear p2
  obtain ⟨x7_1, x8_1, rfl, HA, HK1, HO_7, HB⟩ := hrel
  cases gk with
  | zero => exact absurd HA.out (by simp [sw.l0])
  | succ k1 =>
   have H := HA.out
   clear HA
   simp only [sw.l0] at H
   obtain ⟨ji7, hji7⟩ : ∃ j_ : Int, (mn a1 1000) = j_ := ⟨_, rfl⟩
   replace H : (if x8_1 < (ji7) then ((q k1 x8_1).bind fun t198 => (if t198 = true then (if (wrap64 ((x7_1.length : Int) - 1)) ≥ 0 then (if 0 ≤ (wrap64 ((x7_1.length : Int) - 1)) then (if (wrap64 ((x7_1.length : Int) - 1)) < (x7_1.length : Int) then (if ((rd_T73 x7_1 (wrap64 ((x7_1.length : Int) - 1))).f1) = x8_1 then (sw.l0 q k1 a1 (x7_1.set ((wrap64 ((x7_1.length : Int) - 1)) : Int).toNat (⟨(rd_T73 x7_1 (wrap64 ((x7_1.length : Int) - 1))).f0, wrap64 (((rd_T73 x7_1 (wrap64 ((x7_1.length : Int) - 1))).f1) + 1)⟩ : S73)) (wrap64 (x8_1 + 1))) else (if x7_1.length < 8796093022208 then (sw.l0 q k1 a1 (x7_1 ++ [(⟨x8_1, wrap64 (x8_1 + 1)⟩ : S73)]) (wrap64 (x8_1 + 1))) else (none))) else (none)) else (none)) else (if x7_1.length < 8796093022208 then (sw.l0 q k1 a1 (x7_1 ++ [(⟨x8_1, wrap64 (x8_1 + 1)⟩ : S73)]) (wrap64 (x8_1 + 1))) else (none))) else (sw.l0 q k1 a1 x7_1 (wrap64 (x8_1 + 1))))) else (some x7_1)) = some r := by first | (rw [hji7] at H; exact H) | (simp only [hji7] at H ⊢; exact H)
   have hji7_ : (if 1000 < a1 then 1000 else a1) = ji7 := hji7
   by_cases c8 : x8_1 < (ji7)
   ·rw [if_pos c8] at H
    have c8b0 := decide_eq_true c8
    clear c8
    replace H := bs_ H
    obtain ⟨t198, A9, H⟩ := H
    by_cases c10 : t198 = true
    ·subst c10
     rw [if_pos rfl] at H
     by_cases c11 : (wrap64 ((x7_1.length : Int) - 1)) ≥ 0
     ·rw [if_pos c11] at H
      have c11b0 : decide (0 ≤ (wrap64 ((x7_1.length : Int) - 1))) = true := decide_eq_true c11
      clear c11
      obtain ⟨ji12, hji12⟩ : ∃ j_ : Int, (wrap64 ((x7_1.length : Int) - 1)) = j_ := ⟨_, rfl⟩
      replace H : (if 0 ≤ (ji12) then (if (ji12) < (x7_1.length : Int) then (if ((rd_T73 x7_1 (ji12)).f1) = x8_1 then (sw.l0 q k1 a1 (x7_1.set ((ji12) : Int).toNat (⟨(rd_T73 x7_1 (ji12)).f0, wrap64 (((rd_T73 x7_1 (ji12)).f1) + 1)⟩ : S73)) (wrap64 (x8_1 + 1))) else (if x7_1.length < 8796093022208 then (sw.l0 q k1 a1 (x7_1 ++ [(⟨x8_1, wrap64 (x8_1 + 1)⟩ : S73)]) (wrap64 (x8_1 + 1))) else (none))) else (none)) else (none)) = some r := by first | (rw [hji12] at H; exact H) | (simp only [hji12] at H ⊢; exact H)
      (try rw [hji12] at c11b0)
      (try rw [hji12] at A9)
      have hji12w : (IntKind.i64.wrap ((x7_1.length : Int) - 1)) = ji12 := (i64_w _).trans hji12
      replace H := ifn_ H
      obtain ⟨c13, H⟩ := H
      have c13b0 := decide_eq_true c13
      clear c13
      replace H := ifn_ H
      obtain ⟨c14, H⟩ := H
      have c14b0 := decide_eq_true c14
      clear c14
      by_cases c15 : ((rd_T73 x7_1 (ji12)).f1) = x8_1
      ·rw [if_pos c15] at H
       obtain ⟨c15b0, c15b1⟩ := bt_ c15
       clear c15
       replace H : ∃ y_ : List (S73), Aside0 (y_ = (x7_1.set ((ji12) : Int).toNat (⟨(rd_T73 x7_1 (ji12)).f0, wrap64 (((rd_T73 x7_1 (ji12)).f1) + 1)⟩ : S73))) ∧ (sw.l0 q k1 a1 y_ (wrap64 (x8_1 + 1))) = some r := ⟨_, ⟨rfl⟩, yh_ H⟩
       obtain ⟨y201, Ny201, H⟩ := H
       have H' := Aside0.mk H
       clear H
       go_wp2_with (first | ((with_reducible refine gate_fnval (s := 19) rfl ?_); refine goesF_ (some 21) rfl rfl eg #[.int .i64 x8_1] rfl rfl mp_ ?_; (refine (hq k1 x8_1 true _ A9.out (bl_ HB)).mono ?_); rintro e w17 ⟨rfl, hb⟩; refine ⟨_, rfl, sh2_ (Kd.R_below (ra_ HO_7) hb) (below_step (bl_ HB) hb) ?_⟩; clear HO_7 HB hb; intro HO_7 HB; obtain ⟨Ao18, co18, eo18⟩ := Kd.R_slice HO_7.out; subst eo18; have p199 : 0 ≤ ((ji12) : Int) := od_; have q199 : (ji12) < (x7_1.length : Int) := od_; obtain ⟨ad199, e199, hx199_0, hx199_1⟩ := at_T73 (Kd.R_reads' HO_7.out).2.2 (ji12) p199 q199; cases e199; replace p199 := eq_true p199; replace q199 := eq_true q199; have p200 : 0 ≤ ((ji12) : Int) := od_; have q200 : (ji12) < (x7_1.length : Int) := od_; obtain ⟨ad200, e200, hx200_0, hx200_1⟩ := at_T73 (Kd.R_reads' HO_7.out).2.2 (ji12) p200 q200; obtain rfl : ad199 = ad200 := (by injection e200); replace p200 := eq_true p200; replace q200 := eq_true q200; have p16 : 0 ≤ ((ji12) : Int) := od_; have q16 : ((ji12) : Int) < ((x7_1.length : Int) : Int) := od_; obtain ⟨go16, co16, eo16, gb16, gl16, cl16, HG16⟩ := Kd.R_form HO_7.out (by omega); (first | cases eo16 | (injection eo16 with ea_ en_ ec_; (first | subst ea_ | (injection ea_ with ea_; subst ea_)); subst ec_; clear en_)); have GB16 := Aside0.mk gb16; have GG16 := Aside0.mk HG16; clear gb16 gl16 HG16; (first | simp only [add_plain] at hx199_0 | skip); (first | simp only [add_plain] at hx199_1 | skip); (first | simp only [add_plain] at hx200_0 | skip); (first | simp only [add_plain] at hx200_1 | skip); obtain ⟨ce16, hcl16, hM16, hcc16, hfr16⟩ := Kd.R_elem HO_7.out z73 ((ji12) : Int) p16 q16; obtain rfl := k73_openM hM16; have hx16_0 : w17.cell? ⟨go16, ((ji12) : Int).toNat * 2, none⟩ = some (.int .i64 ((rd_T73 x7_1 (ji12)).f0)) := hcc16 0 _ rfl; have hx16_1 : w17.cell? ⟨go16, ((ji12) : Int).toNat * 2 + 1, none⟩ = some (.int .i64 ((rd_T73 x7_1 (ji12)).f1)) := hcc16 1 _ rfl; have hf16_0 : w17.frozen? ⟨go16, ((ji12) : Int).toNat * 2, none⟩ = false := hfr16 0; have hf16_1 : w17.frozen? ⟨go16, ((ji12) : Int).toNat * 2 + 1, none⟩ = false := hfr16 1; clear hcl16 hcc16 hfr16 hM16; replace p16 := eq_true p16; replace q16 := eq_true q16; have HX19 := Aside0.mk (show Kd.R k73 73 w17 w.heap.size (fun _ => True) (.slice (some ⟨go16, 0, none⟩) x7_1.length co18) x7_1 from (ra_ HO_7)); obtain ⟨ce19, hcl19, hM19, hcc19, hfr19⟩ := Kd.R_elem HX19.out z73 ((ji12) : Int) od_ (by have h_ : ((ji12) : Int) < ((x7_1.length : Int) : Int) := od_; first | exact h_ | (have e_ := (Kd.R_reads' HO_7.out).1; omega) | simpa using h_); obtain rfl := k73_openM hM19; have HP19 := Kd.R_seg HX19.out ((ji12) : Int) od_ (by have h_ : ((ji12) : Int) < ((x7_1.length : Int) : Int) := od_; first | exact h_ | (have e_ := (Kd.R_reads' HO_7.out).1; omega) | simpa using h_) (seg := [.int .i64 (wrap64 (((rd_T73 x7_1 (ji12)).f1) + 1))]) (j := 1) hcl19 hcc19 (show 2 ≤ 2 from by decide) (x' := (⟨(rd_T73 x7_1 (ji12)).f0, wrap64 (((rd_T73 x7_1 (ji12)).f1) + 1)⟩ : S73)) (k73_mkM _ _ _ (⟨(rd_T73 x7_1 (ji12)).f0, wrap64 (((rd_T73 x7_1 (ji12)).f1) + 1)⟩ : S73) ) (fun _ hk => hk); have hx19_1 := hcc19 1 _ rfl; (try simp only [show (k73).sz = 2 from rfl, Nat.mul_one, Nat.add_zero] at hx19_1); have hf19_1 := hfr19 1; (try simp only [show (k73).sz = 2 from rfl, Nat.mul_one, Nat.add_zero] at hf19_1); clear hcl19 hcc19 hfr19 hM19) | ((with_reducible refine gate_store (t := 3) (p := 44) rfl ?_); refine store_event (t := 3) (p := 44) (v := ?vo_w20) (w1 := (w17.setCell ⟨go16, ((ji12) : Int).toNat * 2 + 1, none⟩ (.int .i64 (wrap64 (((rd_T73 x7_1 (ji12)).f1) + 1))))) ?hg ?ho ?hn ?hr ?_; (case ho => rfl); (case hg => rfl); (case hn => rfl); (case hr => first | (go_simp; done) | (go_simp; rfl)); intro w20 hw; have hg : w17.grownBy w20 (some go16) := (by rw [hw]; exact HP19.2); have hp_ : Kd.R k73 73 w20 w.heap.size (fun _ => True) (.slice (some ⟨go16, 0, none⟩) x7_1.length co18) y201 := (by rw [hw, Ny201.out]; exact HP19.1); clear HP19; refine sh2_ hp_ ((by rw [hw]; exact below_set (HB.out) GB16.out : Below w.heap.size w w20)) ?_; clear HO_7 HB; intro HO_7 HB; clear hg hw hp_))
       go_roundg k1
       case measure => have := HK1.out; omega
       case rel => exact ⟨(y201), (wrap64 (x8_1 + 1)), (by first | rfl | (simp; done) | (simp [*]; done)), H', ⟨by have := HK1.out; omega⟩, ⟨ra_ HO_7⟩, ⟨bl_ HB⟩⟩
      ·rw [if_neg c15] at H
       obtain ⟨c15b0, c15b1⟩ := bn_ c15
       replace H := ifn_ H
       obtain ⟨c21, H⟩ := H
       have LMc21 := Aside0.mk c21
       clear c21
       replace H : ∃ y_ : List (S73), Aside0 (y_ = (x7_1 ++ [(⟨x8_1, wrap64 (x8_1 + 1)⟩ : S73)])) ∧ (sw.l0 q k1 a1 y_ (wrap64 (x8_1 + 1))) = some r := ⟨_, ⟨rfl⟩, yh_ H⟩
       obtain ⟨y202, Ny202, H⟩ := H
       have H' := Aside0.mk H
       clear H
       go_wp2_with (first | ((with_reducible refine gate_fnval (s := 19) rfl ?_); refine goesF_ (some 21) rfl rfl eg #[.int .i64 x8_1] rfl rfl mp_ ?_; (refine (hq k1 x8_1 true _ A9.out (bl_ HB)).mono ?_); rintro e w22 ⟨rfl, hb⟩; refine ⟨_, rfl, sh2_ (Kd.R_below (ra_ HO_7) hb) (below_step (bl_ HB) hb) ?_⟩; clear HO_7 HB hb; intro HO_7 HB; obtain ⟨Ao23, co23, eo23⟩ := Kd.R_slice HO_7.out; subst eo23; have p199 : 0 ≤ ((ji12) : Int) := od_; have q199 : (ji12) < (x7_1.length : Int) := od_; obtain ⟨ad199, e199, hx199_0, hx199_1⟩ := at_T73 (Kd.R_reads' HO_7.out).2.2 (ji12) p199 q199; cases e199; replace p199 := eq_true p199; replace q199 := eq_true q199) | ((with_reducible refine gate_builtin (b := .append) (xs := #[.tmp 45, .tmp 50]) rfl ?_); at_builtin; refine Kd.R_append k73 (w0 := w) w.heap.size rfl (.tmp 45) (.tmp 50) 28 73 (.agg #[(.int .i64 0), (.int .i64 0)]) 16 rfl Try.underlying28 info73 rfl (by decide) (by omega) (.slice (some ad199) x7_1.length co23) x7_1 (⟨x8_1, wrap64 (x8_1 + 1)⟩ : S73) [.int .i64 x8_1, .int .i64 (wrap64 (x8_1 + 1))] (fun _ => True) (fun _ => False) rfl rfl ?aP (fun _ hk => hk.elim) ?aF ?aO ?aB ?aS ?aL ?_; (case aP => exact k73_mkM _ _ _ (⟨x8_1, wrap64 (x8_1 + 1)⟩ : S73)); (case aB => exact (bl_ HB)); (case aF => exact (fun _ _ => trivial)); (case aO => exact (ra_ HO_7)); (case aS => exact (below_size (bl_ HB))); (case aL => have := LMc21.out; omega); intro v203 w24 ho hb hg hat; rw [← Ny202.out] at ho; refine sh2_ hb ho ?_; clear HB HO_7 ho hb hg hat; intro HB HO204))
       go_roundg k1
       case measure => have := HK1.out; omega
       case rel => exact ⟨(y202), (wrap64 (x8_1 + 1)), (by first | rfl | (simp; done) | (simp [*]; done)), H', ⟨by have := HK1.out; omega⟩, ⟨ra_ HO204⟩, ⟨bl_ HB⟩⟩
     ·rw [if_neg c11] at H
      have c11b0 : decide (0 ≤ (wrap64 ((x7_1.length : Int) - 1))) = false := decide_eq_false c11
      clear c11
      replace H := ifn_ H
      obtain ⟨c25, H⟩ := H
      have LMc25 := Aside0.mk c25
      clear c25
      replace H : ∃ y_ : List (S73), Aside0 (y_ = (x7_1 ++ [(⟨x8_1, wrap64 (x8_1 + 1)⟩ : S73)])) ∧ (sw.l0 q k1 a1 y_ (wrap64 (x8_1 + 1))) = some r := ⟨_, ⟨rfl⟩, yh_ H⟩
      obtain ⟨y205, Ny205, H⟩ := H
      have H' := Aside0.mk H
      clear H
      go_wp2_with (first | ((with_reducible refine gate_fnval (s := 19) rfl ?_); refine goesF_ (some 21) rfl rfl eg #[.int .i64 x8_1] rfl rfl mp_ ?_; (refine (hq k1 x8_1 true _ A9.out (bl_ HB)).mono ?_); rintro e w26 ⟨rfl, hb⟩; refine ⟨_, rfl, sh2_ (Kd.R_below (ra_ HO_7) hb) (below_step (bl_ HB) hb) ?_⟩; clear HO_7 HB hb; intro HO_7 HB; obtain ⟨Ao27, co27, eo27⟩ := Kd.R_slice HO_7.out; subst eo27) | ((with_reducible refine gate_builtin (b := .append) (xs := #[.tmp 45, .tmp 50]) rfl ?_); at_builtin; refine Kd.R_append k73 (w0 := w) w.heap.size rfl (.tmp 45) (.tmp 50) 28 73 (.agg #[(.int .i64 0), (.int .i64 0)]) 16 rfl Try.underlying28 info73 rfl (by decide) (by omega) (.slice Ao27 x7_1.length co27) x7_1 (⟨x8_1, wrap64 (x8_1 + 1)⟩ : S73) [.int .i64 x8_1, .int .i64 (wrap64 (x8_1 + 1))] (fun _ => True) (fun _ => False) rfl rfl ?aP (fun _ hk => hk.elim) ?aF ?aO ?aB ?aS ?aL ?_; (case aP => exact k73_mkM _ _ _ (⟨x8_1, wrap64 (x8_1 + 1)⟩ : S73)); (case aB => exact (bl_ HB)); (case aF => exact (fun _ _ => trivial)); (case aO => exact (ra_ HO_7)); (case aS => exact (below_size (bl_ HB))); (case aL => have := LMc25.out; omega); intro v206 w28 ho hb hg hat; rw [← Ny205.out] at ho; refine sh2_ hb ho ?_; clear HB HO_7 ho hb hg hat; intro HB HO207))
      go_roundg k1
      case measure => have := HK1.out; omega
      case rel => exact ⟨(y205), (wrap64 (x8_1 + 1)), (by first | rfl | (simp; done) | (simp [*]; done)), H', ⟨by have := HK1.out; omega⟩, ⟨ra_ HO207⟩, ⟨bl_ HB⟩⟩
    ·replace c10 := Bool.eq_false_iff.mpr c10
     subst c10
     have H1 : (sw.l0 q k1 a1 x7_1 (wrap64 (x8_1 + 1))) = some r := by rw [if_neg (show ¬ (false = true) by decide)] at H; exact H
     clear H
     have H := H1
     clear H1
     have H' := Aside0.mk H
     clear H
     go_wp2_with (first | ((with_reducible refine gate_fnval (s := 19) rfl ?_); refine goesF_ (some 21) rfl rfl eg #[.int .i64 x8_1] rfl rfl mp_ ?_; (refine (hq k1 x8_1 false _ A9.out (bl_ HB)).mono ?_); rintro e w29 ⟨rfl, hb⟩; refine ⟨_, rfl, sh2_ (Kd.R_below (ra_ HO_7) hb) (below_step (bl_ HB) hb) ?_⟩; clear HO_7 HB hb; intro HO_7 HB))
     go_roundg k1
     case measure => have := HK1.out; omega
     case rel => exact ⟨(x7_1), (wrap64 (x8_1 + 1)), (by first | rfl | (simp; done) | (simp [*]; done)), H', ⟨by have := HK1.out; omega⟩, ⟨ra_ HO_7⟩, ⟨bl_ HB⟩⟩
   ·rw [if_neg c8] at H
    have c8b0 : decide (x8_1 < (ji7)) = false := decide_eq_false c8
    clear c8
    obtain rfl := Option.some.inj H
    go_wp2
    go_ret
    exact ⟨_, by first | rfl | (simp [errW_none, errW_some] <;> rfl) | (simp only [← hji4, ← hji7]; first | rfl | (simp [errW_none, errW_some] <;> rfl)) | (simp [*, errW_none, errW_some] <;> rfl), ra_ HO_7, bl_ HB⟩

/-! ### impl_IsSpan: function 96 -/
def impl_IsSpan.f (a0_0 : Int) (a0_1 : Int) : Option (Bool) := if a0_0 ≥ 0 then (if a0_1 ≤ 1000 then (some (decide (a0_0 < a0_1))) else (some false)) else (some false)
set_option maxHeartbeats 8000000 in
set_option maxRecDepth 100000 in
theorem impl_IsSpan.calls (a0_0 : Int) (a0_1 : Int) (r : Bool) (w : World) (h : impl_IsSpan.f a0_0 a0_1 = some r) :
  Calls Try.prog 96 #[.agg #[.int .i64 a0_0, .int .i64 a0_1]] w fun e w' => e = .returned (.bool r) ∧ Below w.heap.size w w' := by
 have hu73 := Try.underlying73
 have HB := Aside0.mk (Below.refl w.heap.size w)
 have H := h
 clear h
 unfold impl_IsSpan.f at H
 by_cases c2 : a0_0 ≥ 0
 ·rw [if_pos c2] at H
  have c2b0 : decide (0 ≤ a0_0) = true := decide_eq_true c2
  clear c2
  by_cases c3 : a0_1 ≤ 1000
  ·rw [if_pos c3] at H
   have c3b0 := decide_eq_true c3
   clear c3
   obtain rfl := Option.some.inj H
   go_enter Try.func96, Try.ntmps96
   go_wp2_with (first | ((with_reducible refine gd_ 1 ?_); refine bx_ 1 73 #[.int .i64 a0_0, .int .i64 a0_1] ?_; intro gb208 hg w4 hbox hb; refine sh4_ (below_step (bl_ HB) hb) hbox (ge_ hg (bl_ HB)) (ge_ hg (bl_ HB)) ?_; clear HB hb hbox hg; intro HB BK208 GW208 GE208; have hcz5 := cf2_ BK208))
   go_ret
   exact ⟨er_, bl1_ HB GE208⟩
  ·rw [if_neg c3] at H
   have c3b0 := decide_eq_false c3
   clear c3
   obtain rfl := Option.some.inj H
   go_enter Try.func96, Try.ntmps96
   go_wp2_with (first | ((with_reducible refine gd_ 1 ?_); refine bx_ 1 73 #[.int .i64 a0_0, .int .i64 a0_1] ?_; intro gb208 hg w6 hbox hb; refine sh4_ (below_step (bl_ HB) hb) hbox (ge_ hg (bl_ HB)) (ge_ hg (bl_ HB)) ?_; clear HB hb hbox hg; intro HB BK208 GW208 GE208; have hcz7 := cf2_ BK208))
   go_ret
   exact ⟨er_, bl1_ HB GE208⟩
 ·rw [if_neg c2] at H
  have c2b0 : decide (0 ≤ a0_0) = false := decide_eq_false c2
  clear c2
  obtain rfl := Option.some.inj H
  go_enter Try.func96, Try.ntmps96
  go_wp2_with (first | ((with_reducible refine gd_ 1 ?_); refine bx_ 1 73 #[.int .i64 a0_0, .int .i64 a0_1] ?_; intro gb208 hg w8 hbox hb; refine sh4_ (below_step (bl_ HB) hb) hbox (ge_ hg (bl_ HB)) (ge_ hg (bl_ HB)) ?_; clear HB hb hbox hg; intro HB BK208 GW208 GE208; have hcz9 := cf2_ BK208))
  go_ret
  exact ⟨er_, bl1_ HB GE208⟩

end Go.Proofs.Ytcjfalmhohcifaa.PFnExactCutClouds
