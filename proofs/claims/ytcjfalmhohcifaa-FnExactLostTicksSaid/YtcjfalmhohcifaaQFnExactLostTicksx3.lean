-- Written by a program of this session for this claim (the kit's printer with changes).
import Derived.Test.YtcjfalmhohcifaaQFnExactLostTicksx0
import Derived.Test.YtcjfalmhohcifaaQFnExactLostTicksx1
import Derived.Test.YtcjfalmhohcifaaQFnExactLostTicksx2
namespace Go.Proofs.Ytcjfalmhohcifaa.PFnExactLostTicks
open Go.RowKit Go.Proofs.YtcjfalmhohcifaaW.PrintWords Go.Proofs.YtcjfalmhohcifaaW.PrintLast Go.Proofs.YtcjfalmhohcifaaW.PrintMore
attribute [local go_sem] max2_int min2_int max_two min_two max_three min_three max_four min_four   -- for this text's walks alone
set_option linter.unusedVariables false
set_option linter.unusedSimpArgs false

/-! ### spec_CutClouds: function 20 -/
mutual
def spec_CutClouds.l0 : Nat → List (S82) → List (S87) → List (S82) → Int → Option ((List (S82)))
 | 0, _, _, _, _ => none
 | k + 1, x0, x1, x5, x6 => if x6 < (x0.length : Int) then (if 0 ≤ x6 then ((spec_CloudSpans.f k x1 ((rd_T82 x0 x6).f0)).bind fun t188 => ((spec_CutSpans.f k (([(⟨(rd_T82 x0 x6).f2, (rd_T82 x0 x6).f3⟩ : S73)] : List (S73))) t188).bind fun t191 => ((spec_CloudSpans.f k x1 ((rd_T82 x0 x6).f1)).bind fun t194 => ((spec_CutSpans.f k t191 t194).bind fun t197 => (spec_CutClouds.l1 k x0 x1 x5 x6 t197 0 ((rd_T82 x0 x6).f0) ((rd_T82 x0 x6).f1) ((rd_T82 x0 x6).f2) ((rd_T82 x0 x6).f3)))))) else (none)) else (some x5)
def spec_CutClouds.l1 : Nat → List (S82) → List (S87) → List (S82) → Int → List (S73) → Int → Int → Int → Int → Int → Option ((List (S82)))
 | 0, _, _, _, _, _, _, _, _, _, _ => none
 | k + 1, x0, x1, x5, x6, x8, x9, x185000, x185001, x185002, x185003 => if x9 < (x8.length : Int) then (if 0 ≤ x9 then (if x5.length < 4398046511104 then (spec_CutClouds.l1 k x0 x1 (x5 ++ [(⟨x185000, x185001, (rd_T73 x8 x9).f0, (rd_T73 x8 x9).f1⟩ : S82)]) x6 x8 (wrap64 (x9 + 1)) x185000 x185001 x185002 x185003) else (none)) else (none)) else (spec_CutClouds.l0 k x0 x1 x5 (wrap64 (x6 + 1)))
end
def spec_CutClouds.f (k : Nat) (l0 : List (S82)) (l1 : List (S87)) : Option ((List (S82))) := spec_CutClouds.l0 k l0 l1 (([] : List (S82))) 0
theorem spec_CutClouds.mono_l : ∀ k, (∀ y0 y1 y2 y3, LeO (spec_CutClouds.l0 k y0 y1 y2 y3) (spec_CutClouds.l0 (k + 1) y0 y1 y2 y3)) ∧ (∀ y0 y1 y2 y3 y4 y5 y6 y7 y8 y9, LeO (spec_CutClouds.l1 k y0 y1 y2 y3 y4 y5 y6 y7 y8 y9) (spec_CutClouds.l1 (k + 1) y0 y1 y2 y3 y4 y5 y6 y7 y8 y9))
 | 0 => ⟨fun _ _ _ _ r h => by simp [spec_CutClouds.l0] at h, fun _ _ _ _ _ _ _ _ _ _ r h => by simp [spec_CutClouds.l1] at h⟩
 | k + 1 => by
  obtain ⟨ih0, ih1⟩ := spec_CutClouds.mono_l k
  refine ⟨?_, ?_⟩
  ·intro y0 y1 y2 y3
   unfold spec_CutClouds.l0
   repeat' first | (with_reducible first | exact ih0 _ _ _ _ | exact ih1 _ _ _ _ _ _ _ _ _ _ | exact spec_CloudSpans.mono _ _ _ | exact spec_CutSpans.mono _ _ _ | exact LeO.refl _ | exact LeO.none _ | refine LeO.ite ?_ ?_ | refine LeO.bind ?_ (fun _ => ?_)) | exact LeO.none _ | refine LeO.ite ?_ ?_ | refine LeO.bind ?_ (fun _ => ?_)
  ·intro y0 y1 y2 y3 y4 y5 y6 y7 y8 y9
   unfold spec_CutClouds.l1
   repeat' first | (with_reducible first | exact ih0 _ _ _ _ | exact ih1 _ _ _ _ _ _ _ _ _ _ | exact spec_CloudSpans.mono _ _ _ | exact spec_CutSpans.mono _ _ _ | exact LeO.refl _ | exact LeO.none _ | refine LeO.ite ?_ ?_ | refine LeO.bind ?_ (fun _ => ?_)) | exact LeO.none _ | refine LeO.ite ?_ ?_ | refine LeO.bind ?_ (fun _ => ?_)
theorem spec_CutClouds.mono : ∀ a0 a1 k, LeO (spec_CutClouds.f k a0 a1) (spec_CutClouds.f (k + 1) a0 a1) := by
 intro a0 a1 k
 obtain ⟨ih0, ih1⟩ := spec_CutClouds.mono_l k
 unfold spec_CutClouds.f
 repeat' first | (with_reducible first | exact ih0 _ _ _ _ | exact ih1 _ _ _ _ _ _ _ _ _ _ | exact spec_CloudSpans.mono _ _ _ | exact spec_CutSpans.mono _ _ _ | exact LeO.refl _ | exact LeO.none _ | refine LeO.ite ?_ ?_ | refine LeO.bind ?_ (fun _ => ?_)) | exact LeO.none _ | refine LeO.ite ?_ ?_ | refine LeO.bind ?_ (fun _ => ?_)
def spec_CutClouds.T6 : Bool × List (List Nat × List Nat) := (true, [([], []), ([0], [0]), ([], []), ([2], [2]), ([1, 3], [1, 3]), ([4], [4]), ([], []), ([], []), ([7], [7]), ([6, 8], [6, 8]), ([5, 9, 9], [5, 9]), ([10, 10, 0, 1, 2, 3, 4, 5, 6, 7, 8, 9, 10], [10])])
def spec_CutClouds.B6 : List Nat := [0, 1, 0, 4, 15, 31, 0, 0, 128, 448, 1023, 2047]
theorem spec_CutClouds.tab6 : rtab .any (opsOf Try.f20 6) = spec_CutClouds.T6 := by kernel_rfl
theorem spec_CutClouds.bits6 : waitsOk spec_CutClouds.T6.2 spec_CutClouds.B6 = true := by kernel_rfl
def spec_CutClouds.T11 : Bool × List (List Nat × List Nat) := (true, [([], []), ([], []), ([1], [1]), ([], []), ([3], [3]), ([], []), ([], []), ([5, 6], [5, 6]), ([7], [7]), ([8], [8]), ([], []), ([], []), ([10, 11], [10, 11]), ([12], [12]), ([13], [13]), ([2, 4, 9, 14], [2, 4, 9, 14]), ([15], [15]), ([0, 16], [0, 16]), ([17, 17, 0, 1, 2, 3, 4, 5, 6, 7, 8, 9, 10, 11, 12, 13, 14, 15, 16, 17], [0, 17])])
def spec_CutClouds.B11 : List Nat := [0, 0, 2, 0, 8, 0, 0, 96, 224, 480, 0, 0, 3072, 7168, 15360, 32766, 65534, 131071, 262143]
theorem spec_CutClouds.tab11 : rtab .any (opsOf Try.f20 11) = spec_CutClouds.T11 := by kernel_rfl
theorem spec_CutClouds.bits11 : waitsOk spec_CutClouds.T11.2 spec_CutClouds.B11 = true := by kernel_rfl
set_option maxHeartbeats 8000000 in
set_option maxRecDepth 100000 in
theorem spec_CutClouds.calls (k : Nat) (A0 : Option Addr) (c0 : Nat) (l0 : List (S82)) (A1 : Option Addr) (c1 : Nat) (l1 : List (S87)) (r : List (S82)) (w : World) (hr0 : Kd.C k82 w A0 l0.length l0) (hc0 : l0.length ≤ c0) (hr1 : Kd.C k87 w A1 l1.length l1) (hc1 : l1.length ≤ c1) (h : spec_CutClouds.f k l0 l1 = some r) :
  Calls Try.prog 20 #[.slice A0 l0.length c0, .slice A1 l1.length c1] w fun e w' => ∃ v0_ : Value, e = .returned (v0_) ∧ Kd.R k82 82 w' w.heap.size (fun _ => True) v0_ r ∧ Below w.heap.size w w' := by
 have hu82 := Try.underlying82
 have hu73 := Try.underlying73
 have HR0 := Aside0.mk hr0
 have HC0 := Aside0.mk hc0
 clear hr0 hc0
 have HR1 := Aside0.mk hr1
 have HC1 := Aside0.mk hc1
 clear hr1 hc1
 have HB := Aside0.mk (Below.refl w.heap.size w)
 have H := h
 clear h
 unfold spec_CutClouds.f at H
 replace H : ∃ y_ : List (S82), Aside0 (y_ = (([] : List (S82)))) ∧ (spec_CutClouds.l0 k l0 l1 y_ 0) = some r := ⟨_, ⟨rfl⟩, yh_ H⟩
 obtain ⟨y180, Ny180, H⟩ := H
 have H' := Aside0.mk H
 clear H
 go_enter Try.func20, Try.ntmps20
 go_wp2_with (first | ((with_reducible refine gate_dst (N := 10) rfl ?_); refine Kd.R_lit k82 _ 82 ?hg (N := 10) ?hd (xs := ([] : List (S82))) (inner := []) (ok := fun _ => True) (okp := fun _ => True) ?hr ?hp (fun _ hk => hk) trivial (Below.refl _ _) (Nat.le_refl _) (by simp) ?_; (case hd => rfl); (case hg => rfl); (case hr => first | (go_simp; done) | (go_simp; rfl)); (case hp => exact (Reps.none _ _)); intro v181 w3 ho4 hb hg_ hnew_; clear hg_ hnew_; (first | rw [← Ny180.out] at ho4 | (simp only [Int.reduceToNat] at ho4; rw [← Ny180.out] at ho4)); refine sh2_ (Kd.R_lower ho4 (below_size (bl_ HB))) (below_step (bl_ HB) hb) ?_; clear HB hb ho4; intro HO182 HB))
 go_loopg [5, 6] k (fun kq v5 v6 w' => ∃ (x5_1 : List (S82)) (x6_1 : Int), v6 = .int .i64 x6_1 ∧ Aside0 (spec_CutClouds.l0 kq l0 l1 x5_1 x6_1 = some r) ∧ Aside0 (kq ≤ k) ∧ Aside0 (Kd.R k82 82 w' w.heap.size (fun _ => True) v5 x5_1) ∧ Aside0 (Below w.heap.size w w'))
 case atStart => exact ⟨(y180), (0), (by first | rfl | (simp; done) | (simp [*]; done)), H', ⟨Nat.le_refl _⟩, ⟨ra_ HO182⟩, ⟨bl_ HB⟩⟩
 case round =>
  clear H'
  try clear c1
  try clear c2
  try clear p2
  obtain ⟨x5_1, x6_1, rfl, HA, HK1, HO_5, HB⟩ := hrel
  cases gk with
  | zero => exact absurd HA.out (by simp [spec_CutClouds.l0])
  | succ k1 =>
   have H := HA.out
   clear HA
   simp only [spec_CutClouds.l0] at H
   by_cases c5 : x6_1 < (l0.length : Int)
   ·rw [if_pos c5] at H
    have c5b0 := decide_eq_true c5
    clear c5
    replace H := ifn_ H
    obtain ⟨c6, H⟩ := H
    have c6b0 := decide_eq_true c6
    clear c6
    replace H : ∃ y_ : List (S73), Aside0 (y_ = (([(⟨(rd_T82 l0 x6_1).f2, (rd_T82 l0 x6_1).f3⟩ : S73)] : List (S73)))) ∧ ((spec_CloudSpans.f k1 l1 ((rd_T82 l0 x6_1).f0)).bind fun t188 => ((spec_CutSpans.f k1 y_ t188).bind fun t191 => ((spec_CloudSpans.f k1 l1 ((rd_T82 l0 x6_1).f1)).bind fun t194 => ((spec_CutSpans.f k1 t191 t194).bind fun t197 => (spec_CutClouds.l1 k1 l0 l1 x5_1 x6_1 t197 0 ((rd_T82 l0 x6_1).f0) ((rd_T82 l0 x6_1).f1) ((rd_T82 l0 x6_1).f2) ((rd_T82 l0 x6_1).f3)))))) = some r := ⟨_, ⟨rfl⟩, yh_ H⟩
    obtain ⟨y185, Ny185, H⟩ := H
    replace H := bs_ H
    obtain ⟨t188, A7, H⟩ := H
    replace H := bs_ H
    obtain ⟨t191, A8, H⟩ := H
    replace H := bs_ H
    obtain ⟨t194, A9, H⟩ := H
    replace H := bs_ H
    obtain ⟨t197, A10, H⟩ := H
    have H' := Aside0.mk H
    clear H
    have p183 : 0 ≤ (x6_1 : Int) := od_
    have q183 : x6_1 < (l0.length : Int) := od_
    obtain ⟨ad183, e183, hx183_0, hx183_1, hx183_2, hx183_3⟩ := at_T82 HR0.out x6_1 p183 q183
    cases e183
    replace hx183_0 := hbc_ HB hx183_0
    replace hx183_1 := hbc_ HB hx183_1
    replace hx183_2 := hbc_ HB hx183_2
    replace hx183_3 := hbc_ HB hx183_3
    replace p183 := eq_true p183
    replace q183 := eq_true q183
    try go_wp2_with (first | ((with_reducible refine gd_ 7 ?_); refine bx_ 7 82 #[.int .i64 0, .int .i64 0, .int .i64 0, .int .i64 0] ?_; intro gb184 hg w11 hbox hb; refine sh5_ (Kd.R_below (Kd.R_elderB (ra_ HO_5) gb184 (Nat.le_of_eq hg.symm)) hb) (below_step (bl_ HB) hb) hbox (ge_ hg (bl_ HB)) (ge_ hg (bl_ HB)) ?_; clear HO_5 HB hb hbox hg; intro HO_5 HB BK184 GW184 GE184; have hcz12 := cf4_ BK184))
    have n0_ : Aside0 (Kd.R k82 82 ((((w11.setCell ⟨gb184, 0, none⟩ (.int .i64 ((rd_T82 l0 x6_1).f0))).setCell ⟨gb184, 1, none⟩ (.int .i64 ((rd_T82 l0 x6_1).f1))).setCell ⟨gb184, 2, none⟩ (.int .i64 ((rd_T82 l0 x6_1).f2))).setCell ⟨gb184, 3, none⟩ (.int .i64 ((rd_T82 l0 x6_1).f3))) w.heap.size (fun k_ => k_ ≠ gb184) u5 x5_1) := ⟨by (with_reducible repeat (first | apply Kd.R_alloc | apply Kd.R_drewN | apply Kd.R_drew)); exact Kd.R_mono (Kd.R_far (p := ⟨gb184, 3, none⟩) (Kd.R_far (p := ⟨gb184, 2, none⟩) (Kd.R_far (p := ⟨gb184, 1, none⟩) (Kd.R_far (p := ⟨gb184, 0, none⟩) (Kd.R_mono HO_5.out (fun k_ hk => (⟨hk, hk.2⟩ : _ ∧ k_ ≠ gb184))) (fun _ hk => hk.2) (.int .i64 ((rd_T82 l0 x6_1).f0))) (fun _ hk => hk.2) (.int .i64 ((rd_T82 l0 x6_1).f1))) (fun _ hk => hk.2) (.int .i64 ((rd_T82 l0 x6_1).f2))) (fun _ hk => hk.2) (.int .i64 ((rd_T82 l0 x6_1).f3))) (fun _ hk => hk.1.2)⟩
    have n1_ : Aside0 (((((w11.setCell ⟨gb184, 0, none⟩ (.int .i64 ((rd_T82 l0 x6_1).f0))).setCell ⟨gb184, 1, none⟩ (.int .i64 ((rd_T82 l0 x6_1).f1))).setCell ⟨gb184, 2, none⟩ (.int .i64 ((rd_T82 l0 x6_1).f2))).setCell ⟨gb184, 3, none⟩ (.int .i64 ((rd_T82 l0 x6_1).f3))).heap[gb184]? = some (.cells #[.int .i64 ((rd_T82 l0 x6_1).f0), .int .i64 ((rd_T82 l0 x6_1).f1), .int .i64 ((rd_T82 l0 x6_1).f2), .int .i64 ((rd_T82 l0 x6_1).f3)] 82 (0, 0))) := ⟨by (with_reducible repeat (first | refine blk_drewN ?_ _ | refine blk_drew ?_ | refine blk_alloc ?_ _)); refine blk_put (cs := #[.int .i64 ((rd_T82 l0 x6_1).f0), .int .i64 ((rd_T82 l0 x6_1).f1), .int .i64 ((rd_T82 l0 x6_1).f2), .int .i64 0]) ?_ 3 _ rfl; (with_reducible repeat (first | refine blk_drewN ?_ _ | refine blk_drew ?_ | refine blk_alloc ?_ _)); refine blk_put (cs := #[.int .i64 ((rd_T82 l0 x6_1).f0), .int .i64 ((rd_T82 l0 x6_1).f1), .int .i64 0, .int .i64 0]) ?_ 2 _ rfl; (with_reducible repeat (first | refine blk_drewN ?_ _ | refine blk_drew ?_ | refine blk_alloc ?_ _)); refine blk_put (cs := #[.int .i64 ((rd_T82 l0 x6_1).f0), .int .i64 0, .int .i64 0, .int .i64 0]) ?_ 1 _ rfl; (with_reducible repeat (first | refine blk_drewN ?_ _ | refine blk_drew ?_ | refine blk_alloc ?_ _)); refine blk_put (cs := #[.int .i64 0, .int .i64 0, .int .i64 0, .int .i64 0]) ?_ 0 _ rfl; (with_reducible repeat (first | refine blk_drewN ?_ _ | refine blk_drew ?_ | refine blk_alloc ?_ _)); exact BK184.out⟩
    have n2_ : Aside0 (Below w.heap.size w ((((w11.setCell ⟨gb184, 0, none⟩ (.int .i64 ((rd_T82 l0 x6_1).f0))).setCell ⟨gb184, 1, none⟩ (.int .i64 ((rd_T82 l0 x6_1).f1))).setCell ⟨gb184, 2, none⟩ (.int .i64 ((rd_T82 l0 x6_1).f2))).setCell ⟨gb184, 3, none⟩ (.int .i64 ((rd_T82 l0 x6_1).f3)))) := ⟨bl1_ HB GE184⟩
    (try clear HO_5)
    (try clear BK184)
    (try clear HB)
    generalize ((((w11.setCell ⟨gb184, 0, none⟩ (.int .i64 ((rd_T82 l0 x6_1).f0))).setCell ⟨gb184, 1, none⟩ (.int .i64 ((rd_T82 l0 x6_1).f1))).setCell ⟨gb184, 2, none⟩ (.int .i64 ((rd_T82 l0 x6_1).f2))).setCell ⟨gb184, 3, none⟩ (.int .i64 ((rd_T82 l0 x6_1).f3))) = w13 at n0_ n1_ n2_ ⊢
    have HO_5 := n0_
    have BK184 := n1_
    have HB := n2_
    clear n0_ n1_ n2_
    refine sh3_ (Kd.R_drew HO_5.out) (blk_drew BK184.out) (below_drew1 HB.out) ?_
    clear HO_5 BK184 HB
    intro HO_5 BK184 HB
    refine start_ (n := 12) (S := fun w' => True) (ds := []) #[false, false, false, false, false, false, false, false, false, false, false, false] (by kernel_rfl) rfl rfl trivial (fun hHeld => ?_); refine with_tabW spec_CutClouds.tab6 spec_CutClouds.bits6 (fun HT_ HW_ => ?_)
    generalize w13.drew = w14 at HO_5 BK184 HB hHeld ⊢
    refine pur_ 0 #[true, false, false, false, false, false, false, false, false, false, false, false] (some 21) HT_ ?_
    refine pur_ 2 #[true, false, true, false, false, false, false, false, false, false, false, false] (some 23) HT_ ?_
    refine pur_ 6 #[true, false, true, false, false, false, true, false, false, false, false, false] (some 27) HT_ ?_
    refine pur_ 7 #[true, false, true, false, false, false, true, true, false, false, false, false] (some 28) HT_ ?_
    refine inv_at [1, 3, 4, 5, 8, 9, 10, 11] (fun a0_ b a w' => ∃ (v186 : Value) (v189 : Value) (v192 : Value) (m11_ : Value), a = putSel a0_ b [(1, 22, .int .i64 ((rd_T82 l0 x6_1).f2)), (3, 24, .int .i64 ((rd_T82 l0 x6_1).f3)), (4, 25, .agg #[.int .i64 ((rd_T82 l0 x6_1).f2), .int .i64 ((rd_T82 l0 x6_1).f3)]), (5, 26, v186), (8, 29, .int .i64 ((rd_T82 l0 x6_1).f0)), (9, 30, v189), (10, 31, v192), (11, 8, m11_)] ∧ (Kd.R k82 82 w' w.heap.size (fun k_ => k_ ≠ gb184) u5 x5_1) ∧ (w'.heap[gb184]? = some (.cells #[.int .i64 ((rd_T82 l0 x6_1).f0), .int .i64 ((rd_T82 l0 x6_1).f1), .int .i64 ((rd_T82 l0 x6_1).f2), .int .i64 ((rd_T82 l0 x6_1).f3)] 82 (0, 0))) ∧ (Below w.heap.size w w') ∧ (b 5 = true → Kd.R k73 73 w' w.heap.size (fun _ => True) v186 y185) ∧ (b 9 = true → Kd.R k73 73 w' w.heap.size (fun _ => True) v189 t188) ∧ (b 10 = true → Kd.R k73 73 w' w.heap.size (fun _ => True) v192 t191) ∧ (b 11 = true → (m11_ : Value) = v192)) HT_.out HW_.out (by kernel_rfl) (by kernel_rfl) ?_ ?_ ?_
    ·exact ⟨.bool false, .bool false, .bool false, .bool false, by simp only [putSel, Bool.false_eq_true, if_false], HO_5.out, BK184.out, HB.out, fun h_ => absurd h_ (by decide), fun h_ => absurd h_ (by decide), fun h_ => absurd h_ (by decide), fun h_ => absurd h_ (by decide)⟩
    ·skip
     clear BK184 HB HO_5
     refine steps_cons ?_ ?_
     ·rintro b a w' ⟨v186, v189, v192, m11_, ha, Q_HO_5, Q_BK184, Q_HB, Q_HO187, Q_HO190, Q_HO193, Q_X11_⟩ hb_ hon hoff
      refine ⟨_, rfl, fun K hK => ?_⟩
      have e21 : a.tmps[21]? = some (.pointer (some ⟨gb184, 2, none⟩)) := by rw [ha]; exact (putSel_off rfl).trans rfl
      replace ha := Aside0.mk ha
      have HO_5 := Aside0.mk Q_HO_5
      have BK184 := Aside0.mk Q_BK184
      have HB := Aside0.mk Q_HB
      have hc0_ : w'.cell? ⟨gb184, 0, none⟩ = some (.int .i64 ((rd_T82 l0 x6_1).f0)) := bc_ BK184 0 rfl
      have hc1_ : w'.cell? ⟨gb184, 1, none⟩ = some (.int .i64 ((rd_T82 l0 x6_1).f1)) := bc_ BK184 1 rfl
      have hc2_ : w'.cell? ⟨gb184, 2, none⟩ = some (.int .i64 ((rd_T82 l0 x6_1).f2)) := bc_ BK184 2 rfl
      have hc3_ : w'.cell? ⟨gb184, 3, none⟩ = some (.int .i64 ((rd_T82 l0 x6_1).f3)) := bc_ BK184 3 rfl
      refine value_ (w1 := w') (v := .int .i64 ((rd_T82 l0 x6_1).f2)) (by rfl) rfl ?_ ?_
      ·go_simp
       (try simp only [i64_w])
       try rfl
      refine hK.out _ _ ⟨v186, v189, v192, m11_, (by rw [ha.out]; exact putSel_upk 0 hb_ rfl rfl rfl), Q_HO_5, Q_BK184, Q_HB, fun h0_ => absurd ((hoff 5 (by kernel_rfl)).symm.trans h0_) (by decide), Q_HO190, fun h0_ => absurd ((hoff 10 (by kernel_rfl)).symm.trans h0_) (by decide), fun h0_ => absurd ((hoff 11 (by kernel_rfl)).symm.trans h0_) (by decide)⟩
     refine steps_cons ?_ ?_
     ·rintro b a w' ⟨v186, v189, v192, m11_, ha, Q_HO_5, Q_BK184, Q_HB, Q_HO187, Q_HO190, Q_HO193, Q_X11_⟩ hb_ hon hoff
      refine ⟨_, rfl, fun K hK => ?_⟩
      have e23 : a.tmps[23]? = some (.pointer (some ⟨gb184, 3, none⟩)) := by rw [ha]; exact (putSel_off rfl).trans rfl
      replace ha := Aside0.mk ha
      have HO_5 := Aside0.mk Q_HO_5
      have BK184 := Aside0.mk Q_BK184
      have HB := Aside0.mk Q_HB
      have hc0_ : w'.cell? ⟨gb184, 0, none⟩ = some (.int .i64 ((rd_T82 l0 x6_1).f0)) := bc_ BK184 0 rfl
      have hc1_ : w'.cell? ⟨gb184, 1, none⟩ = some (.int .i64 ((rd_T82 l0 x6_1).f1)) := bc_ BK184 1 rfl
      have hc2_ : w'.cell? ⟨gb184, 2, none⟩ = some (.int .i64 ((rd_T82 l0 x6_1).f2)) := bc_ BK184 2 rfl
      have hc3_ : w'.cell? ⟨gb184, 3, none⟩ = some (.int .i64 ((rd_T82 l0 x6_1).f3)) := bc_ BK184 3 rfl
      refine value_ (w1 := w') (v := .int .i64 ((rd_T82 l0 x6_1).f3)) (by rfl) rfl ?_ ?_
      ·go_simp
       (try simp only [i64_w])
       try rfl
      refine hK.out _ _ ⟨v186, v189, v192, m11_, (by rw [ha.out]; exact putSel_upk 1 hb_ rfl rfl rfl), Q_HO_5, Q_BK184, Q_HB, fun h0_ => absurd ((hoff 5 (by kernel_rfl)).symm.trans h0_) (by decide), Q_HO190, fun h0_ => absurd ((hoff 10 (by kernel_rfl)).symm.trans h0_) (by decide), fun h0_ => absurd ((hoff 11 (by kernel_rfl)).symm.trans h0_) (by decide)⟩
     refine steps_cons ?_ ?_
     ·rintro b a w' ⟨v186, v189, v192, m11_, ha, Q_HO_5, Q_BK184, Q_HB, Q_HO187, Q_HO190, Q_HO193, Q_X11_⟩ hb_ hon hoff
      refine ⟨_, rfl, fun K hK => ?_⟩
      have e22 : a.tmps[22]? = some (.int .i64 ((rd_T82 l0 x6_1).f2)) := by rw [ha]; exact putSel_on (e := (1, 22, .int .i64 ((rd_T82 l0 x6_1).f2))) 0 rfl rfl (hon 1 (by kernel_rfl)) rfl
      have e24 : a.tmps[24]? = some (.int .i64 ((rd_T82 l0 x6_1).f3)) := by rw [ha]; exact putSel_on (e := (3, 24, .int .i64 ((rd_T82 l0 x6_1).f3))) 1 rfl rfl (hon 3 (by kernel_rfl)) rfl
      replace ha := Aside0.mk ha
      have HO_5 := Aside0.mk Q_HO_5
      have BK184 := Aside0.mk Q_BK184
      have HB := Aside0.mk Q_HB
      refine value_ (w1 := w') (v := .agg #[.int .i64 ((rd_T82 l0 x6_1).f2), .int .i64 ((rd_T82 l0 x6_1).f3)]) (by rfl) rfl ?_ ?_
      ·go_simp
       (try simp only [i64_w])
       try rfl
      refine hK.out _ _ ⟨v186, v189, v192, m11_, (by rw [ha.out]; exact putSel_upk 2 hb_ rfl rfl rfl), Q_HO_5, Q_BK184, Q_HB, fun h0_ => absurd ((hoff 5 (by kernel_rfl)).symm.trans h0_) (by decide), Q_HO190, fun h0_ => absurd ((hoff 10 (by kernel_rfl)).symm.trans h0_) (by decide), fun h0_ => absurd ((hoff 11 (by kernel_rfl)).symm.trans h0_) (by decide)⟩
     refine steps_cons ?_ ?_
     ·rintro b a w' ⟨v186, v189, v192, m11_, ha, Q_HO_5, Q_BK184, Q_HB, Q_HO187, Q_HO190, Q_HO193, Q_X11_⟩ hb_ hon hoff
      refine ⟨_, rfl, fun K hK => ?_⟩
      have e25 : a.tmps[25]? = some (.agg #[.int .i64 ((rd_T82 l0 x6_1).f2), .int .i64 ((rd_T82 l0 x6_1).f3)]) := by rw [ha]; exact putSel_on (e := (4, 25, .agg #[.int .i64 ((rd_T82 l0 x6_1).f2), .int .i64 ((rd_T82 l0 x6_1).f3)])) 2 rfl rfl (hon 4 (by kernel_rfl)) rfl
      replace ha := Aside0.mk ha
      have HO_5 := Aside0.mk Q_HO_5
      have BK184 := Aside0.mk Q_BK184
      have HB := Aside0.mk Q_HB
      refine Kd.R_lit_step k73 _ 73 ?hg (N := 26) ?hd (xs := ([(⟨(rd_T82 l0 x6_1).f2, (rd_T82 l0 x6_1).f3⟩ : S73)] : List (S73))) (inner := [.int .i64 ((rd_T82 l0 x6_1).f2), .int .i64 ((rd_T82 l0 x6_1).f3)]) (ok := fun _ => True) (okp := fun _ => True) ?hr ?hp (fun _ hk => hk) trivial (Below.refl _ _) (Nat.le_refl _) (by simp) ?_; (case hd => rfl); (case hg => rfl); (case hr => first | (go_simp; done) | (go_simp; rfl)); (case hp => exact (Reps.c2 (show Kd.M k73 _ _ _ (⟨(rd_T82 l0 x6_1).f2, (rd_T82 l0 x6_1).f3⟩ : S73) [.int .i64 ((rd_T82 l0 x6_1).f2), .int .i64 ((rd_T82 l0 x6_1).f3)] from (k73_mkM _ _ _ (⟨(rd_T82 l0 x6_1).f2, (rd_T82 l0 x6_1).f3⟩ : S73) )) (Reps.none _ _)))
      intro v186 w15 ho16 hb hg_ hnew_
      clear hg_ hnew_
      (first | rw [← Ny185.out] at ho16 | (simp only [Int.reduceToNat] at ho16; rw [← Ny185.out] at ho16))
      have n0_ := Aside0.mk (Kd.R_below (ra_ HO_5) hb)
      have n1_ := Aside0.mk (Kd.R_lower ho16 (below_size (bl1_ HB GE184)))
      have n2_ := Aside0.mk (blk_below (bk_ BK184) hb)
      have n3_ := Aside0.mk (below_step (bl1_ HB GE184) hb)
      have z_HO190 := fun (h0_ : b 9 = true) => (show Kd.R k73 73 w15 w.heap.size (fun _ => True) v189 t188 from by first | exact (Kd.R_elder' (by (with_reducible repeat (first | apply Kd.R_alloc | apply Kd.R_drewN | apply Kd.R_drew)); exact (Q_HO190 h0_)) (Kd.R_base ho16) hb) | exact Kd.R_mono (Kd.R_elder' (by (with_reducible repeat (first | apply Kd.R_alloc | apply Kd.R_drewN | apply Kd.R_drew)); exact (Q_HO190 h0_)) (Kd.R_base ho16) hb) (fun _ h_ => by first | trivial | exact h_ | exact h_.1))
      clear HO_5
      clear BK184
      clear HB
      have HO_5 := n0_
      have HO187 := n1_
      have BK184 := n2_
      have HB := n3_
      clear n0_ n1_ n2_ n3_
      clear hb ho16
      refine hK.out _ _ ⟨v186, v189, v192, m11_, (by rw [ha.out]; exact putSel_upk 3 hb_ rfl rfl rfl), (ra_ HO_5), (bk_ BK184), (bl1_ HB GE184), fun _ => (ro_ HO187), z_HO190, fun h0_ => absurd ((hoff 10 (by kernel_rfl)).symm.trans h0_) (by decide), fun h0_ => absurd ((hoff 11 (by kernel_rfl)).symm.trans h0_) (by decide)⟩
     refine steps_cons ?_ ?_
     ·rintro b a w' ⟨v186, v189, v192, m11_, ha, Q_HO_5, Q_BK184, Q_HB, Q_HO187, Q_HO190, Q_HO193, Q_X11_⟩ hb_ hon hoff
      refine ⟨_, rfl, fun K hK => ?_⟩
      have e28 : a.tmps[28]? = some (.pointer (some ⟨gb184, 0, none⟩)) := by rw [ha]; exact (putSel_off rfl).trans rfl
      replace ha := Aside0.mk ha
      have HO_5 := Aside0.mk Q_HO_5
      have BK184 := Aside0.mk Q_BK184
      have HB := Aside0.mk Q_HB
      have hc0_ : w'.cell? ⟨gb184, 0, none⟩ = some (.int .i64 ((rd_T82 l0 x6_1).f0)) := bc_ BK184 0 rfl
      have hc1_ : w'.cell? ⟨gb184, 1, none⟩ = some (.int .i64 ((rd_T82 l0 x6_1).f1)) := bc_ BK184 1 rfl
      have hc2_ : w'.cell? ⟨gb184, 2, none⟩ = some (.int .i64 ((rd_T82 l0 x6_1).f2)) := bc_ BK184 2 rfl
      have hc3_ : w'.cell? ⟨gb184, 3, none⟩ = some (.int .i64 ((rd_T82 l0 x6_1).f3)) := bc_ BK184 3 rfl
      refine value_ (w1 := w') (v := .int .i64 ((rd_T82 l0 x6_1).f0)) (by rfl) rfl ?_ ?_
      ·go_simp
       (try simp only [i64_w])
       try rfl
      refine hK.out _ _ ⟨v186, v189, v192, m11_, (by rw [ha.out]; exact putSel_upk 4 hb_ rfl rfl rfl), Q_HO_5, Q_BK184, Q_HB, Q_HO187, fun h0_ => absurd ((hoff 9 (by kernel_rfl)).symm.trans h0_) (by decide), fun h0_ => absurd ((hoff 10 (by kernel_rfl)).symm.trans h0_) (by decide), fun h0_ => absurd ((hoff 11 (by kernel_rfl)).symm.trans h0_) (by decide)⟩
     refine steps_cons ?_ ?_
     ·rintro b a w' ⟨v186, v189, v192, m11_, ha, Q_HO_5, Q_BK184, Q_HB, Q_HO187, Q_HO190, Q_HO193, Q_X11_⟩ hb_ hon hoff
      refine ⟨_, rfl, fun K hK => ?_⟩
      have e27 : a.tmps[27]? = some (.slice A1 l1.length c1) := by rw [ha]; exact (putSel_off rfl).trans rfl
      have e29 : a.tmps[29]? = some (.int .i64 ((rd_T82 l0 x6_1).f0)) := by rw [ha]; exact putSel_on (e := (8, 29, .int .i64 ((rd_T82 l0 x6_1).f0))) 4 rfl rfl (hon 8 (by kernel_rfl)) rfl
      replace ha := Aside0.mk ha
      have HO_5 := Aside0.mk Q_HO_5
      have BK184 := Aside0.mk Q_BK184
      have HB := Aside0.mk Q_HB
      refine goes_ Try.func58 (by kernel_rfl) rfl #[.slice A1 l1.length c1, .int .i64 ((rd_T82 l0 x6_1).f0)] (by rfl) rfl rfl (by first | (simp only [List.map_toArray, List.map_cons, List.map_nil, Act.eval, Array.getD_eq_getD_getElem?, Option.getD_some, e27, e29]; done) | (simp only [List.map_toArray, List.map_cons, List.map_nil, Act.eval, Array.getD_eq_getD_getElem?, Option.getD_some, e27, e29]; rfl)) ?_
      with_reducible refine (spec_CloudSpans.calls k1 _ _ l1 ((rd_T82 l0 x6_1).f0) t188 _ ?side1 ?side2 A7.out).mono ?_
      (case side1 => exact ck_ HR1 HB)
      (case side2 => exact HC1.out)
      rintro e w15 ⟨v189, rfl, ho0, hb⟩
      refine ⟨_, rfl, ?_⟩
      have n0_ := Aside0.mk (Kd.R_below (ra_ HO_5) hb)
      have n1_ := Aside0.mk (Kd.R_lower ho0 (below_size (bl1_ HB GE184)))
      have n2_ := Aside0.mk (blk_below (bk_ BK184) hb)
      have n3_ := Aside0.mk (below_step (bl1_ HB GE184) hb)
      have z_HO187 := fun (h0_ : b 5 = true) => (show Kd.R k73 73 w15 w.heap.size (fun _ => True) v186 y185 from by first | exact (Kd.R_elder' (by (with_reducible repeat (first | apply Kd.R_alloc | apply Kd.R_drewN | apply Kd.R_drew)); exact (Q_HO187 h0_)) (Kd.R_base ho0) hb) | exact Kd.R_mono (Kd.R_elder' (by (with_reducible repeat (first | apply Kd.R_alloc | apply Kd.R_drewN | apply Kd.R_drew)); exact (Q_HO187 h0_)) (Kd.R_base ho0) hb) (fun _ h_ => by first | trivial | exact h_ | exact h_.1))
      clear HO_5
      clear BK184
      clear HB
      have HO_5 := n0_
      have HO190 := n1_
      have BK184 := n2_
      have HB := n3_
      clear n0_ n1_ n2_ n3_
      (try clear hb)
      (try clear hb2)
      (try clear hk)
      (try clear hi)
      (try clear ho0)
      refine hK.out _ _ ⟨v186, v189, v192, m11_, (by rw [ha.out]; exact putSel_upk 5 hb_ rfl rfl rfl), (ra_ HO_5), (bk_ BK184), (bl1_ HB GE184), z_HO187, fun _ => (ro_ HO190), fun h0_ => absurd ((hoff 10 (by kernel_rfl)).symm.trans h0_) (by decide), fun h0_ => absurd ((hoff 11 (by kernel_rfl)).symm.trans h0_) (by decide)⟩
     refine steps_cons ?_ ?_
     ·rintro b a w' ⟨v186, v189, v192, m11_, ha, Q_HO_5, Q_BK184, Q_HB, Q_HO187, Q_HO190, Q_HO193, Q_X11_⟩ hb_ hon hoff
      refine ⟨_, rfl, fun K hK => ?_⟩
      have e26 : a.tmps[26]? = some (v186) := by rw [ha]; exact putSel_on (e := (5, 26, v186)) 3 rfl rfl (hon 5 (by kernel_rfl)) rfl
      have e30 : a.tmps[30]? = some (v189) := by rw [ha]; exact putSel_on (e := (9, 30, v189)) 5 rfl rfl (hon 9 (by kernel_rfl)) rfl
      replace ha := Aside0.mk ha
      have HO_5 := Aside0.mk Q_HO_5
      have BK184 := Aside0.mk Q_BK184
      have HB := Aside0.mk Q_HB
      have HO187 := Aside0.mk (Q_HO187 (hon 5 (by kernel_rfl)))
      have HO190 := Aside0.mk (Q_HO190 (hon 9 (by kernel_rfl)))
      obtain ⟨Ao19, co19, eo19⟩ := Kd.R_slice HO187.out
      (first | subst eo19 | (injection eo19 with f1_ f2_ f3_; have f4_ := f1_.symm; have f5_ := f3_.symm; clear f1_ f2_ f3_; subst f4_; subst f5_))
      obtain ⟨Ao20, co20, eo20⟩ := Kd.R_slice HO190.out
      (first | subst eo20 | (injection eo20 with f1_ f2_ f3_; have f4_ := f1_.symm; have f5_ := f3_.symm; clear f1_ f2_ f3_; subst f4_; subst f5_))
      refine goes_ Try.func43 (by kernel_rfl) rfl #[.slice Ao19 y185.length co19, .slice Ao20 t188.length co20] (by rfl) rfl rfl (by first | (simp only [List.map_toArray, List.map_cons, List.map_nil, Act.eval, Array.getD_eq_getD_getElem?, Option.getD_some, e26, e30]; done) | (simp only [List.map_toArray, List.map_cons, List.map_nil, Act.eval, Array.getD_eq_getD_getElem?, Option.getD_some, e26, e30]; rfl)) ?_
      with_reducible refine (spec_CutSpans.calls k1 _ _ y185 _ _ t188 t191 _ ?side1 ?side2 ?side3 ?side4 A8.out).mono ?_
      (case side1 => repeat (first | exact (Kd.R_reads' HO187.out).2.2 | (with_reducible refine Kd.C_alloc ?_ _) | (with_reducible refine Kd.C_drewN ?_ _) | (with_reducible refine Kd.C_drew ?_)))
      (case side2 => exact (Kd.R_reads' HO187.out).2.1)
      (case side3 => repeat (first | exact (Kd.R_reads' HO190.out).2.2 | (with_reducible refine Kd.C_alloc ?_ _) | (with_reducible refine Kd.C_drewN ?_ _) | (with_reducible refine Kd.C_drew ?_)))
      (case side4 => exact (Kd.R_reads' HO190.out).2.1)
      rintro e w21 ⟨v192, rfl, ho0, hb⟩
      refine ⟨_, rfl, sh6_ (Kd.R_below (ra_ HO_5) hb) (Kd.R_elder' (ra_ HO187) (Kd.R_base ho0) hb) (Kd.R_elder' (ra_ HO190) (Kd.R_base ho0) hb) (Kd.R_lower (Kd.R_new' (Kd.R_new' ho0 (Kd.R_lt (ra_ HO187))) (Kd.R_lt (ra_ HO190))) (below_size (bl1_ HB GE184))) (blk_below (bk_ BK184) hb) (below_step (bl1_ HB GE184) hb) ?_⟩
      clear HO_5 HO187 HO190 BK184 HB hb ho0
      intro HO_5 HO187 HO190 HO193 BK184 HB
      refine hK.out _ _ ⟨.slice Ao19 y185.length co19, .slice Ao20 t188.length co20, v192, m11_, (by rw [ha.out]; exact putSel_upk 6 hb_ rfl rfl rfl), (ra_ HO_5), (bk_ BK184), (bl1_ HB GE184), fun _ => (ro_ HO187), fun _ => (ro_ HO190), fun _ => (ro_ HO193), fun h0_ => absurd ((hoff 11 (by kernel_rfl)).symm.trans h0_) (by decide)⟩
     refine steps_cons ?_ ?_
     ·rintro b a w' ⟨v186, v189, v192, m11_, ha, Q_HO_5, Q_BK184, Q_HB, Q_HO187, Q_HO190, Q_HO193, Q_X11_⟩ hb_ hon hoff
      refine ⟨_, rfl, fun K hK => ?_⟩
      have e31 : a.tmps[31]? = some (v192) := by rw [ha]; exact putSel_on (e := (10, 31, v192)) 6 rfl rfl (hon 10 (by kernel_rfl)) rfl
      replace ha := Aside0.mk ha
      have HO_5 := Aside0.mk Q_HO_5
      have BK184 := Aside0.mk Q_BK184
      have HB := Aside0.mk Q_HB
      have HO187 := Aside0.mk (Q_HO187 (hon 5 (by kernel_rfl)))
      have HO190 := Aside0.mk (Q_HO190 (hon 9 (by kernel_rfl)))
      have HO193 := Aside0.mk (Q_HO193 (hon 10 (by kernel_rfl)))
      refine value_ (w1 := w') (v := v192) (by rfl) rfl ?_ ?_
      ·go_simp
       (try simp only [i64_w])
       try rfl
      refine hK.out _ _ ⟨v186, v189, v192, (v192), (by rw [ha.out]; exact putSel_upk 7 hb_ rfl rfl rfl), Q_HO_5, Q_BK184, Q_HB, Q_HO187, Q_HO190, Q_HO193, fun _ => rfl⟩
     exact steps_nil
    rintro b a w21 hall ⟨v186, v189, v192, m11_, ha, Q_HO_5, Q_BK184, Q_HB, Q_HO187, Q_HO190, Q_HO193, Q_X11_⟩
    clear BK184 HB HO_5
    have hb1_ := hall 1 (by kernel_rfl)
    have hb3_ := hall 3 (by kernel_rfl)
    have hb4_ := hall 4 (by kernel_rfl)
    have hb5_ := hall 5 (by kernel_rfl)
    have hb8_ := hall 8 (by kernel_rfl)
    have hb9_ := hall 9 (by kernel_rfl)
    have hb10_ := hall 10 (by kernel_rfl)
    have hb11_ := hall 11 (by kernel_rfl)
    subst ha
    obtain rfl := Q_X11_ hb11_
    simp only [putSel, hb1_, hb3_, hb4_, hb5_, hb8_, hb9_, hb10_, hb11_, if_true, Act.put, List.setIfInBounds_toArray, List.set_cons_zero, List.set_cons_succ]
    have HO_5 := Aside0.mk Q_HO_5
    clear Q_HO_5
    have BK184 := Aside0.mk Q_BK184
    clear Q_BK184
    have HB := Aside0.mk Q_HB
    clear Q_HB
    have HO187 := Aside0.mk (Q_HO187 hb5_)
    clear Q_HO187
    have HO190 := Aside0.mk (Q_HO190 hb9_)
    clear Q_HO190
    have HO193 := Aside0.mk (Q_HO193 hb10_)
    clear Q_HO193
    clear hall hb1_ hb3_ hb4_ hb5_ hb8_ hb9_ hb10_ hb11_
    have hcz22 := cf4_ BK184
    try go_wp2_with (first | ((with_reducible refine gate_callee (f := 58) rfl ?_); refine gl_ 36 Try.func58 (spec_CloudSpans.calls k1 _ _ l1 ((rd_T82 l0 x6_1).f1) t194 _ (ck_ HR1 HB) HC1.out A9.out) ?_; rintro e w23 ⟨v195, rfl, ho0, hb⟩; refine ⟨_, rfl, sh7_ (Kd.R_below (ra_ HO_5) hb) (Kd.R_elder' (ra_ HO187) (Kd.R_base ho0) hb) (Kd.R_elder' (ra_ HO190) (Kd.R_base ho0) hb) (Kd.R_elder' (ra_ HO193) (Kd.R_base ho0) hb) (Kd.R_lower (Kd.R_new' (Kd.R_new' (Kd.R_new' ho0 (Kd.R_lt (ra_ HO187))) (Kd.R_lt (ra_ HO190))) (Kd.R_lt (ra_ HO193))) (below_size (bl1_ HB GE184))) (blk_below (bk_ BK184) hb) (below_step (bl1_ HB GE184) hb) ?_⟩; clear HO_5 HO187 HO190 HO193 BK184 HB hb ho0; intro HO_5 HO187 HO190 HO193 HO196 BK184 HB; obtain ⟨Ao24, co24, eo24⟩ := Kd.R_slice HO193.out; subst eo24; obtain ⟨Ao25, co25, eo25⟩ := Kd.R_slice HO196.out; subst eo25) | ((with_reducible refine gate_callee (f := 43) rfl ?_); refine gl_ 37 Try.func43 (spec_CutSpans.calls k1 _ _ t191 _ _ t194 t197 _ (cr_ HO193) (rl_ HO193) (cr_ HO196) (rl_ HO196) A10.out) ?_; rintro e w26 ⟨v198, rfl, ho0, hb⟩; refine ⟨_, rfl, sh8_ (Kd.R_below (ra_ HO_5) hb) (Kd.R_elder' (ra_ HO187) (Kd.R_base ho0) hb) (Kd.R_elder' (ra_ HO190) (Kd.R_base ho0) hb) (Kd.R_elder' (ra_ HO193) (Kd.R_base ho0) hb) (Kd.R_elder' (ra_ HO196) (Kd.R_base ho0) hb) (Kd.R_lower (Kd.R_new' (Kd.R_new' (Kd.R_new' (Kd.R_new' ho0 (Kd.R_lt (ra_ HO187))) (Kd.R_lt (ra_ HO190))) (Kd.R_lt (ra_ HO193))) (Kd.R_lt (ra_ HO196))) (below_size (bl1_ HB GE184))) (blk_below (bk_ BK184) hb) (below_step (bl1_ HB GE184) hb) ?_⟩; clear HO_5 HO187 HO190 HO193 HO196 BK184 HB hb ho0; intro HO_5 HO187 HO190 HO193 HO196 HO199 BK184 HB))
    go_loopg [5, 9] k1 (fun kq v5 v9 w' => ∃ (x5_2 : List (S82)) (x9_2 : Int), v9 = .int .i64 x9_2 ∧ Aside0 (spec_CutClouds.l1 kq l0 l1 x5_2 x6_1 t197 x9_2 ((rd_T82 l0 x6_1).f0) ((rd_T82 l0 x6_1).f1) ((rd_T82 l0 x6_1).f2) ((rd_T82 l0 x6_1).f3) = some r) ∧ Aside0 (kq ≤ k1) ∧ Aside0 (Kd.R k82 82 w' w.heap.size (fun k_ => k_ ≠ gb184) v5 x5_2) ∧ Aside0 (Kd.R k73 73 w' w.heap.size (fun _ => True) v198 t197) ∧ Aside0 (w'.heap[gb184]? = some (.cells #[.int .i64 ((rd_T82 l0 x6_1).f0), .int .i64 ((rd_T82 l0 x6_1).f1), .int .i64 ((rd_T82 l0 x6_1).f2), .int .i64 ((rd_T82 l0 x6_1).f3)] 82 (0, 0))) ∧ Aside0 (Below w.heap.size w w'))
    case atStart => exact ⟨(x5_1), (0), (by first | rfl | (simp; done) | (simp [*]; done)), H', ⟨Nat.le_refl _⟩, ⟨ra_ HO_5⟩, ⟨by (with_reducible repeat (first | apply Kd.R_alloc | apply Kd.R_drewN | apply Kd.R_drew)); exact Kd.R_mono HO199.out (fun _ hk => trivial)⟩, ⟨by (with_reducible repeat (first | refine blk_drewN ?_ _ | refine blk_drew ?_ | refine blk_alloc ?_ _)); exact BK184.out⟩, ⟨bl1_ HB GE184⟩⟩
    case round =>
     clear H'
     try clear c1
     try clear p1
     try clear q1
     try clear hx1
     try clear c2
     try clear p2
     try clear c3
     try clear c4
     try clear c5
     try clear c5b0
     try clear c6
     try clear c6b0
     try clear p18
     try clear q18
     try clear hx18
     try clear c20
     try clear hcz12
     try clear hcz22
     try clear hx183_0
     try clear hx183_1
     try clear hx183_2
     try clear hx183_3
     try clear p183
     try clear p2
     try clear q183
     obtain ⟨x5_2, x9_2, rfl, HA, HK2, HO_5, HO_8, BK184, HB⟩ := hrel
     cases gk with
     | zero => exact absurd HA.out (by simp [spec_CutClouds.l1])
     | succ k2 =>
      have H := HA.out
      clear HA
      simp only [spec_CutClouds.l1] at H
      by_cases c27 : x9_2 < (t197.length : Int)
      ·rw [if_pos c27] at H
       have c27b0 := decide_eq_true c27
       clear c27
       replace H := ifn_ H
       obtain ⟨c28, H⟩ := H
       have c28b0 := decide_eq_true c28
       clear c28
       replace H := ifn_ H
       obtain ⟨c29, H⟩ := H
       have LMc29 := Aside0.mk c29
       clear c29
       replace H : ∃ y_ : List (S82), Aside0 (y_ = (x5_2 ++ [(⟨((rd_T82 l0 x6_1).f0), ((rd_T82 l0 x6_1).f1), (rd_T73 t197 x9_2).f0, (rd_T73 t197 x9_2).f1⟩ : S82)])) ∧ (spec_CutClouds.l1 k2 l0 l1 y_ x6_1 t197 (wrap64 (x9_2 + 1)) ((rd_T82 l0 x6_1).f0) ((rd_T82 l0 x6_1).f1) ((rd_T82 l0 x6_1).f2) ((rd_T82 l0 x6_1).f3)) = some r := ⟨_, ⟨rfl⟩, yh_ H⟩
       obtain ⟨y202, Ny202, H⟩ := H
       have H' := Aside0.mk H
       clear H
       obtain ⟨Ao30, co30, eo30⟩ := Kd.R_slice HO_8.out
       subst eo30
       try go_wp2
       refine sh4_ (Kd.R_drew HO_5.out) (Kd.R_drew HO_8.out) (blk_drew BK184.out) (below_drew1 HB.out) ?_
       clear HO_5 HO_8 BK184 HB
       intro HO_5 HO_8 BK184 HB
       have p200 : 0 ≤ (x9_2 : Int) := od_
       have q200 : x9_2 < (t197.length : Int) := od_
       obtain ⟨ad200, e200, hx200_0, hx200_1⟩ := at_T73 (Kd.R_reads' HO_8.out).2.2 x9_2 p200 q200
       cases e200
       replace p200 := eq_true p200
       replace q200 := eq_true q200
       have p201 : 0 ≤ (x9_2 : Int) := od_
       have q201 : x9_2 < (t197.length : Int) := od_
       obtain ⟨ad201, e201, hx201_0, hx201_1⟩ := at_T73 (Kd.R_reads' HO_8.out).2.2 x9_2 p201 q201
       obtain rfl : ad200 = ad201 := (by injection e201)
       replace p201 := eq_true p201
       replace q201 := eq_true q201
       refine start_ (n := 19) (S := fun w' => w'.cell? ⟨gb184, 0, none⟩ = some (.int .i64 ((rd_T82 l0 x6_1).f0)) ∧ w'.cell? ⟨gb184, 1, none⟩ = some (.int .i64 ((rd_T82 l0 x6_1).f1)) ∧ w'.cell? ⟨gb184, 2, none⟩ = some (.int .i64 ((rd_T82 l0 x6_1).f2)) ∧ w'.cell? ⟨gb184, 3, none⟩ = some (.int .i64 ((rd_T82 l0 x6_1).f3)) ∧ w'.cell? (ad200.add ((x9_2).toNat * 2)) = some (.int .i64 ((rd_T73 t197 x9_2).f0)) ∧ w'.cell? ⟨(ad200.add ((x9_2).toNat * 2)).block, (ad200.add ((x9_2).toNat * 2)).off + 1, none⟩ = some (.int .i64 ((rd_T73 t197 x9_2).f1)) ∧ w'.cell? (ad200.add ((x9_2).toNat * 2)) = some (.int .i64 ((rd_T73 t197 x9_2).f0)) ∧ w'.cell? ⟨(ad200.add ((x9_2).toNat * 2)).block, (ad200.add ((x9_2).toNat * 2)).off + 1, none⟩ = some (.int .i64 ((rd_T73 t197 x9_2).f1))) (ds := [16, 17]) #[false, false, false, false, false, false, false, false, false, false, false, false, false, false, false, false, false, false, false] (by kernel_rfl) rfl rfl ⟨(bc_ BK184 0 rfl), (bc_ BK184 1 rfl), (bc_ BK184 2 rfl), (bc_ BK184 3 rfl), hx200_0, hx200_1, hx201_0, hx201_1⟩ (fun hHeld => ?_); refine with_tabW spec_CutClouds.tab11 spec_CutClouds.bits11 (fun HT_ HW_ => ?_)
       generalize wr.drew = w31 at HO_5 HO_8 BK184 HB hx200_0 hx200_1 hx201_0 hx201_1 hHeld ⊢
       refine pur_ 0 #[true, false, false, false, false, false, false, false, false, false, false, false, false, false, false, false, false, false, false] (some 44) HT_ ?_
       refine pur_ 1 #[true, true, false, false, false, false, false, false, false, false, false, false, false, false, false, false, false, false, false] (some 45) HT_ ?_
       refine pur_ 3 #[true, true, false, true, false, false, false, false, false, false, false, false, false, false, false, false, false, false, false] (some 47) HT_ ?_
       refine pur_ 5 #[true, true, false, true, false, true, false, false, false, false, false, false, false, false, false, false, false, false, false] (some 49) HT_ ?_
       refine pur_ 6 #[true, true, false, true, false, true, true, false, false, false, false, false, false, false, false, false, false, false, false] (some 50) HT_ ?_
       refine pur_ 7 #[true, true, false, true, false, true, true, true, false, false, false, false, false, false, false, false, false, false, false] (some 51) HT_ ?_
       refine pur_ 8 #[true, true, false, true, false, true, true, true, true, false, false, false, false, false, false, false, false, false, false] (some 52) HT_ ?_
       refine pur_ 10 #[true, true, false, true, false, true, true, true, true, false, true, false, false, false, false, false, false, false, false] (some 54) HT_ ?_
       refine pur_ 11 #[true, true, false, true, false, true, true, true, true, false, true, true, false, false, false, false, false, false, false] (some 55) HT_ ?_
       refine pur_ 12 #[true, true, false, true, false, true, true, true, true, false, true, true, true, false, false, false, false, false, false] (some 56) HT_ ?_
       refine pur_ 13 #[true, true, false, true, false, true, true, true, true, false, true, true, true, true, false, false, false, false, false] (some 57) HT_ ?_
       refine tak_ 2 #[true, true, true, true, false, true, true, true, true, false, true, true, true, true, false, false, false, false, false] (some 46) HT_ HW_ hHeld ?_
       refine tak_ 4 #[true, true, true, true, true, true, true, true, true, false, true, true, true, true, false, false, false, false, false] (some 48) HT_ HW_ hHeld ?_
       refine tak_ 9 #[true, true, true, true, true, true, true, true, true, true, true, true, true, true, false, false, false, false, false] (some 53) HT_ HW_ hHeld ?_
       refine tak_ 14 #[true, true, true, true, true, true, true, true, true, true, true, true, true, true, true, false, false, false, false] (some 58) HT_ HW_ hHeld ?_
       refine pur_ 15 #[true, true, true, true, true, true, true, true, true, true, true, true, true, true, true, true, false, false, false] (some 59) HT_ ?_
       refine last_ (i := 16) (N := some 60) #[true, true, true, true, true, true, true, true, true, true, true, true, true, true, true, true, true, false, false] rfl rfl (one_of HT_.out (by kernel_rfl)) (by decide) (fun K hK => ?_)
       refine value_ (w1 := ?_) (v := ?_) (by rfl) rfl ?_ ?_
       rotate_left 2
       ·go_simp
        constructor
        ·rfl
        ·rfl
       refine hK.out _ _ ?_
       clear hK K
       refine norm_ (a' := ?_) ?_ ?_
       rotate_left
       ·show Act.put _ (some 60) _ = _
        simp only [Act.put, List.setIfInBounds_toArray, List.set_cons_zero, List.set_cons_succ, i64_w, i32_w]
        rfl
       refine last_ (i := 17) (N := some 61) #[true, true, true, true, true, true, true, true, true, true, true, true, true, true, true, true, true, true, false] rfl rfl (one_of HT_.out (by kernel_rfl)) (by decide) (fun K hK => ?_)
       refine Kd.R_append_step k82 (w0 := w) w.heap.size (by rfl) (.tmp 44) (.tmp 60) 45 82 (.agg #[(.int .i64 0), (.int .i64 0), (.int .i64 0), (.int .i64 0)]) 32 rfl Try.underlying45 info82 rfl (by decide) (by omega) u5 x5_2 (⟨((rd_T82 l0 x6_1).f0), ((rd_T82 l0 x6_1).f1), (rd_T73 t197 x9_2).f0, (rd_T73 t197 x9_2).f1⟩ : S82) [.int .i64 ((rd_T82 l0 x6_1).f0), .int .i64 ((rd_T82 l0 x6_1).f1), .int .i64 ((rd_T73 t197 x9_2).f0), .int .i64 ((rd_T73 t197 x9_2).f1)] (fun k_ => k_ ≠ gb184) (fun _ => False) rfl rfl ?aP (fun _ hk => hk.elim) ?aF ?aO ?aB ?aS ?aL ?_
       (case aP => exact k82_mkM _ _ _ (⟨((rd_T82 l0 x6_1).f0), ((rd_T82 l0 x6_1).f1), (rd_T73 t197 x9_2).f0, (rd_T73 t197 x9_2).f1⟩ : S82))
       (case aB => exact (bl1_ HB GE184))
       (case aF => exact (fun k_ hk => Kd.freshB (g := gb184) (o := .cells #[.int .i64 ((rd_T82 l0 x6_1).f0), .int .i64 ((rd_T82 l0 x6_1).f1), .int .i64 ((rd_T82 l0 x6_1).f2), .int .i64 ((rd_T82 l0 x6_1).f3)] 82 (0, 0)) (bk_ BK184) k_ hk))
       (case aO => exact (ra_ HO_5))
       (case aS => exact (below_size (bl1_ HB GE184)))
       (case aL => have := LMc29.out; omega)
       intro v203 w32 ho hb hg hat
       rw [← Ny202.out] at ho
       refine sh4_ (Kd.R_over' (ra_ HO_8) (Kd.R_typed (ra_ HO_5)) (by decide) hg) (blk_grown (g := gb184) (o := .cells #[.int .i64 ((rd_T82 l0 x6_1).f0), .int .i64 ((rd_T82 l0 x6_1).f1), .int .i64 ((rd_T82 l0 x6_1).f2), .int .i64 ((rd_T82 l0 x6_1).f3)] 82 (0, 0)) (bk_ BK184) hg (Kd.R_away HO_5.out (fun _ hk => hk))) hb ho ?_
       clear HO_8 BK184 HB HO_5 ho hb hg hat
       intro HO_8 BK184 HB HO204
       refine hK.out _ _ ?_
       clear hK K
       refine norm_ (a' := ?_) ?_ ?_
       rotate_left
       ·show Act.put _ (some 61) _ = _
        simp only [Act.put, List.setIfInBounds_toArray, List.set_cons_zero, List.set_cons_succ, i64_w, i32_w]
        rfl
       refine pur_ 18 #[true, true, true, true, true, true, true, true, true, true, true, true, true, true, true, true, true, true, true] (some 5) HT_ ?_
       refine done_ (done_of HT_.out (by kernel_rfl)) ?_
       try go_wp2
       go_roundg k2
       case measure => have := HK1.out; have := HK2.out; omega
       case rel => exact ⟨(y202), (wrap64 (x9_2 + 1)), (by first | rfl | (simp; done) | (simp [*]; done)), H', ⟨by have := HK1.out; have := HK2.out; omega⟩, ⟨ra_ HO204⟩, ⟨ra_ HO_8⟩, ⟨by (with_reducible repeat (first | refine blk_drewN ?_ _ | refine blk_drew ?_ | refine blk_alloc ?_ _)); exact BK184.out⟩, ⟨bl1_ HB GE184⟩⟩
      ·rw [if_neg c27] at H
       have c27b0 : decide (x9_2 < (t197.length : Int)) = false := decide_eq_false c27
       clear c27
       have H' := Aside0.mk H
       clear H
       obtain ⟨Ao33, co33, eo33⟩ := Kd.R_slice HO_8.out
       subst eo33
       go_wp2
       go_roundg k2
       case measure => have := HK1.out; have := HK2.out; omega
       case rel => exact ⟨(x5_2), (wrap64 (x6_1 + 1)), (by first | rfl | (simp; done) | (simp [*]; done)), H', ⟨by have := HK1.out; have := HK2.out; omega⟩, ⟨by (with_reducible repeat (first | apply Kd.R_alloc | apply Kd.R_drewN | apply Kd.R_drew)); exact Kd.R_mono HO_5.out (fun _ hk => trivial)⟩, ⟨bl1_ HB GE184⟩⟩
   ·rw [if_neg c5] at H
    have c5b0 : decide (x6_1 < (l0.length : Int)) = false := decide_eq_false c5
    clear c5
    obtain rfl := Option.some.inj H
    go_wp2
    go_ret
    exact ⟨_, er_, ra_ HO_5, bl_ HB⟩

/-! ### spec_ContactTicks: function 65 -/
def spec_ContactTicks.l0 : Nat → List (S82) → Int → Int → Option (Int)
 | 0, _, _, _ => none
 | k + 1, x0, x3, x4 => if x4 < (x0.length : Int) then (if 0 ≤ x4 then ((spec_IsSpan.f ((rd_T82 x0 x4).f2) ((rd_T82 x0 x4).f3)).bind fun t207 => (if t207 = true then (spec_ContactTicks.l0 k x0 (wrap64 ((wrap64 (x3 + ((rd_T82 x0 x4).f3))) - ((rd_T82 x0 x4).f2))) (wrap64 (x4 + 1))) else (spec_ContactTicks.l0 k x0 x3 (wrap64 (x4 + 1))))) else (none)) else (some x3)
def spec_ContactTicks.f (k : Nat) (l0 : List (S82)) : Option (Int) := spec_ContactTicks.l0 k l0 0 0
theorem spec_ContactTicks.mono_l : ∀ k, (∀ y0 y1 y2, LeO (spec_ContactTicks.l0 k y0 y1 y2) (spec_ContactTicks.l0 (k + 1) y0 y1 y2))
 | 0 => fun _ _ _ r h => by simp [spec_ContactTicks.l0] at h
 | k + 1 => by
  have ih0 := spec_ContactTicks.mono_l k
  ·intro y0 y1 y2
   unfold spec_ContactTicks.l0
   repeat' first | (with_reducible first | exact ih0 _ _ _ | exact LeO.refl _ | exact LeO.none _ | refine LeO.ite ?_ ?_ | refine LeO.bind ?_ (fun _ => ?_)) | exact LeO.none _ | refine LeO.ite ?_ ?_ | refine LeO.bind ?_ (fun _ => ?_)
theorem spec_ContactTicks.mono : ∀ a0 k, LeO (spec_ContactTicks.f k a0) (spec_ContactTicks.f (k + 1) a0) := by
 intro a0 k
 have ih0 := spec_ContactTicks.mono_l k
 unfold spec_ContactTicks.f
 repeat' first | (with_reducible first | exact ih0 _ _ _ | exact LeO.refl _ | exact LeO.none _ | refine LeO.ite ?_ ?_ | refine LeO.bind ?_ (fun _ => ?_)) | exact LeO.none _ | refine LeO.ite ?_ ?_ | refine LeO.bind ?_ (fun _ => ?_)
def spec_ContactTicks.T5 : Bool × List (List Nat × List Nat) := (true, [([], []), ([], []), ([0, 1], [0, 1]), ([2], [2]), ([3], [3]), ([], []), ([], []), ([5, 6], [5, 6]), ([7], [7]), ([8], [8]), ([4, 9], [4, 9]), ([10], [10])])
def spec_ContactTicks.B5 : List Nat := [0, 0, 3, 7, 15, 0, 0, 96, 224, 480, 1023, 2047]
theorem spec_ContactTicks.tab5 : rtab .any (opsOf Try.f65 5) = spec_ContactTicks.T5 := by kernel_rfl
theorem spec_ContactTicks.bits5 : waitsOk spec_ContactTicks.T5.2 spec_ContactTicks.B5 = true := by kernel_rfl
def spec_ContactTicks.T6 : Bool × List (List Nat × List Nat) := (true, [([], []), ([], []), ([], []), ([1, 2], [1, 2]), ([3], [3]), ([4], [4]), ([0, 5], [0, 5]), ([], []), ([], []), ([7, 8], [7, 8]), ([9], [9]), ([10], [10]), ([6, 11], [6, 11]), ([12, 0, 1, 2, 3, 4, 5, 6, 7, 8, 9, 10, 11, 12], [0, 12])])
def spec_ContactTicks.B6 : List Nat := [0, 0, 0, 6, 14, 30, 63, 0, 0, 384, 896, 1920, 4095, 8191]
theorem spec_ContactTicks.tab6 : rtab .any (opsOf Try.f65 6) = spec_ContactTicks.T6 := by kernel_rfl
theorem spec_ContactTicks.bits6 : waitsOk spec_ContactTicks.T6.2 spec_ContactTicks.B6 = true := by kernel_rfl
set_option maxHeartbeats 8000000 in
set_option maxRecDepth 100000 in
theorem spec_ContactTicks.calls (k : Nat) (A0 : Option Addr) (c0 : Nat) (l0 : List (S82)) (r : Int) (w : World) (hr0 : Kd.C k82 w A0 l0.length l0) (hc0 : l0.length ≤ c0) (h : spec_ContactTicks.f k l0 = some r) :
  Calls Try.prog 65 #[.slice A0 l0.length c0] w fun e w' => e = .returned (.int .i64 r) ∧ Below w.heap.size w w' := by
 have hu73 := Try.underlying73
 have HR0 := Aside0.mk hr0
 have HC0 := Aside0.mk hc0
 clear hr0 hc0
 have HB := Aside0.mk (Below.refl w.heap.size w)
 have H := h
 clear h
 unfold spec_ContactTicks.f at H
 have H' := Aside0.mk H
 clear H
 go_enter Try.func65, Try.ntmps65
 go_wp2
 go_loopg [3, 4] k (fun kq v3 v4 w' => ∃ (x3_1 : Int) (x4_1 : Int), v3 = .int .i64 x3_1 ∧ v4 = .int .i64 x4_1 ∧ Aside0 (spec_ContactTicks.l0 kq l0 x3_1 x4_1 = some r) ∧ Aside0 (kq ≤ k) ∧ Aside0 (Below w.heap.size w w'))
 case atStart => exact ⟨(0), (0), (by first | rfl | (simp; done) | (simp [*]; done)), (by first | rfl | (simp; done) | (simp [*]; done)), H', ⟨Nat.le_refl _⟩, ⟨bl_ HB⟩⟩
 case round =>
  clear H'
  obtain ⟨x3_1, x4_1, rfl, rfl, HA, HK1, HB⟩ := hrel
  cases gk with
  | zero => exact absurd HA.out (by simp [spec_ContactTicks.l0])
  | succ k1 =>
   have H := HA.out
   clear HA
   simp only [spec_ContactTicks.l0] at H
   by_cases c2 : x4_1 < (l0.length : Int)
   ·rw [if_pos c2] at H
    have c2b0 := decide_eq_true c2
    clear c2
    replace H := ifn_ H
    obtain ⟨c3, H⟩ := H
    have c3b0 := decide_eq_true c3
    clear c3
    replace H := bs_ H
    obtain ⟨t207, A4, H⟩ := H
    by_cases c5 : t207 = true
    ·subst c5
     rw [if_pos rfl] at H
     have H' := Aside0.mk H
     clear H
     try go_wp2
     refine sh1_ (below_drew1 HB.out) ?_
     clear HB
     intro HB
     have p205 : 0 ≤ (x4_1 : Int) := od_
     have q205 : x4_1 < (l0.length : Int) := od_
     obtain ⟨ad205, e205, hx205_0, hx205_1, hx205_2, hx205_3⟩ := at_T82 HR0.out x4_1 p205 q205
     have hw205_3 := hx205_3
     have hw205_2 := hx205_2
     have hw205_1 := hx205_1
     have hw205_0 := hx205_0
     cases e205
     replace hx205_0 := hbc_ HB hx205_0
     replace hx205_1 := hbc_ HB hx205_1
     replace hx205_2 := hbc_ HB hx205_2
     replace hx205_3 := hbc_ HB hx205_3
     replace p205 := eq_true p205
     replace q205 := eq_true q205
     have p206 : 0 ≤ (x4_1 : Int) := od_
     have q206 : x4_1 < (l0.length : Int) := od_
     obtain ⟨ad206, e206, hx206_0, hx206_1, hx206_2, hx206_3⟩ := at_T82 HR0.out x4_1 p206 q206
     have hw206_3 := hx206_3
     have hw206_2 := hx206_2
     have hw206_1 := hx206_1
     have hw206_0 := hx206_0
     obtain rfl : ad205 = ad206 := (by injection e206)
     replace hx206_0 := hbc_ HB hx206_0
     replace hx206_1 := hbc_ HB hx206_1
     replace hx206_2 := hbc_ HB hx206_2
     replace hx206_3 := hbc_ HB hx206_3
     replace p206 := eq_true p206
     replace q206 := eq_true q206
     refine start_ (n := 12) (S := fun w' => w'.cell? (ad205.add ((x4_1).toNat * 4)) = some (.int .i64 ((rd_T82 l0 x4_1).f0)) ∧ w'.cell? ⟨(ad205.add ((x4_1).toNat * 4)).block, (ad205.add ((x4_1).toNat * 4)).off + 1, none⟩ = some (.int .i64 ((rd_T82 l0 x4_1).f1)) ∧ w'.cell? ⟨(ad205.add ((x4_1).toNat * 4)).block, (ad205.add ((x4_1).toNat * 4)).off + 2, none⟩ = some (.int .i64 ((rd_T82 l0 x4_1).f2)) ∧ w'.cell? ⟨(ad205.add ((x4_1).toNat * 4)).block, (ad205.add ((x4_1).toNat * 4)).off + 3, none⟩ = some (.int .i64 ((rd_T82 l0 x4_1).f3)) ∧ w'.cell? (ad205.add ((x4_1).toNat * 4)) = some (.int .i64 ((rd_T82 l0 x4_1).f0)) ∧ w'.cell? ⟨(ad205.add ((x4_1).toNat * 4)).block, (ad205.add ((x4_1).toNat * 4)).off + 1, none⟩ = some (.int .i64 ((rd_T82 l0 x4_1).f1)) ∧ w'.cell? ⟨(ad205.add ((x4_1).toNat * 4)).block, (ad205.add ((x4_1).toNat * 4)).off + 2, none⟩ = some (.int .i64 ((rd_T82 l0 x4_1).f2)) ∧ w'.cell? ⟨(ad205.add ((x4_1).toNat * 4)).block, (ad205.add ((x4_1).toNat * 4)).off + 3, none⟩ = some (.int .i64 ((rd_T82 l0 x4_1).f3))) (ds := []) #[false, false, false, false, false, false, false, false, false, false, false, false] (by kernel_rfl) rfl rfl ⟨((HB.out.cell (World.block_lt_of_cell? w _ hw205_0)).trans hw205_0), ((HB.out.cell (World.block_lt_of_cell? w _ hw205_1)).trans hw205_1), ((HB.out.cell (World.block_lt_of_cell? w _ hw205_2)).trans hw205_2), ((HB.out.cell (World.block_lt_of_cell? w _ hw205_3)).trans hw205_3), ((HB.out.cell (World.block_lt_of_cell? w _ hw206_0)).trans hw206_0), ((HB.out.cell (World.block_lt_of_cell? w _ hw206_1)).trans hw206_1), ((HB.out.cell (World.block_lt_of_cell? w _ hw206_2)).trans hw206_2), ((HB.out.cell (World.block_lt_of_cell? w _ hw206_3)).trans hw206_3)⟩ (fun hHeld => ?_); refine with_tabW spec_ContactTicks.tab5 spec_ContactTicks.bits5 (fun HT_ HW_ => ?_)
     generalize wr.drew = w6 at HB hx205_0 hx205_1 hx205_2 hx205_3 hx206_0 hx206_1 hx206_2 hx206_3 hHeld ⊢
     refine pur_ 0 #[true, false, false, false, false, false, false, false, false, false, false, false] (some 11) HT_ ?_
     refine pur_ 1 #[true, true, false, false, false, false, false, false, false, false, false, false] (some 12) HT_ ?_
     refine pur_ 2 #[true, true, true, false, false, false, false, false, false, false, false, false] (some 13) HT_ ?_
     refine pur_ 3 #[true, true, true, true, false, false, false, false, false, false, false, false] (some 14) HT_ ?_
     refine pur_ 5 #[true, true, true, true, false, true, false, false, false, false, false, false] (some 16) HT_ ?_
     refine pur_ 6 #[true, true, true, true, false, true, true, false, false, false, false, false] (some 17) HT_ ?_
     refine pur_ 7 #[true, true, true, true, false, true, true, true, false, false, false, false] (some 18) HT_ ?_
     refine pur_ 8 #[true, true, true, true, false, true, true, true, true, false, false, false] (some 19) HT_ ?_
     refine tak_ 4 #[true, true, true, true, true, true, true, true, true, false, false, false] (some 15) HT_ HW_ hHeld ?_
     refine tak_ 9 #[true, true, true, true, true, true, true, true, true, true, false, false] (some 20) HT_ HW_ hHeld ?_
     refine pur_ 10 #[true, true, true, true, true, true, true, true, true, true, true, false] (some 21) HT_ ?_
     refine onc_ 11 #[true, true, true, true, true, true, true, true, true, true, true, true] (some 22) HT_ Try.func95 (spec_IsSpan.calls ((rd_T82 l0 x4_1).f2) ((rd_T82 l0 x4_1).f3) true _ A4.out) ?_
     rintro e w7 ⟨rfl, hb⟩
     refine sh1_ (below_step (bl_ HB) hb) ?_
     clear HB hb
     intro HB
     refine ⟨_, _, rfl, ⟨((HB.out.cell (World.block_lt_of_cell? w _ hw205_0)).trans hw205_0), ((HB.out.cell (World.block_lt_of_cell? w _ hw205_1)).trans hw205_1), ((HB.out.cell (World.block_lt_of_cell? w _ hw205_2)).trans hw205_2), ((HB.out.cell (World.block_lt_of_cell? w _ hw205_3)).trans hw205_3), ((HB.out.cell (World.block_lt_of_cell? w _ hw206_0)).trans hw206_0), ((HB.out.cell (World.block_lt_of_cell? w _ hw206_1)).trans hw206_1), ((HB.out.cell (World.block_lt_of_cell? w _ hw206_2)).trans hw206_2), ((HB.out.cell (World.block_lt_of_cell? w _ hw206_3)).trans hw206_3)⟩, pt_, fun hHeld => ?_⟩
     refine done_ (done_of HT_.out (by kernel_rfl)) ?_
     try go_wp2
     refine sh1_ (below_drew1 HB.out) ?_
     clear HB
     intro HB
     have p208 : 0 ≤ (x4_1 : Int) := od_
     have q208 : x4_1 < (l0.length : Int) := od_
     obtain ⟨ad208, e208, hx208_0, hx208_1, hx208_2, hx208_3⟩ := at_T82 HR0.out x4_1 p208 q208
     have hw208_3 := hx208_3
     have hw208_2 := hx208_2
     have hw208_1 := hx208_1
     have hw208_0 := hx208_0
     obtain rfl : ad205 = ad208 := (by injection e208)
     replace hx208_0 := hbc_ HB hx208_0
     replace hx208_1 := hbc_ HB hx208_1
     replace hx208_2 := hbc_ HB hx208_2
     replace hx208_3 := hbc_ HB hx208_3
     replace p208 := eq_true p208
     replace q208 := eq_true q208
     have p209 : 0 ≤ (x4_1 : Int) := od_
     have q209 : x4_1 < (l0.length : Int) := od_
     obtain ⟨ad209, e209, hx209_0, hx209_1, hx209_2, hx209_3⟩ := at_T82 HR0.out x4_1 p209 q209
     have hw209_3 := hx209_3
     have hw209_2 := hx209_2
     have hw209_1 := hx209_1
     have hw209_0 := hx209_0
     obtain rfl : ad205 = ad209 := (by injection e209)
     replace hx209_0 := hbc_ HB hx209_0
     replace hx209_1 := hbc_ HB hx209_1
     replace hx209_2 := hbc_ HB hx209_2
     replace hx209_3 := hbc_ HB hx209_3
     replace p209 := eq_true p209
     replace q209 := eq_true q209
     refine start_ (n := 14) (S := fun w' => w'.cell? (ad205.add ((x4_1).toNat * 4)) = some (.int .i64 ((rd_T82 l0 x4_1).f0)) ∧ w'.cell? ⟨(ad205.add ((x4_1).toNat * 4)).block, (ad205.add ((x4_1).toNat * 4)).off + 1, none⟩ = some (.int .i64 ((rd_T82 l0 x4_1).f1)) ∧ w'.cell? ⟨(ad205.add ((x4_1).toNat * 4)).block, (ad205.add ((x4_1).toNat * 4)).off + 2, none⟩ = some (.int .i64 ((rd_T82 l0 x4_1).f2)) ∧ w'.cell? ⟨(ad205.add ((x4_1).toNat * 4)).block, (ad205.add ((x4_1).toNat * 4)).off + 3, none⟩ = some (.int .i64 ((rd_T82 l0 x4_1).f3)) ∧ w'.cell? (ad205.add ((x4_1).toNat * 4)) = some (.int .i64 ((rd_T82 l0 x4_1).f0)) ∧ w'.cell? ⟨(ad205.add ((x4_1).toNat * 4)).block, (ad205.add ((x4_1).toNat * 4)).off + 1, none⟩ = some (.int .i64 ((rd_T82 l0 x4_1).f1)) ∧ w'.cell? ⟨(ad205.add ((x4_1).toNat * 4)).block, (ad205.add ((x4_1).toNat * 4)).off + 2, none⟩ = some (.int .i64 ((rd_T82 l0 x4_1).f2)) ∧ w'.cell? ⟨(ad205.add ((x4_1).toNat * 4)).block, (ad205.add ((x4_1).toNat * 4)).off + 3, none⟩ = some (.int .i64 ((rd_T82 l0 x4_1).f3))) (ds := []) #[false, false, false, false, false, false, false, false, false, false, false, false, false, false] (by kernel_rfl) rfl rfl ⟨((HB.out.cell (World.block_lt_of_cell? w _ hw208_0)).trans hw208_0), ((HB.out.cell (World.block_lt_of_cell? w _ hw208_1)).trans hw208_1), ((HB.out.cell (World.block_lt_of_cell? w _ hw208_2)).trans hw208_2), ((HB.out.cell (World.block_lt_of_cell? w _ hw208_3)).trans hw208_3), ((HB.out.cell (World.block_lt_of_cell? w _ hw209_0)).trans hw209_0), ((HB.out.cell (World.block_lt_of_cell? w _ hw209_1)).trans hw209_1), ((HB.out.cell (World.block_lt_of_cell? w _ hw209_2)).trans hw209_2), ((HB.out.cell (World.block_lt_of_cell? w _ hw209_3)).trans hw209_3)⟩ (fun hHeld => ?_); refine with_tabW spec_ContactTicks.tab6 spec_ContactTicks.bits6 (fun HT_ HW_ => ?_)
     generalize w7.drew = w8 at HB hx208_0 hx208_1 hx208_2 hx208_3 hx209_0 hx209_1 hx209_2 hx209_3 hHeld ⊢
     refine pur_ 0 #[true, false, false, false, false, false, false, false, false, false, false, false, false, false] (some 23) HT_ ?_
     refine pur_ 1 #[true, true, false, false, false, false, false, false, false, false, false, false, false, false] (some 24) HT_ ?_
     refine pur_ 2 #[true, true, true, false, false, false, false, false, false, false, false, false, false, false] (some 25) HT_ ?_
     refine pur_ 3 #[true, true, true, true, false, false, false, false, false, false, false, false, false, false] (some 26) HT_ ?_
     refine pur_ 4 #[true, true, true, true, true, false, false, false, false, false, false, false, false, false] (some 27) HT_ ?_
     refine pur_ 7 #[true, true, true, true, true, false, false, true, false, false, false, false, false, false] (some 30) HT_ ?_
     refine pur_ 8 #[true, true, true, true, true, false, false, true, true, false, false, false, false, false] (some 31) HT_ ?_
     refine pur_ 9 #[true, true, true, true, true, false, false, true, true, true, false, false, false, false] (some 32) HT_ ?_
     refine pur_ 10 #[true, true, true, true, true, false, false, true, true, true, true, false, false, false] (some 33) HT_ ?_
     refine tak_ 5 #[true, true, true, true, true, true, false, true, true, true, true, false, false, false] (some 28) HT_ HW_ hHeld ?_
     refine pur_ 6 #[true, true, true, true, true, true, true, true, true, true, true, false, false, false] (some 29) HT_ ?_
     refine tak_ 11 #[true, true, true, true, true, true, true, true, true, true, true, true, false, false] (some 34) HT_ HW_ hHeld ?_
     refine pur_ 12 #[true, true, true, true, true, true, true, true, true, true, true, true, true, false] (some 35) HT_ ?_
     refine pur_ 13 #[true, true, true, true, true, true, true, true, true, true, true, true, true, true] (some 3) HT_ ?_
     refine done_ (done_of HT_.out (by kernel_rfl)) ?_
     try go_wp2
     go_roundg k1
     case measure => have := HK1.out; omega
     case rel => exact ⟨(wrap64 ((wrap64 (x3_1 + ((rd_T82 l0 x4_1).f3))) - ((rd_T82 l0 x4_1).f2))), (wrap64 (x4_1 + 1)), (by first | rfl | (simp; done) | (simp [*]; done)), (by first | rfl | (simp; done) | (simp [*]; done)), H', ⟨by have := HK1.out; omega⟩, ⟨bl_ HB⟩⟩
    ·replace c5 := Bool.eq_false_iff.mpr c5
     subst c5
     have H1 : (spec_ContactTicks.l0 k1 l0 x3_1 (wrap64 (x4_1 + 1))) = some r := by rw [if_neg (show ¬ (false = true) by decide)] at H; exact H
     clear H
     have H := H1
     clear H1
     have H' := Aside0.mk H
     clear H
     try go_wp2
     refine sh1_ (below_drew1 HB.out) ?_
     clear HB
     intro HB
     have p205 : 0 ≤ (x4_1 : Int) := od_
     have q205 : x4_1 < (l0.length : Int) := od_
     obtain ⟨ad205, e205, hx205_0, hx205_1, hx205_2, hx205_3⟩ := at_T82 HR0.out x4_1 p205 q205
     have hw205_3 := hx205_3
     have hw205_2 := hx205_2
     have hw205_1 := hx205_1
     have hw205_0 := hx205_0
     cases e205
     replace hx205_0 := hbc_ HB hx205_0
     replace hx205_1 := hbc_ HB hx205_1
     replace hx205_2 := hbc_ HB hx205_2
     replace hx205_3 := hbc_ HB hx205_3
     replace p205 := eq_true p205
     replace q205 := eq_true q205
     have p206 : 0 ≤ (x4_1 : Int) := od_
     have q206 : x4_1 < (l0.length : Int) := od_
     obtain ⟨ad206, e206, hx206_0, hx206_1, hx206_2, hx206_3⟩ := at_T82 HR0.out x4_1 p206 q206
     have hw206_3 := hx206_3
     have hw206_2 := hx206_2
     have hw206_1 := hx206_1
     have hw206_0 := hx206_0
     obtain rfl : ad205 = ad206 := (by injection e206)
     replace hx206_0 := hbc_ HB hx206_0
     replace hx206_1 := hbc_ HB hx206_1
     replace hx206_2 := hbc_ HB hx206_2
     replace hx206_3 := hbc_ HB hx206_3
     replace p206 := eq_true p206
     replace q206 := eq_true q206
     refine start_ (n := 12) (S := fun w' => w'.cell? (ad205.add ((x4_1).toNat * 4)) = some (.int .i64 ((rd_T82 l0 x4_1).f0)) ∧ w'.cell? ⟨(ad205.add ((x4_1).toNat * 4)).block, (ad205.add ((x4_1).toNat * 4)).off + 1, none⟩ = some (.int .i64 ((rd_T82 l0 x4_1).f1)) ∧ w'.cell? ⟨(ad205.add ((x4_1).toNat * 4)).block, (ad205.add ((x4_1).toNat * 4)).off + 2, none⟩ = some (.int .i64 ((rd_T82 l0 x4_1).f2)) ∧ w'.cell? ⟨(ad205.add ((x4_1).toNat * 4)).block, (ad205.add ((x4_1).toNat * 4)).off + 3, none⟩ = some (.int .i64 ((rd_T82 l0 x4_1).f3)) ∧ w'.cell? (ad205.add ((x4_1).toNat * 4)) = some (.int .i64 ((rd_T82 l0 x4_1).f0)) ∧ w'.cell? ⟨(ad205.add ((x4_1).toNat * 4)).block, (ad205.add ((x4_1).toNat * 4)).off + 1, none⟩ = some (.int .i64 ((rd_T82 l0 x4_1).f1)) ∧ w'.cell? ⟨(ad205.add ((x4_1).toNat * 4)).block, (ad205.add ((x4_1).toNat * 4)).off + 2, none⟩ = some (.int .i64 ((rd_T82 l0 x4_1).f2)) ∧ w'.cell? ⟨(ad205.add ((x4_1).toNat * 4)).block, (ad205.add ((x4_1).toNat * 4)).off + 3, none⟩ = some (.int .i64 ((rd_T82 l0 x4_1).f3))) (ds := []) #[false, false, false, false, false, false, false, false, false, false, false, false] (by kernel_rfl) rfl rfl ⟨((HB.out.cell (World.block_lt_of_cell? w _ hw205_0)).trans hw205_0), ((HB.out.cell (World.block_lt_of_cell? w _ hw205_1)).trans hw205_1), ((HB.out.cell (World.block_lt_of_cell? w _ hw205_2)).trans hw205_2), ((HB.out.cell (World.block_lt_of_cell? w _ hw205_3)).trans hw205_3), ((HB.out.cell (World.block_lt_of_cell? w _ hw206_0)).trans hw206_0), ((HB.out.cell (World.block_lt_of_cell? w _ hw206_1)).trans hw206_1), ((HB.out.cell (World.block_lt_of_cell? w _ hw206_2)).trans hw206_2), ((HB.out.cell (World.block_lt_of_cell? w _ hw206_3)).trans hw206_3)⟩ (fun hHeld => ?_); refine with_tabW spec_ContactTicks.tab5 spec_ContactTicks.bits5 (fun HT_ HW_ => ?_)
     generalize wr.drew = w9 at HB hx205_0 hx205_1 hx205_2 hx205_3 hx206_0 hx206_1 hx206_2 hx206_3 hHeld ⊢
     refine pur_ 0 #[true, false, false, false, false, false, false, false, false, false, false, false] (some 11) HT_ ?_
     refine pur_ 1 #[true, true, false, false, false, false, false, false, false, false, false, false] (some 12) HT_ ?_
     refine pur_ 2 #[true, true, true, false, false, false, false, false, false, false, false, false] (some 13) HT_ ?_
     refine pur_ 3 #[true, true, true, true, false, false, false, false, false, false, false, false] (some 14) HT_ ?_
     refine pur_ 5 #[true, true, true, true, false, true, false, false, false, false, false, false] (some 16) HT_ ?_
     refine pur_ 6 #[true, true, true, true, false, true, true, false, false, false, false, false] (some 17) HT_ ?_
     refine pur_ 7 #[true, true, true, true, false, true, true, true, false, false, false, false] (some 18) HT_ ?_
     refine pur_ 8 #[true, true, true, true, false, true, true, true, true, false, false, false] (some 19) HT_ ?_
     refine tak_ 4 #[true, true, true, true, true, true, true, true, true, false, false, false] (some 15) HT_ HW_ hHeld ?_
     refine tak_ 9 #[true, true, true, true, true, true, true, true, true, true, false, false] (some 20) HT_ HW_ hHeld ?_
     refine pur_ 10 #[true, true, true, true, true, true, true, true, true, true, true, false] (some 21) HT_ ?_
     refine onc_ 11 #[true, true, true, true, true, true, true, true, true, true, true, true] (some 22) HT_ Try.func95 (spec_IsSpan.calls ((rd_T82 l0 x4_1).f2) ((rd_T82 l0 x4_1).f3) false _ A4.out) ?_
     rintro e w10 ⟨rfl, hb⟩
     refine sh1_ (below_step (bl_ HB) hb) ?_
     clear HB hb
     intro HB
     refine ⟨_, _, rfl, ⟨((HB.out.cell (World.block_lt_of_cell? w _ hw205_0)).trans hw205_0), ((HB.out.cell (World.block_lt_of_cell? w _ hw205_1)).trans hw205_1), ((HB.out.cell (World.block_lt_of_cell? w _ hw205_2)).trans hw205_2), ((HB.out.cell (World.block_lt_of_cell? w _ hw205_3)).trans hw205_3), ((HB.out.cell (World.block_lt_of_cell? w _ hw206_0)).trans hw206_0), ((HB.out.cell (World.block_lt_of_cell? w _ hw206_1)).trans hw206_1), ((HB.out.cell (World.block_lt_of_cell? w _ hw206_2)).trans hw206_2), ((HB.out.cell (World.block_lt_of_cell? w _ hw206_3)).trans hw206_3)⟩, pt_, fun hHeld => ?_⟩
     refine done_ (done_of HT_.out (by kernel_rfl)) ?_
     try go_wp2
     go_roundg k1
     case measure => have := HK1.out; omega
     case rel => exact ⟨(x3_1), (wrap64 (x4_1 + 1)), (by first | rfl | (simp; done) | (simp [*]; done)), (by first | rfl | (simp; done) | (simp [*]; done)), H', ⟨by have := HK1.out; omega⟩, ⟨bl_ HB⟩⟩
   ·rw [if_neg c2] at H
    have c2b0 : decide (x4_1 < (l0.length : Int)) = false := decide_eq_false c2
    clear c2
    obtain rfl := Option.some.inj H
    go_wp2
    go_ret
    exact ⟨er_, bl_ HB⟩

/-! ### spec_LostTicks: function 29 -/
def spec_LostTicks.f (k : Nat) (l0 : List (S82)) (l1 : List (S87)) : Option (Int) := (spec_ContactTicks.f k l0).bind fun t210 => ((spec_CutClouds.f k l0 l1).bind fun t211 => ((spec_ContactTicks.f k t211).bind fun t214 => (some (wrap64 (t210 - t214)))))
theorem spec_LostTicks.mono : ∀ a0 a1 k, LeO (spec_LostTicks.f k a0 a1) (spec_LostTicks.f (k + 1) a0 a1) := by
 intro a0 a1 k
 unfold spec_LostTicks.f
 repeat' first | (with_reducible first | exact spec_ContactTicks.mono _ _ | exact spec_CutClouds.mono _ _ _ | exact LeO.refl _ | exact LeO.none _ | refine LeO.ite ?_ ?_ | refine LeO.bind ?_ (fun _ => ?_)) | exact LeO.none _ | refine LeO.ite ?_ ?_ | refine LeO.bind ?_ (fun _ => ?_)
set_option maxHeartbeats 8000000 in
set_option maxRecDepth 100000 in
theorem spec_LostTicks.calls (k : Nat) (A0 : Option Addr) (c0 : Nat) (l0 : List (S82)) (A1 : Option Addr) (c1 : Nat) (l1 : List (S87)) (r : Int) (w : World) (hr0 : Kd.C k82 w A0 l0.length l0) (hc0 : l0.length ≤ c0) (hr1 : Kd.C k87 w A1 l1.length l1) (hc1 : l1.length ≤ c1) (h : spec_LostTicks.f k l0 l1 = some r) :
  Calls Try.prog 29 #[.slice A0 l0.length c0, .slice A1 l1.length c1] w fun e w' => e = .returned (.int .i64 r) ∧ Below w.heap.size w w' := by
 have HR0 := Aside0.mk hr0
 have HC0 := Aside0.mk hc0
 clear hr0 hc0
 have HR1 := Aside0.mk hr1
 have HC1 := Aside0.mk hc1
 clear hr1 hc1
 have HB := Aside0.mk (Below.refl w.heap.size w)
 have H := h
 clear h
 unfold spec_LostTicks.f at H
 replace H := bs_ H
 obtain ⟨t210, A3, H⟩ := H
 replace H := bs_ H
 obtain ⟨t211, A4, H⟩ := H
 replace H := bs_ H
 obtain ⟨t214, A5, H⟩ := H
 obtain rfl := Option.some.inj H
 go_enter Try.func29, Try.ntmps29
 go_wp2_with (first | ((with_reducible refine gate_callee (f := 65) rfl ?_); refine gl_ 6 Try.func65 (spec_ContactTicks.calls k _ _ l0 t210 _ (cq_ HR0) HC0.out A3.out) ?_; rintro e w6 ⟨rfl, hb⟩; refine ⟨_, rfl, sh1_ (below_step (bl_ HB) hb) ?_⟩; clear HB hb; intro HB) | ((with_reducible refine gate_callee (f := 20) rfl ?_); refine gl_ 9 Try.func20 (spec_CutClouds.calls k _ _ l0 _ _ l1 t211 _ (ck_ HR0 HB) HC0.out (ck_ HR1 HB) HC1.out A4.out) ?_; rintro e w7 ⟨v212, rfl, ho0, hb⟩; refine ⟨_, rfl, sh2_ (Kd.R_lower ho0 (below_size (bl_ HB))) (below_step (bl_ HB) hb) ?_⟩; clear HB hb ho0; intro HO213 HB; obtain ⟨Ao8, co8, eo8⟩ := Kd.R_slice HO213.out; subst eo8) | ((with_reducible refine gate_callee (f := 65) rfl ?_); refine gl_ 10 Try.func65 (spec_ContactTicks.calls k _ _ t211 t214 _ (cr_ HO213) (rl_ HO213) A5.out) ?_; rintro e w9 ⟨rfl, hb⟩; refine ⟨_, rfl, sh2_ (Kd.R_below (ra_ HO213) hb) (below_step (bl_ HB) hb) ?_⟩; clear HO213 HB hb; intro HO213 HB))
 go_ret
 exact ⟨er_, bl_ HB⟩

end Go.Proofs.Ytcjfalmhohcifaa.PFnExactLostTicks
