-- Written by a program of this session for this claim (the kit's printer with changes).
import Derived.Test.YtcjfalmhohcifaaQFnExactSpeakingSpansx0
import Derived.Test.YtcjfalmhohcifaaQFnExactSpeakingSpansx10
namespace Go.Proofs.Ytcjfalmhohcifaa.PFnExactSpeakingSpans
open Go.RowKit Go.Proofs.YtcjfalmhohcifaaW.PrintWords Go.Proofs.YtcjfalmhohcifaaW.PrintLast Go.Proofs.YtcjfalmhohcifaaW.PrintMore
attribute [local go_sem] max2_int min2_int max_two min_two max_three min_three max_four min_four   -- for this text's walks alone
set_option linter.unusedVariables false
set_option linter.unusedSimpArgs false

/-! ### laws_eqSpanS: function 13 -/
def laws_eqSpanS.l0 : Nat → List (S73) → List (S73) → Int → Option (Bool)
 | 0, _, _, _ => none
 | k + 1, x0, x1, x5 => if x5 < (x0.length : Int) then (if 0 ≤ x5 then (if x5 < (x1.length : Int) then ((laws_eqSpan.f ((rd_T73 x0 x5).f0) ((rd_T73 x0 x5).f1) ((rd_T73 x1 x5).f0) ((rd_T73 x1 x5).f1)).bind fun t487 => (if t487 = true then (laws_eqSpanS.l0 k x0 x1 (wrap64 (x5 + 1))) else (some false))) else (none)) else (none)) else (some true)
def laws_eqSpanS.f (k : Nat) (l0 : List (S73)) (l1 : List (S73)) : Option (Bool) := if (l0.length : Int) = (l1.length : Int) then (laws_eqSpanS.l0 k l0 l1 0) else (some false)
theorem laws_eqSpanS.mono_l : ∀ k, (∀ y0 y1 y2, LeO (laws_eqSpanS.l0 k y0 y1 y2) (laws_eqSpanS.l0 (k + 1) y0 y1 y2))
 | 0 => fun _ _ _ r h => by simp [laws_eqSpanS.l0] at h
 | k + 1 => by
  have ih0 := laws_eqSpanS.mono_l k
  ·intro y0 y1 y2
   unfold laws_eqSpanS.l0
   repeat' first | (with_reducible first | exact ih0 _ _ _ | exact LeO.refl _ | exact LeO.none _ | refine LeO.ite ?_ ?_ | refine LeO.bind ?_ (fun _ => ?_)) | exact LeO.none _ | refine LeO.ite ?_ ?_ | refine LeO.bind ?_ (fun _ => ?_)
theorem laws_eqSpanS.mono : ∀ a0 a1 k, LeO (laws_eqSpanS.f k a0 a1) (laws_eqSpanS.f (k + 1) a0 a1) := by
 intro a0 a1 k
 have ih0 := laws_eqSpanS.mono_l k
 unfold laws_eqSpanS.f
 repeat' first | (with_reducible first | exact ih0 _ _ _ | exact LeO.refl _ | exact LeO.none _ | refine LeO.ite ?_ ?_ | refine LeO.bind ?_ (fun _ => ?_)) | exact LeO.none _ | refine LeO.ite ?_ ?_ | refine LeO.bind ?_ (fun _ => ?_)
def laws_eqSpanS.T6 : Bool × List (List Nat × List Nat) := (true, [([], []), ([], []), ([0, 1], [0, 1]), ([2], [2]), ([], []), ([], []), ([4, 5], [4, 5]), ([6], [6]), ([3, 7], [3, 7]), ([8], [8])])
def laws_eqSpanS.B6 : List Nat := [0, 0, 3, 7, 0, 0, 48, 112, 255, 511]
theorem laws_eqSpanS.tab6 : rtab .any (opsOf Try.f13 6) = laws_eqSpanS.T6 := by kernel_rfl
theorem laws_eqSpanS.bits6 : waitsOk laws_eqSpanS.T6.2 laws_eqSpanS.B6 = true := by kernel_rfl
set_option maxHeartbeats 8000000 in
set_option maxRecDepth 100000 in
theorem laws_eqSpanS.calls (k : Nat) (A0 : Option Addr) (c0 : Nat) (l0 : List (S73)) (A1 : Option Addr) (c1 : Nat) (l1 : List (S73)) (r : Bool) (w : World) (hr0 : Kd.C k73 w A0 l0.length l0) (hc0 : l0.length ≤ c0) (hr1 : Kd.C k73 w A1 l1.length l1) (hc1 : l1.length ≤ c1) (h : laws_eqSpanS.f k l0 l1 = some r) :
  Calls Try.prog 13 #[.slice A0 l0.length c0, .slice A1 l1.length c1] w fun e w' => e = .returned (.bool r) ∧ Below w.heap.size w w' := by
 have hu73 := Try.underlying73
 have HR0 := Aside0.mk hr0
 have HC0 := Aside0.mk hc0
 clear hr0 hc0
 have HR1 := Aside0.mk hr1
 have HC1 := Aside0.mk hc1
 clear hr1 hc1
 have HB := Aside0.mk (Below.refl w.heap.size w)
 have H := h
 clear h
 unfold laws_eqSpanS.f at H
 by_cases c3 : (l0.length : Int) = (l1.length : Int)
 ·rw [if_pos c3] at H
  obtain ⟨c3b0, c3b1⟩ := bt_ c3
  have c3b2 : (l0.length == l1.length) = true := by first | simpa using c3 | (simp at c3 ⊢; omega)
  clear c3
  have H' := Aside0.mk H
  clear H
  go_enter Try.func13, Try.ntmps13
  go_wp2
  go_loopg [5] k (fun kq v5 w' => ∃ (x5_1 : Int), v5 = .int .i64 x5_1 ∧ Aside0 (laws_eqSpanS.l0 kq l0 l1 x5_1 = some r) ∧ Aside0 (kq ≤ k) ∧ Aside0 (Below w.heap.size w w'))
  case atStart => exact ⟨(0), (by first | rfl | (simp; done) | (simp [*]; done)), H', ⟨Nat.le_refl _⟩, ⟨bl_ HB⟩⟩
  case round =>
   clear H'
   try clear c1
   try clear p2
   try clear c3
   try clear c3b0
   try clear c3b1
   try clear c3b2
   obtain ⟨x5_1, rfl, HA, HK1, HB⟩ := hrel
   cases gk with
   | zero => exact absurd HA.out (by simp [laws_eqSpanS.l0])
   | succ k1 =>
    have H := HA.out
    clear HA
    simp only [laws_eqSpanS.l0] at H
    by_cases c4 : x5_1 < (l0.length : Int)
    ·rw [if_pos c4] at H
     have c4b0 := decide_eq_true c4
     clear c4
     replace H := ifn_ H
     obtain ⟨c5, H⟩ := H
     have c5b0 := decide_eq_true c5
     clear c5
     replace H := ifn_ H
     obtain ⟨c6, H⟩ := H
     have c6b0 := decide_eq_true c6
     clear c6
     replace H := bs_ H
     obtain ⟨t487, A7, H⟩ := H
     by_cases c8 : t487 = true
     ·subst c8
      rw [if_pos rfl] at H
      have H' := Aside0.mk H
      clear H
      try go_wp2
      refine sh1_ (below_drew1 HB.out) ?_
      clear HB
      intro HB
      have p485 : 0 ≤ (x5_1 : Int) := od_
      have q485 : x5_1 < (l0.length : Int) := od_
      obtain ⟨ad485, e485, hx485_0, hx485_1⟩ := at_T73 HR0.out x5_1 p485 q485
      have hw485_1 := hx485_1
      have hw485_0 := hx485_0
      cases e485
      replace hx485_0 := hbc_ HB hx485_0
      replace hx485_1 := hbc_ HB hx485_1
      replace p485 := eq_true p485
      replace q485 := eq_true q485
      have p486 : 0 ≤ (x5_1 : Int) := od_
      have q486 : x5_1 < (l1.length : Int) := od_
      obtain ⟨ad486, e486, hx486_0, hx486_1⟩ := at_T73 HR1.out x5_1 p486 q486
      have hw486_1 := hx486_1
      have hw486_0 := hx486_0
      cases e486
      replace hx486_0 := hbc_ HB hx486_0
      replace hx486_1 := hbc_ HB hx486_1
      replace p486 := eq_true p486
      replace q486 := eq_true q486
      refine start_ (n := 10) (S := fun w' => w'.cell? (ad485.add ((x5_1).toNat * 2)) = some (.int .i64 ((rd_T73 l0 x5_1).f0)) ∧ w'.cell? ⟨(ad485.add ((x5_1).toNat * 2)).block, (ad485.add ((x5_1).toNat * 2)).off + 1, none⟩ = some (.int .i64 ((rd_T73 l0 x5_1).f1)) ∧ w'.cell? (ad486.add ((x5_1).toNat * 2)) = some (.int .i64 ((rd_T73 l1 x5_1).f0)) ∧ w'.cell? ⟨(ad486.add ((x5_1).toNat * 2)).block, (ad486.add ((x5_1).toNat * 2)).off + 1, none⟩ = some (.int .i64 ((rd_T73 l1 x5_1).f1))) (ds := []) #[false, false, false, false, false, false, false, false, false, false] (by kernel_rfl) rfl rfl ⟨((HB.out.cell (World.block_lt_of_cell? w _ hw485_0)).trans hw485_0), ((HB.out.cell (World.block_lt_of_cell? w _ hw485_1)).trans hw485_1), ((HB.out.cell (World.block_lt_of_cell? w _ hw486_0)).trans hw486_0), ((HB.out.cell (World.block_lt_of_cell? w _ hw486_1)).trans hw486_1)⟩ (fun hHeld => ?_); refine with_tabW laws_eqSpanS.tab6 laws_eqSpanS.bits6 (fun HT_ HW_ => ?_)
      generalize wr.drew = w9 at HB hx485_0 hx485_1 hx486_0 hx486_1 hHeld ⊢
      refine pur_ 0 #[true, false, false, false, false, false, false, false, false, false] (some 17) HT_ ?_
      refine pur_ 1 #[true, true, false, false, false, false, false, false, false, false] (some 18) HT_ ?_
      refine pur_ 2 #[true, true, true, false, false, false, false, false, false, false] (some 19) HT_ ?_
      refine pur_ 4 #[true, true, true, false, true, false, false, false, false, false] (some 21) HT_ ?_
      refine pur_ 5 #[true, true, true, false, true, true, false, false, false, false] (some 22) HT_ ?_
      refine pur_ 6 #[true, true, true, false, true, true, true, false, false, false] (some 23) HT_ ?_
      refine tak_ 3 #[true, true, true, true, true, true, true, false, false, false] (some 20) HT_ HW_ hHeld ?_
      refine tak_ 7 #[true, true, true, true, true, true, true, true, false, false] (some 24) HT_ HW_ hHeld ?_
      refine onc_ 8 #[true, true, true, true, true, true, true, true, true, false] (some 25) HT_ Try.func51 (laws_eqSpan.calls ((rd_T73 l0 x5_1).f0) ((rd_T73 l0 x5_1).f1) ((rd_T73 l1 x5_1).f0) ((rd_T73 l1 x5_1).f1) true _ A7.out) ?_
      rintro e w10 ⟨rfl, hb⟩
      refine sh1_ (below_step (bl_ HB) hb) ?_
      clear HB hb
      intro HB
      refine ⟨_, _, rfl, ⟨((HB.out.cell (World.block_lt_of_cell? w _ hw485_0)).trans hw485_0), ((HB.out.cell (World.block_lt_of_cell? w _ hw485_1)).trans hw485_1), ((HB.out.cell (World.block_lt_of_cell? w _ hw486_0)).trans hw486_0), ((HB.out.cell (World.block_lt_of_cell? w _ hw486_1)).trans hw486_1)⟩, pt_, fun hHeld => ?_⟩
      refine pur_ 9 #[true, true, true, true, true, true, true, true, true, true] (some 26) HT_ ?_
      refine done_ (done_of HT_.out (by kernel_rfl)) ?_
      try go_wp2
      go_roundg k1
      case measure => have := HK1.out; omega
      case rel => exact ⟨(wrap64 (x5_1 + 1)), (by first | rfl | (simp; done) | (simp [*]; done)), H', ⟨by have := HK1.out; omega⟩, ⟨bl_ HB⟩⟩
     ·replace c8 := Bool.eq_false_iff.mpr c8
      subst c8
      have H1 : (some false) = some r := by rw [if_neg (show ¬ (false = true) by decide)] at H; exact H
      clear H
      have H := H1
      clear H1
      obtain rfl := Option.some.inj H
      try go_wp2
      refine sh1_ (below_drew1 HB.out) ?_
      clear HB
      intro HB
      have p485 : 0 ≤ (x5_1 : Int) := od_
      have q485 : x5_1 < (l0.length : Int) := od_
      obtain ⟨ad485, e485, hx485_0, hx485_1⟩ := at_T73 HR0.out x5_1 p485 q485
      have hw485_1 := hx485_1
      have hw485_0 := hx485_0
      cases e485
      replace hx485_0 := hbc_ HB hx485_0
      replace hx485_1 := hbc_ HB hx485_1
      replace p485 := eq_true p485
      replace q485 := eq_true q485
      have p486 : 0 ≤ (x5_1 : Int) := od_
      have q486 : x5_1 < (l1.length : Int) := od_
      obtain ⟨ad486, e486, hx486_0, hx486_1⟩ := at_T73 HR1.out x5_1 p486 q486
      have hw486_1 := hx486_1
      have hw486_0 := hx486_0
      cases e486
      replace hx486_0 := hbc_ HB hx486_0
      replace hx486_1 := hbc_ HB hx486_1
      replace p486 := eq_true p486
      replace q486 := eq_true q486
      refine start_ (n := 10) (S := fun w' => w'.cell? (ad485.add ((x5_1).toNat * 2)) = some (.int .i64 ((rd_T73 l0 x5_1).f0)) ∧ w'.cell? ⟨(ad485.add ((x5_1).toNat * 2)).block, (ad485.add ((x5_1).toNat * 2)).off + 1, none⟩ = some (.int .i64 ((rd_T73 l0 x5_1).f1)) ∧ w'.cell? (ad486.add ((x5_1).toNat * 2)) = some (.int .i64 ((rd_T73 l1 x5_1).f0)) ∧ w'.cell? ⟨(ad486.add ((x5_1).toNat * 2)).block, (ad486.add ((x5_1).toNat * 2)).off + 1, none⟩ = some (.int .i64 ((rd_T73 l1 x5_1).f1))) (ds := []) #[false, false, false, false, false, false, false, false, false, false] (by kernel_rfl) rfl rfl ⟨((HB.out.cell (World.block_lt_of_cell? w _ hw485_0)).trans hw485_0), ((HB.out.cell (World.block_lt_of_cell? w _ hw485_1)).trans hw485_1), ((HB.out.cell (World.block_lt_of_cell? w _ hw486_0)).trans hw486_0), ((HB.out.cell (World.block_lt_of_cell? w _ hw486_1)).trans hw486_1)⟩ (fun hHeld => ?_); refine with_tabW laws_eqSpanS.tab6 laws_eqSpanS.bits6 (fun HT_ HW_ => ?_)
      generalize wr.drew = w11 at HB hx485_0 hx485_1 hx486_0 hx486_1 hHeld ⊢
      refine pur_ 0 #[true, false, false, false, false, false, false, false, false, false] (some 17) HT_ ?_
      refine pur_ 1 #[true, true, false, false, false, false, false, false, false, false] (some 18) HT_ ?_
      refine pur_ 2 #[true, true, true, false, false, false, false, false, false, false] (some 19) HT_ ?_
      refine pur_ 4 #[true, true, true, false, true, false, false, false, false, false] (some 21) HT_ ?_
      refine pur_ 5 #[true, true, true, false, true, true, false, false, false, false] (some 22) HT_ ?_
      refine pur_ 6 #[true, true, true, false, true, true, true, false, false, false] (some 23) HT_ ?_
      refine tak_ 3 #[true, true, true, true, true, true, true, false, false, false] (some 20) HT_ HW_ hHeld ?_
      refine tak_ 7 #[true, true, true, true, true, true, true, true, false, false] (some 24) HT_ HW_ hHeld ?_
      refine onc_ 8 #[true, true, true, true, true, true, true, true, true, false] (some 25) HT_ Try.func51 (laws_eqSpan.calls ((rd_T73 l0 x5_1).f0) ((rd_T73 l0 x5_1).f1) ((rd_T73 l1 x5_1).f0) ((rd_T73 l1 x5_1).f1) false _ A7.out) ?_
      rintro e w12 ⟨rfl, hb⟩
      refine sh1_ (below_step (bl_ HB) hb) ?_
      clear HB hb
      intro HB
      refine ⟨_, _, rfl, ⟨((HB.out.cell (World.block_lt_of_cell? w _ hw485_0)).trans hw485_0), ((HB.out.cell (World.block_lt_of_cell? w _ hw485_1)).trans hw485_1), ((HB.out.cell (World.block_lt_of_cell? w _ hw486_0)).trans hw486_0), ((HB.out.cell (World.block_lt_of_cell? w _ hw486_1)).trans hw486_1)⟩, pt_, fun hHeld => ?_⟩
      refine pur_ 9 #[true, true, true, true, true, true, true, true, true, true] (some 26) HT_ ?_
      refine done_ (done_of HT_.out (by kernel_rfl)) ?_
      try go_wp2
      go_ret
      exact ⟨er_, bl_ HB⟩
    ·rw [if_neg c4] at H
     have c4b0 : decide (x5_1 < (l0.length : Int)) = false := decide_eq_false c4
     clear c4
     obtain rfl := Option.some.inj H
     go_wp2
     go_ret
     exact ⟨er_, bl_ HB⟩
 ·rw [if_neg c3] at H
  obtain ⟨c3b0, c3b1⟩ := bn_ c3
  have c3b2 : (l0.length == l1.length) = false := by first | simpa using c3 | (simp at c3 ⊢; omega)
  obtain rfl := Option.some.inj H
  go_enter Try.func13, Try.ntmps13
  go_wp2
  go_ret
  exact ⟨er_, bl_ HB⟩

/-! ### laws_eqSat: function 90 -/
def laws_eqSat.f (a0_0 : Int) (a0_1 : Int) (a0_2 : Int) (a0_3 : Int) (a1_0 : Int) (a1_1 : Int) (a1_2 : Int) (a1_3 : Int) : Option (Bool) := if a0_0 = a1_0 then (if a0_1 = a1_1 then (if a0_2 = a1_2 then (if a0_3 = a1_3 then (some true) else (some false)) else (some false)) else (some false)) else (some false)
set_option maxHeartbeats 8000000 in
set_option maxRecDepth 100000 in
theorem laws_eqSat.calls (a0_0 : Int) (a0_1 : Int) (a0_2 : Int) (a0_3 : Int) (a1_0 : Int) (a1_1 : Int) (a1_2 : Int) (a1_3 : Int) (r : Bool) (w : World) (h : laws_eqSat.f a0_0 a0_1 a0_2 a0_3 a1_0 a1_1 a1_2 a1_3 = some r) (hT_ : r = true := by rfl) :
  Calls Try.prog 90 #[.agg #[.int .i64 a0_0, .int .i64 a0_1, .int .i64 a0_2, .int .i64 a0_3], .agg #[.int .i64 a1_0, .int .i64 a1_1, .int .i64 a1_2, .int .i64 a1_3]] w fun e w' => e = .returned (.bool r) ∧ Below w.heap.size w w' := by
 have hu105 := Try.underlying105
 have HB := Aside0.mk (Below.refl w.heap.size w)
 subst hT_
 have H := h
 clear h
 unfold laws_eqSat.f at H
 by_cases c3 : a0_0 = a1_0
 ·rw [if_pos c3] at H
  obtain ⟨c3b0, c3b1⟩ := bt_ c3
  clear c3
  by_cases c4 : a0_1 = a1_1
  ·rw [if_pos c4] at H
   obtain ⟨c4b0, c4b1⟩ := bt_ c4
   clear c4
   by_cases c5 : a0_2 = a1_2
   ·rw [if_pos c5] at H
    obtain ⟨c5b0, c5b1⟩ := bt_ c5
    clear c5
    by_cases c6 : a0_3 = a1_3
    ·rw [if_pos c6] at H
     obtain ⟨c6b0, c6b1⟩ := bt_ c6
     clear c6
     clear H
     go_enter Try.func90, Try.ntmps90
     go_wp2_with (first | ((with_reducible refine gd_ 2 ?_); refine bx_ 2 105 #[.int .i64 a0_0, .int .i64 a0_1, .int .i64 a0_2, .int .i64 a0_3] ?_; intro gb488 hg w7 hbox hb; refine sh3_ (below_step (bl_ HB) hb) hbox (ge_ hg (bl_ HB)) ?_; clear HB hb hbox hg; intro HB BK488 GE488) | ((with_reducible refine gd_ 3 ?_); refine bx_ 3 105 #[.int .i64 a1_0, .int .i64 a1_1, .int .i64 a1_2, .int .i64 a1_3] ?_; intro gb489 hg w8 hbox hb; refine sh6_ (blk_below (bk_ BK488) hb) (below_step (bl1_ HB GE488) hb) hbox (ge_ hg (bl1_ HB GE488)) (nl_ hg (bk_ BK488)) (ng_ hg (bk_ BK488)) ?_; clear BK488 HB hb hbox hg; intro BK488 HB BK489 GE489 NB488_489 NB489_488; have hnb9 := NB488_489.out; have hnc9 := NB489_488.out; have hcz10 := cf4_ BK488; have hcz11 := cf4_ BK489))
     go_ret
     exact ⟨er_, bl2_ HB GE488 GE489⟩
    ·rw [if_neg c6] at H
     obtain ⟨c6b0, c6b1⟩ := bn_ c6
     exact absurd H (by simp)
   ·rw [if_neg c5] at H
    obtain ⟨c5b0, c5b1⟩ := bn_ c5
    exact absurd H (by simp)
  ·rw [if_neg c4] at H
   obtain ⟨c4b0, c4b1⟩ := bn_ c4
   exact absurd H (by simp)
 ·rw [if_neg c3] at H
  obtain ⟨c3b0, c3b1⟩ := bn_ c3
  exact absurd H (by simp)

/-! ### laws_eqSatS: function 52 -/
def laws_eqSatS.l0 : Nat → List (S105) → List (S105) → Int → Option (Bool)
 | 0, _, _, _ => none
 | k + 1, x0, x1, x5 => if x5 < (x0.length : Int) then (if 0 ≤ x5 then (if x5 < (x1.length : Int) then ((laws_eqSat.f ((rd_T105 x0 x5).f0) ((rd_T105 x0 x5).f1) ((rd_T105 x0 x5).f2) ((rd_T105 x0 x5).f3) ((rd_T105 x1 x5).f0) ((rd_T105 x1 x5).f1) ((rd_T105 x1 x5).f2) ((rd_T105 x1 x5).f3)).bind fun t492 => (if t492 = true then (laws_eqSatS.l0 k x0 x1 (wrap64 (x5 + 1))) else (some false))) else (none)) else (none)) else (some true)
def laws_eqSatS.f (k : Nat) (l0 : List (S105)) (l1 : List (S105)) : Option (Bool) := if (l0.length : Int) = (l1.length : Int) then (laws_eqSatS.l0 k l0 l1 0) else (some false)
theorem laws_eqSatS.mono_l : ∀ k, (∀ y0 y1 y2, LeO (laws_eqSatS.l0 k y0 y1 y2) (laws_eqSatS.l0 (k + 1) y0 y1 y2))
 | 0 => fun _ _ _ r h => by simp [laws_eqSatS.l0] at h
 | k + 1 => by
  have ih0 := laws_eqSatS.mono_l k
  ·intro y0 y1 y2
   unfold laws_eqSatS.l0
   repeat' first | (with_reducible first | exact ih0 _ _ _ | exact LeO.refl _ | exact LeO.none _ | refine LeO.ite ?_ ?_ | refine LeO.bind ?_ (fun _ => ?_)) | exact LeO.none _ | refine LeO.ite ?_ ?_ | refine LeO.bind ?_ (fun _ => ?_)
theorem laws_eqSatS.mono : ∀ a0 a1 k, LeO (laws_eqSatS.f k a0 a1) (laws_eqSatS.f (k + 1) a0 a1) := by
 intro a0 a1 k
 have ih0 := laws_eqSatS.mono_l k
 unfold laws_eqSatS.f
 repeat' first | (with_reducible first | exact ih0 _ _ _ | exact LeO.refl _ | exact LeO.none _ | refine LeO.ite ?_ ?_ | refine LeO.bind ?_ (fun _ => ?_)) | exact LeO.none _ | refine LeO.ite ?_ ?_ | refine LeO.bind ?_ (fun _ => ?_)
def laws_eqSatS.T6 : Bool × List (List Nat × List Nat) := (true, [([], []), ([], []), ([0, 1], [0, 1]), ([2], [2]), ([], []), ([], []), ([4, 5], [4, 5]), ([6], [6]), ([3, 7], [3, 7]), ([8], [8])])
def laws_eqSatS.B6 : List Nat := [0, 0, 3, 7, 0, 0, 48, 112, 255, 511]
theorem laws_eqSatS.tab6 : rtab .any (opsOf Try.f52 6) = laws_eqSatS.T6 := by kernel_rfl
theorem laws_eqSatS.bits6 : waitsOk laws_eqSatS.T6.2 laws_eqSatS.B6 = true := by kernel_rfl
set_option maxHeartbeats 8000000 in
set_option maxRecDepth 100000 in
theorem laws_eqSatS.calls (k : Nat) (A0 : Option Addr) (c0 : Nat) (l0 : List (S105)) (A1 : Option Addr) (c1 : Nat) (l1 : List (S105)) (r : Bool) (w : World) (hr0 : Kd.C k105 w A0 l0.length l0) (hc0 : l0.length ≤ c0) (hr1 : Kd.C k105 w A1 l1.length l1) (hc1 : l1.length ≤ c1) (h : laws_eqSatS.f k l0 l1 = some r) (hT_ : r = true := by rfl) :
  Calls Try.prog 52 #[.slice A0 l0.length c0, .slice A1 l1.length c1] w fun e w' => e = .returned (.bool r) ∧ Below w.heap.size w w' := by
 have hu105 := Try.underlying105
 have HR0 := Aside0.mk hr0
 have HC0 := Aside0.mk hc0
 clear hr0 hc0
 have HR1 := Aside0.mk hr1
 have HC1 := Aside0.mk hc1
 clear hr1 hc1
 have HB := Aside0.mk (Below.refl w.heap.size w)
 subst hT_
 have H := h
 clear h
 unfold laws_eqSatS.f at H
 by_cases c3 : (l0.length : Int) = (l1.length : Int)
 ·rw [if_pos c3] at H
  obtain ⟨c3b0, c3b1⟩ := bt_ c3
  have c3b2 : (l0.length == l1.length) = true := by first | simpa using c3 | (simp at c3 ⊢; omega)
  clear c3
  have H' := Aside0.mk H
  clear H
  go_enter Try.func52, Try.ntmps52
  go_wp2
  go_loopg [5] k (fun kq v5 w' => ∃ (x5_1 : Int), v5 = .int .i64 x5_1 ∧ Aside0 (laws_eqSatS.l0 kq l0 l1 x5_1 = some true) ∧ Aside0 (kq ≤ k) ∧ Aside0 (Below w.heap.size w w'))
  case atStart => exact ⟨(0), (by first | rfl | (simp; done) | (simp [*]; done)), H', ⟨Nat.le_refl _⟩, ⟨bl_ HB⟩⟩
  case round =>
   clear H'
   try clear c1
   try clear p2
   try clear c3
   try clear c3b0
   try clear c3b1
   try clear c3b2
   obtain ⟨x5_1, rfl, HA, HK1, HB⟩ := hrel
   cases gk with
   | zero => exact absurd HA.out (by simp [laws_eqSatS.l0])
   | succ k1 =>
    have H := HA.out
    clear HA
    simp only [laws_eqSatS.l0] at H
    by_cases c4 : x5_1 < (l0.length : Int)
    ·rw [if_pos c4] at H
     have c4b0 := decide_eq_true c4
     clear c4
     replace H := ifn_ H
     obtain ⟨c5, H⟩ := H
     have c5b0 := decide_eq_true c5
     clear c5
     replace H := ifn_ H
     obtain ⟨c6, H⟩ := H
     have c6b0 := decide_eq_true c6
     clear c6
     replace H := bs_ H
     obtain ⟨t492, A7, H⟩ := H
     by_cases c8 : t492 = true
     ·subst c8
      try rw [if_pos rfl] at H
      have H' := Aside0.mk H
      clear H
      try go_wp2
      refine sh1_ (below_drew1 HB.out) ?_
      clear HB
      intro HB
      have p490 : 0 ≤ (x5_1 : Int) := od_
      have q490 : x5_1 < (l0.length : Int) := od_
      obtain ⟨ad490, e490, hx490_0, hx490_1, hx490_2, hx490_3⟩ := at_T105 HR0.out x5_1 p490 q490
      have hw490_3 := hx490_3
      have hw490_2 := hx490_2
      have hw490_1 := hx490_1
      have hw490_0 := hx490_0
      cases e490
      replace hx490_0 := hbc_ HB hx490_0
      replace hx490_1 := hbc_ HB hx490_1
      replace hx490_2 := hbc_ HB hx490_2
      replace hx490_3 := hbc_ HB hx490_3
      replace p490 := eq_true p490
      replace q490 := eq_true q490
      have p491 : 0 ≤ (x5_1 : Int) := od_
      have q491 : x5_1 < (l1.length : Int) := od_
      obtain ⟨ad491, e491, hx491_0, hx491_1, hx491_2, hx491_3⟩ := at_T105 HR1.out x5_1 p491 q491
      have hw491_3 := hx491_3
      have hw491_2 := hx491_2
      have hw491_1 := hx491_1
      have hw491_0 := hx491_0
      cases e491
      replace hx491_0 := hbc_ HB hx491_0
      replace hx491_1 := hbc_ HB hx491_1
      replace hx491_2 := hbc_ HB hx491_2
      replace hx491_3 := hbc_ HB hx491_3
      replace p491 := eq_true p491
      replace q491 := eq_true q491
      refine start_ (n := 10) (S := fun w' => w'.cell? (ad490.add ((x5_1).toNat * 4)) = some (.int .i64 ((rd_T105 l0 x5_1).f0)) ∧ w'.cell? ⟨(ad490.add ((x5_1).toNat * 4)).block, (ad490.add ((x5_1).toNat * 4)).off + 1, none⟩ = some (.int .i64 ((rd_T105 l0 x5_1).f1)) ∧ w'.cell? ⟨(ad490.add ((x5_1).toNat * 4)).block, (ad490.add ((x5_1).toNat * 4)).off + 2, none⟩ = some (.int .i64 ((rd_T105 l0 x5_1).f2)) ∧ w'.cell? ⟨(ad490.add ((x5_1).toNat * 4)).block, (ad490.add ((x5_1).toNat * 4)).off + 3, none⟩ = some (.int .i64 ((rd_T105 l0 x5_1).f3)) ∧ w'.cell? (ad491.add ((x5_1).toNat * 4)) = some (.int .i64 ((rd_T105 l1 x5_1).f0)) ∧ w'.cell? ⟨(ad491.add ((x5_1).toNat * 4)).block, (ad491.add ((x5_1).toNat * 4)).off + 1, none⟩ = some (.int .i64 ((rd_T105 l1 x5_1).f1)) ∧ w'.cell? ⟨(ad491.add ((x5_1).toNat * 4)).block, (ad491.add ((x5_1).toNat * 4)).off + 2, none⟩ = some (.int .i64 ((rd_T105 l1 x5_1).f2)) ∧ w'.cell? ⟨(ad491.add ((x5_1).toNat * 4)).block, (ad491.add ((x5_1).toNat * 4)).off + 3, none⟩ = some (.int .i64 ((rd_T105 l1 x5_1).f3))) (ds := []) #[false, false, false, false, false, false, false, false, false, false] (by kernel_rfl) rfl rfl ⟨((HB.out.cell (World.block_lt_of_cell? w _ hw490_0)).trans hw490_0), ((HB.out.cell (World.block_lt_of_cell? w _ hw490_1)).trans hw490_1), ((HB.out.cell (World.block_lt_of_cell? w _ hw490_2)).trans hw490_2), ((HB.out.cell (World.block_lt_of_cell? w _ hw490_3)).trans hw490_3), ((HB.out.cell (World.block_lt_of_cell? w _ hw491_0)).trans hw491_0), ((HB.out.cell (World.block_lt_of_cell? w _ hw491_1)).trans hw491_1), ((HB.out.cell (World.block_lt_of_cell? w _ hw491_2)).trans hw491_2), ((HB.out.cell (World.block_lt_of_cell? w _ hw491_3)).trans hw491_3)⟩ (fun hHeld => ?_); refine with_tabW laws_eqSatS.tab6 laws_eqSatS.bits6 (fun HT_ HW_ => ?_)
      generalize wr.drew = w9 at HB hx490_0 hx490_1 hx490_2 hx490_3 hx491_0 hx491_1 hx491_2 hx491_3 hHeld ⊢
      refine pur_ 0 #[true, false, false, false, false, false, false, false, false, false] (some 17) HT_ ?_
      refine pur_ 1 #[true, true, false, false, false, false, false, false, false, false] (some 18) HT_ ?_
      refine pur_ 2 #[true, true, true, false, false, false, false, false, false, false] (some 19) HT_ ?_
      refine pur_ 4 #[true, true, true, false, true, false, false, false, false, false] (some 21) HT_ ?_
      refine pur_ 5 #[true, true, true, false, true, true, false, false, false, false] (some 22) HT_ ?_
      refine pur_ 6 #[true, true, true, false, true, true, true, false, false, false] (some 23) HT_ ?_
      refine tak_ 3 #[true, true, true, true, true, true, true, false, false, false] (some 20) HT_ HW_ hHeld ?_
      refine tak_ 7 #[true, true, true, true, true, true, true, true, false, false] (some 24) HT_ HW_ hHeld ?_
      refine onc_ 8 #[true, true, true, true, true, true, true, true, true, false] (some 25) HT_ Try.func90 (laws_eqSat.calls ((rd_T105 l0 x5_1).f0) ((rd_T105 l0 x5_1).f1) ((rd_T105 l0 x5_1).f2) ((rd_T105 l0 x5_1).f3) ((rd_T105 l1 x5_1).f0) ((rd_T105 l1 x5_1).f1) ((rd_T105 l1 x5_1).f2) ((rd_T105 l1 x5_1).f3) true _ A7.out) ?_
      rintro e w10 ⟨rfl, hb⟩
      refine sh1_ (below_step (bl_ HB) hb) ?_
      clear HB hb
      intro HB
      refine ⟨_, _, rfl, ⟨((HB.out.cell (World.block_lt_of_cell? w _ hw490_0)).trans hw490_0), ((HB.out.cell (World.block_lt_of_cell? w _ hw490_1)).trans hw490_1), ((HB.out.cell (World.block_lt_of_cell? w _ hw490_2)).trans hw490_2), ((HB.out.cell (World.block_lt_of_cell? w _ hw490_3)).trans hw490_3), ((HB.out.cell (World.block_lt_of_cell? w _ hw491_0)).trans hw491_0), ((HB.out.cell (World.block_lt_of_cell? w _ hw491_1)).trans hw491_1), ((HB.out.cell (World.block_lt_of_cell? w _ hw491_2)).trans hw491_2), ((HB.out.cell (World.block_lt_of_cell? w _ hw491_3)).trans hw491_3)⟩, pt_, fun hHeld => ?_⟩
      refine pur_ 9 #[true, true, true, true, true, true, true, true, true, true] (some 26) HT_ ?_
      refine done_ (done_of HT_.out (by kernel_rfl)) ?_
      try go_wp2
      go_roundg k1
      case measure => have := HK1.out; omega
      case rel => exact ⟨(wrap64 (x5_1 + 1)), (by first | rfl | (simp; done) | (simp [*]; done)), H', ⟨by have := HK1.out; omega⟩, ⟨bl_ HB⟩⟩
     ·replace c8 := Bool.eq_false_iff.mpr c8
      subst c8
      have H1 : (some false) = some true := by first | (rw [if_neg (show ¬ (false = true) by decide)] at H; exact H) | rfl
      clear H
      have H := H1
      clear H1
      exact absurd H (by simp)
    ·rw [if_neg c4] at H
     have c4b0 : decide (x5_1 < (l0.length : Int)) = false := decide_eq_false c4
     clear c4
     clear H
     go_wp2
     go_ret
     exact ⟨er_, bl_ HB⟩
 ·rw [if_neg c3] at H
  obtain ⟨c3b0, c3b1⟩ := bn_ c3
  have c3b2 : (l0.length == l1.length) = false := by first | simpa using c3 | (simp at c3 ⊢; omega)
  exact absurd H (by simp)

/-! ### laws_eqSite: function 91 -/
def laws_eqSite.f (a0_0 : Int) (a0_1 : Int) (a0_2 : Int) (a1_0 : Int) (a1_1 : Int) (a1_2 : Int) : Option (Bool) := if a0_0 = a1_0 then (if a0_1 = a1_1 then (if a0_2 = a1_2 then (some true) else (some false)) else (some false)) else (some false)
set_option maxHeartbeats 8000000 in
set_option maxRecDepth 100000 in
theorem laws_eqSite.calls (a0_0 : Int) (a0_1 : Int) (a0_2 : Int) (a1_0 : Int) (a1_1 : Int) (a1_2 : Int) (r : Bool) (w : World) (h : laws_eqSite.f a0_0 a0_1 a0_2 a1_0 a1_1 a1_2 = some r) (hT_ : r = true := by rfl) :
  Calls Try.prog 91 #[.agg #[.int .i64 a0_0, .int .i64 a0_1, .int .i64 a0_2], .agg #[.int .i64 a1_0, .int .i64 a1_1, .int .i64 a1_2]] w fun e w' => e = .returned (.bool r) ∧ Below w.heap.size w w' := by
 have hu109 := Try.underlying109
 have HB := Aside0.mk (Below.refl w.heap.size w)
 subst hT_
 have H := h
 clear h
 unfold laws_eqSite.f at H
 by_cases c3 : a0_0 = a1_0
 ·rw [if_pos c3] at H
  obtain ⟨c3b0, c3b1⟩ := bt_ c3
  clear c3
  by_cases c4 : a0_1 = a1_1
  ·rw [if_pos c4] at H
   obtain ⟨c4b0, c4b1⟩ := bt_ c4
   clear c4
   by_cases c5 : a0_2 = a1_2
   ·rw [if_pos c5] at H
    obtain ⟨c5b0, c5b1⟩ := bt_ c5
    clear c5
    clear H
    go_enter Try.func91, Try.ntmps91
    go_wp2_with (first | ((with_reducible refine gd_ 2 ?_); refine bx_ 2 109 #[.int .i64 a0_0, .int .i64 a0_1, .int .i64 a0_2] ?_; intro gb493 hg w6 hbox hb; refine sh3_ (below_step (bl_ HB) hb) hbox (ge_ hg (bl_ HB)) ?_; clear HB hb hbox hg; intro HB BK493 GE493) | ((with_reducible refine gd_ 3 ?_); refine bx_ 3 109 #[.int .i64 a1_0, .int .i64 a1_1, .int .i64 a1_2] ?_; intro gb494 hg w7 hbox hb; refine sh6_ (blk_below (bk_ BK493) hb) (below_step (bl1_ HB GE493) hb) hbox (ge_ hg (bl1_ HB GE493)) (nl_ hg (bk_ BK493)) (ng_ hg (bk_ BK493)) ?_; clear BK493 HB hb hbox hg; intro BK493 HB BK494 GE494 NB493_494 NB494_493; have hnb8 := NB493_494.out; have hnc8 := NB494_493.out; have hcz9 := cf3_ BK493; have hcz10 := cf3_ BK494))
    go_ret
    exact ⟨er_, bl2_ HB GE493 GE494⟩
   ·rw [if_neg c5] at H
    obtain ⟨c5b0, c5b1⟩ := bn_ c5
    exact absurd H (by simp)
  ·rw [if_neg c4] at H
   obtain ⟨c4b0, c4b1⟩ := bn_ c4
   exact absurd H (by simp)
 ·rw [if_neg c3] at H
  obtain ⟨c3b0, c3b1⟩ := bn_ c3
  exact absurd H (by simp)

/-! ### laws_eqSiteS: function 53 -/
def laws_eqSiteS.l0 : Nat → List (S109) → List (S109) → Int → Option (Bool)
 | 0, _, _, _ => none
 | k + 1, x0, x1, x5 => if x5 < (x0.length : Int) then (if 0 ≤ x5 then (if x5 < (x1.length : Int) then ((laws_eqSite.f ((rd_T109 x0 x5).f0) ((rd_T109 x0 x5).f1) ((rd_T109 x0 x5).f2) ((rd_T109 x1 x5).f0) ((rd_T109 x1 x5).f1) ((rd_T109 x1 x5).f2)).bind fun t497 => (if t497 = true then (laws_eqSiteS.l0 k x0 x1 (wrap64 (x5 + 1))) else (some false))) else (none)) else (none)) else (some true)
def laws_eqSiteS.f (k : Nat) (l0 : List (S109)) (l1 : List (S109)) : Option (Bool) := if (l0.length : Int) = (l1.length : Int) then (laws_eqSiteS.l0 k l0 l1 0) else (some false)
theorem laws_eqSiteS.mono_l : ∀ k, (∀ y0 y1 y2, LeO (laws_eqSiteS.l0 k y0 y1 y2) (laws_eqSiteS.l0 (k + 1) y0 y1 y2))
 | 0 => fun _ _ _ r h => by simp [laws_eqSiteS.l0] at h
 | k + 1 => by
  have ih0 := laws_eqSiteS.mono_l k
  ·intro y0 y1 y2
   unfold laws_eqSiteS.l0
   repeat' first | (with_reducible first | exact ih0 _ _ _ | exact LeO.refl _ | exact LeO.none _ | refine LeO.ite ?_ ?_ | refine LeO.bind ?_ (fun _ => ?_)) | exact LeO.none _ | refine LeO.ite ?_ ?_ | refine LeO.bind ?_ (fun _ => ?_)
theorem laws_eqSiteS.mono : ∀ a0 a1 k, LeO (laws_eqSiteS.f k a0 a1) (laws_eqSiteS.f (k + 1) a0 a1) := by
 intro a0 a1 k
 have ih0 := laws_eqSiteS.mono_l k
 unfold laws_eqSiteS.f
 repeat' first | (with_reducible first | exact ih0 _ _ _ | exact LeO.refl _ | exact LeO.none _ | refine LeO.ite ?_ ?_ | refine LeO.bind ?_ (fun _ => ?_)) | exact LeO.none _ | refine LeO.ite ?_ ?_ | refine LeO.bind ?_ (fun _ => ?_)
def laws_eqSiteS.T6 : Bool × List (List Nat × List Nat) := (true, [([], []), ([], []), ([0, 1], [0, 1]), ([2], [2]), ([], []), ([], []), ([4, 5], [4, 5]), ([6], [6]), ([3, 7], [3, 7]), ([8], [8])])
def laws_eqSiteS.B6 : List Nat := [0, 0, 3, 7, 0, 0, 48, 112, 255, 511]
theorem laws_eqSiteS.tab6 : rtab .any (opsOf Try.f53 6) = laws_eqSiteS.T6 := by kernel_rfl
theorem laws_eqSiteS.bits6 : waitsOk laws_eqSiteS.T6.2 laws_eqSiteS.B6 = true := by kernel_rfl
set_option maxHeartbeats 8000000 in
set_option maxRecDepth 100000 in
theorem laws_eqSiteS.calls (k : Nat) (A0 : Option Addr) (c0 : Nat) (l0 : List (S109)) (A1 : Option Addr) (c1 : Nat) (l1 : List (S109)) (r : Bool) (w : World) (hr0 : Kd.C k109 w A0 l0.length l0) (hc0 : l0.length ≤ c0) (hr1 : Kd.C k109 w A1 l1.length l1) (hc1 : l1.length ≤ c1) (h : laws_eqSiteS.f k l0 l1 = some r) (hT_ : r = true := by rfl) :
  Calls Try.prog 53 #[.slice A0 l0.length c0, .slice A1 l1.length c1] w fun e w' => e = .returned (.bool r) ∧ Below w.heap.size w w' := by
 have hu109 := Try.underlying109
 have HR0 := Aside0.mk hr0
 have HC0 := Aside0.mk hc0
 clear hr0 hc0
 have HR1 := Aside0.mk hr1
 have HC1 := Aside0.mk hc1
 clear hr1 hc1
 have HB := Aside0.mk (Below.refl w.heap.size w)
 subst hT_
 have H := h
 clear h
 unfold laws_eqSiteS.f at H
 by_cases c3 : (l0.length : Int) = (l1.length : Int)
 ·rw [if_pos c3] at H
  obtain ⟨c3b0, c3b1⟩ := bt_ c3
  have c3b2 : (l0.length == l1.length) = true := by first | simpa using c3 | (simp at c3 ⊢; omega)
  clear c3
  have H' := Aside0.mk H
  clear H
  go_enter Try.func53, Try.ntmps53
  go_wp2
  go_loopg [5] k (fun kq v5 w' => ∃ (x5_1 : Int), v5 = .int .i64 x5_1 ∧ Aside0 (laws_eqSiteS.l0 kq l0 l1 x5_1 = some true) ∧ Aside0 (kq ≤ k) ∧ Aside0 (Below w.heap.size w w'))
  case atStart => exact ⟨(0), (by first | rfl | (simp; done) | (simp [*]; done)), H', ⟨Nat.le_refl _⟩, ⟨bl_ HB⟩⟩
  case round =>
   clear H'
   try clear c1
   try clear p2
   try clear c3
   try clear c3b0
   try clear c3b1
   try clear c3b2
   obtain ⟨x5_1, rfl, HA, HK1, HB⟩ := hrel
   cases gk with
   | zero => exact absurd HA.out (by simp [laws_eqSiteS.l0])
   | succ k1 =>
    have H := HA.out
    clear HA
    simp only [laws_eqSiteS.l0] at H
    by_cases c4 : x5_1 < (l0.length : Int)
    ·rw [if_pos c4] at H
     have c4b0 := decide_eq_true c4
     clear c4
     replace H := ifn_ H
     obtain ⟨c5, H⟩ := H
     have c5b0 := decide_eq_true c5
     clear c5
     replace H := ifn_ H
     obtain ⟨c6, H⟩ := H
     have c6b0 := decide_eq_true c6
     clear c6
     replace H := bs_ H
     obtain ⟨t497, A7, H⟩ := H
     by_cases c8 : t497 = true
     ·subst c8
      try rw [if_pos rfl] at H
      have H' := Aside0.mk H
      clear H
      try go_wp2
      refine sh1_ (below_drew1 HB.out) ?_
      clear HB
      intro HB
      have p495 : 0 ≤ (x5_1 : Int) := od_
      have q495 : x5_1 < (l0.length : Int) := od_
      obtain ⟨ad495, e495, hx495_0, hx495_1, hx495_2⟩ := at_T109 HR0.out x5_1 p495 q495
      have hw495_2 := hx495_2
      have hw495_1 := hx495_1
      have hw495_0 := hx495_0
      cases e495
      replace hx495_0 := hbc_ HB hx495_0
      replace hx495_1 := hbc_ HB hx495_1
      replace hx495_2 := hbc_ HB hx495_2
      replace p495 := eq_true p495
      replace q495 := eq_true q495
      have p496 : 0 ≤ (x5_1 : Int) := od_
      have q496 : x5_1 < (l1.length : Int) := od_
      obtain ⟨ad496, e496, hx496_0, hx496_1, hx496_2⟩ := at_T109 HR1.out x5_1 p496 q496
      have hw496_2 := hx496_2
      have hw496_1 := hx496_1
      have hw496_0 := hx496_0
      cases e496
      replace hx496_0 := hbc_ HB hx496_0
      replace hx496_1 := hbc_ HB hx496_1
      replace hx496_2 := hbc_ HB hx496_2
      replace p496 := eq_true p496
      replace q496 := eq_true q496
      refine start_ (n := 10) (S := fun w' => w'.cell? (ad495.add ((x5_1).toNat * 3)) = some (.int .i64 ((rd_T109 l0 x5_1).f0)) ∧ w'.cell? ⟨(ad495.add ((x5_1).toNat * 3)).block, (ad495.add ((x5_1).toNat * 3)).off + 1, none⟩ = some (.int .i64 ((rd_T109 l0 x5_1).f1)) ∧ w'.cell? ⟨(ad495.add ((x5_1).toNat * 3)).block, (ad495.add ((x5_1).toNat * 3)).off + 2, none⟩ = some (.int .i64 ((rd_T109 l0 x5_1).f2)) ∧ w'.cell? (ad496.add ((x5_1).toNat * 3)) = some (.int .i64 ((rd_T109 l1 x5_1).f0)) ∧ w'.cell? ⟨(ad496.add ((x5_1).toNat * 3)).block, (ad496.add ((x5_1).toNat * 3)).off + 1, none⟩ = some (.int .i64 ((rd_T109 l1 x5_1).f1)) ∧ w'.cell? ⟨(ad496.add ((x5_1).toNat * 3)).block, (ad496.add ((x5_1).toNat * 3)).off + 2, none⟩ = some (.int .i64 ((rd_T109 l1 x5_1).f2))) (ds := []) #[false, false, false, false, false, false, false, false, false, false] (by kernel_rfl) rfl rfl ⟨((HB.out.cell (World.block_lt_of_cell? w _ hw495_0)).trans hw495_0), ((HB.out.cell (World.block_lt_of_cell? w _ hw495_1)).trans hw495_1), ((HB.out.cell (World.block_lt_of_cell? w _ hw495_2)).trans hw495_2), ((HB.out.cell (World.block_lt_of_cell? w _ hw496_0)).trans hw496_0), ((HB.out.cell (World.block_lt_of_cell? w _ hw496_1)).trans hw496_1), ((HB.out.cell (World.block_lt_of_cell? w _ hw496_2)).trans hw496_2)⟩ (fun hHeld => ?_); refine with_tabW laws_eqSiteS.tab6 laws_eqSiteS.bits6 (fun HT_ HW_ => ?_)
      generalize wr.drew = w9 at HB hx495_0 hx495_1 hx495_2 hx496_0 hx496_1 hx496_2 hHeld ⊢
      refine pur_ 0 #[true, false, false, false, false, false, false, false, false, false] (some 17) HT_ ?_
      refine pur_ 1 #[true, true, false, false, false, false, false, false, false, false] (some 18) HT_ ?_
      refine pur_ 2 #[true, true, true, false, false, false, false, false, false, false] (some 19) HT_ ?_
      refine pur_ 4 #[true, true, true, false, true, false, false, false, false, false] (some 21) HT_ ?_
      refine pur_ 5 #[true, true, true, false, true, true, false, false, false, false] (some 22) HT_ ?_
      refine pur_ 6 #[true, true, true, false, true, true, true, false, false, false] (some 23) HT_ ?_
      refine tak_ 3 #[true, true, true, true, true, true, true, false, false, false] (some 20) HT_ HW_ hHeld ?_
      refine tak_ 7 #[true, true, true, true, true, true, true, true, false, false] (some 24) HT_ HW_ hHeld ?_
      refine onc_ 8 #[true, true, true, true, true, true, true, true, true, false] (some 25) HT_ Try.func91 (laws_eqSite.calls ((rd_T109 l0 x5_1).f0) ((rd_T109 l0 x5_1).f1) ((rd_T109 l0 x5_1).f2) ((rd_T109 l1 x5_1).f0) ((rd_T109 l1 x5_1).f1) ((rd_T109 l1 x5_1).f2) true _ A7.out) ?_
      rintro e w10 ⟨rfl, hb⟩
      refine sh1_ (below_step (bl_ HB) hb) ?_
      clear HB hb
      intro HB
      refine ⟨_, _, rfl, ⟨((HB.out.cell (World.block_lt_of_cell? w _ hw495_0)).trans hw495_0), ((HB.out.cell (World.block_lt_of_cell? w _ hw495_1)).trans hw495_1), ((HB.out.cell (World.block_lt_of_cell? w _ hw495_2)).trans hw495_2), ((HB.out.cell (World.block_lt_of_cell? w _ hw496_0)).trans hw496_0), ((HB.out.cell (World.block_lt_of_cell? w _ hw496_1)).trans hw496_1), ((HB.out.cell (World.block_lt_of_cell? w _ hw496_2)).trans hw496_2)⟩, pt_, fun hHeld => ?_⟩
      refine pur_ 9 #[true, true, true, true, true, true, true, true, true, true] (some 26) HT_ ?_
      refine done_ (done_of HT_.out (by kernel_rfl)) ?_
      try go_wp2
      go_roundg k1
      case measure => have := HK1.out; omega
      case rel => exact ⟨(wrap64 (x5_1 + 1)), (by first | rfl | (simp; done) | (simp [*]; done)), H', ⟨by have := HK1.out; omega⟩, ⟨bl_ HB⟩⟩
     ·replace c8 := Bool.eq_false_iff.mpr c8
      subst c8
      have H1 : (some false) = some true := by first | (rw [if_neg (show ¬ (false = true) by decide)] at H; exact H) | rfl
      clear H
      have H := H1
      clear H1
      exact absurd H (by simp)
    ·rw [if_neg c4] at H
     have c4b0 : decide (x5_1 < (l0.length : Int)) = false := decide_eq_false c4
     clear c4
     clear H
     go_wp2
     go_ret
     exact ⟨er_, bl_ HB⟩
 ·rw [if_neg c3] at H
  obtain ⟨c3b0, c3b1⟩ := bn_ c3
  have c3b2 : (l0.length == l1.length) = false := by first | simpa using c3 | (simp at c3 ⊢; omega)
  exact absurd H (by simp)

/-! ### laws_eqArc: function 108 -/
def laws_eqArc.f (a0_0 : Int) (a0_1 : Int) (a1_0 : Int) (a1_1 : Int) : Option (Bool) := if a0_0 = a1_0 then (if a0_1 = a1_1 then (some true) else (some false)) else (some false)
set_option maxHeartbeats 8000000 in
set_option maxRecDepth 100000 in
theorem laws_eqArc.calls (a0_0 : Int) (a0_1 : Int) (a1_0 : Int) (a1_1 : Int) (r : Bool) (w : World) (h : laws_eqArc.f a0_0 a0_1 a1_0 a1_1 = some r) (hT_ : r = true := by rfl) :
  Calls Try.prog 108 #[.agg #[.int .i64 a0_0, .int .i64 a0_1], .agg #[.int .i64 a1_0, .int .i64 a1_1]] w fun e w' => e = .returned (.bool r) ∧ Below w.heap.size w w' := by
 have hu113 := Try.underlying113
 have HB := Aside0.mk (Below.refl w.heap.size w)
 subst hT_
 have H := h
 clear h
 unfold laws_eqArc.f at H
 by_cases c3 : a0_0 = a1_0
 ·rw [if_pos c3] at H
  obtain ⟨c3b0, c3b1⟩ := bt_ c3
  clear c3
  by_cases c4 : a0_1 = a1_1
  ·rw [if_pos c4] at H
   obtain ⟨c4b0, c4b1⟩ := bt_ c4
   clear c4
   clear H
   go_enter Try.func108, Try.ntmps108
   go_wp2_with (first | ((with_reducible refine gd_ 2 ?_); refine bx_ 2 113 #[.int .i64 a0_0, .int .i64 a0_1] ?_; intro gb498 hg w5 hbox hb; refine sh3_ (below_step (bl_ HB) hb) hbox (ge_ hg (bl_ HB)) ?_; clear HB hb hbox hg; intro HB BK498 GE498) | ((with_reducible refine gd_ 3 ?_); refine bx_ 3 113 #[.int .i64 a1_0, .int .i64 a1_1] ?_; intro gb499 hg w6 hbox hb; refine sh6_ (blk_below (bk_ BK498) hb) (below_step (bl1_ HB GE498) hb) hbox (ge_ hg (bl1_ HB GE498)) (nl_ hg (bk_ BK498)) (ng_ hg (bk_ BK498)) ?_; clear BK498 HB hb hbox hg; intro BK498 HB BK499 GE499 NB498_499 NB499_498; have hnb7 := NB498_499.out; have hnc7 := NB499_498.out; have hcz8 := cf2_ BK498; have hcz9 := cf2_ BK499))
   go_ret
   exact ⟨er_, bl2_ HB GE498 GE499⟩
  ·rw [if_neg c4] at H
   obtain ⟨c4b0, c4b1⟩ := bn_ c4
   exact absurd H (by simp)
 ·rw [if_neg c3] at H
  obtain ⟨c3b0, c3b1⟩ := bn_ c3
  exact absurd H (by simp)

/-! ### laws_eqZone: function 92 -/
def laws_eqZone.f (a0_0 : Int) (a0_1 : Int) (a0_2 : Int) (a1_0 : Int) (a1_1 : Int) (a1_2 : Int) : Option (Bool) := if a0_0 = a1_0 then ((laws_eqArc.f a0_1 a0_2 a1_1 a1_2).bind fun t502 => (if t502 = true then (some true) else (some false))) else (some false)
set_option maxHeartbeats 8000000 in
set_option maxRecDepth 100000 in
theorem laws_eqZone.calls (a0_0 : Int) (a0_1 : Int) (a0_2 : Int) (a1_0 : Int) (a1_1 : Int) (a1_2 : Int) (r : Bool) (w : World) (h : laws_eqZone.f a0_0 a0_1 a0_2 a1_0 a1_1 a1_2 = some r) (hT_ : r = true := by rfl) :
  Calls Try.prog 92 #[.agg #[.int .i64 a0_0, .int .i64 a0_1, .int .i64 a0_2], .agg #[.int .i64 a1_0, .int .i64 a1_1, .int .i64 a1_2]] w fun e w' => e = .returned (.bool r) ∧ Below w.heap.size w w' := by
 have hu115 := Try.underlying115
 have hu113 := Try.underlying113
 have HB := Aside0.mk (Below.refl w.heap.size w)
 subst hT_
 have H := h
 clear h
 unfold laws_eqZone.f at H
 by_cases c3 : a0_0 = a1_0
 ·rw [if_pos c3] at H
  obtain ⟨c3b0, c3b1⟩ := bt_ c3
  clear c3
  replace H := bs_ H
  obtain ⟨t502, A4, H⟩ := H
  by_cases c5 : t502 = true
  ·subst c5
   try rw [if_pos rfl] at H
   clear H
   go_enter Try.func92, Try.ntmps92
   go_wp2_with (first | ((with_reducible refine gd_ 2 ?_); refine bx_ 2 115 #[.int .i64 a0_0, .int .i64 a0_1, .int .i64 a0_2] ?_; intro gb500 hg w6 hbox hb; refine sh3_ (below_step (bl_ HB) hb) hbox (ge_ hg (bl_ HB)) ?_; clear HB hb hbox hg; intro HB BK500 GE500) | ((with_reducible refine gd_ 3 ?_); refine bx_ 3 115 #[.int .i64 a1_0, .int .i64 a1_1, .int .i64 a1_2] ?_; intro gb501 hg w7 hbox hb; refine sh6_ (blk_below (bk_ BK500) hb) (below_step (bl1_ HB GE500) hb) hbox (ge_ hg (bl1_ HB GE500)) (nl_ hg (bk_ BK500)) (ng_ hg (bk_ BK500)) ?_; clear BK500 HB hb hbox hg; intro BK500 HB BK501 GE501 NB500_501 NB501_500; have hnb8 := NB500_501.out; have hnc8 := NB501_500.out; have hcz9 := cf3_ BK500; have hcz10 := cf3_ BK501) | ((with_reducible refine gate_callee (f := 108) rfl ?_); refine gl_ 14 Try.func108 (laws_eqArc.calls a0_1 a0_2 a1_1 a1_2 true _ A4.out) ?_; rintro e w11 ⟨rfl, hb⟩; refine ⟨_, rfl, sh3_ (blk_below (bk_ BK500) hb) (blk_below (bk_ BK501) hb) (below_step (bl2_ HB GE500 GE501) hb) ?_⟩; clear BK500 BK501 HB hb; intro BK500 BK501 HB))
   go_ret
   exact ⟨er_, bl2_ HB GE500 GE501⟩
  ·replace c5 := Bool.eq_false_iff.mpr c5
   subst c5
   have H1 : (some false) = some true := by first | (rw [if_neg (show ¬ (false = true) by decide)] at H; exact H) | rfl
   clear H
   have H := H1
   clear H1
   exact absurd H (by simp)
 ·rw [if_neg c3] at H
  obtain ⟨c3b0, c3b1⟩ := bn_ c3
  exact absurd H (by simp)

/-! ### laws_eqZoneS: function 54 -/
def laws_eqZoneS.l0 : Nat → List (S115) → List (S115) → Int → Option (Bool)
 | 0, _, _, _ => none
 | k + 1, x0, x1, x5 => if x5 < (x0.length : Int) then (if 0 ≤ x5 then (if x5 < (x1.length : Int) then ((laws_eqZone.f ((rd_T115 x0 x5).f0) ((rd_T115 x0 x5).f1.f0) ((rd_T115 x0 x5).f1.f1) ((rd_T115 x1 x5).f0) ((rd_T115 x1 x5).f1.f0) ((rd_T115 x1 x5).f1.f1)).bind fun t505 => (if t505 = true then (laws_eqZoneS.l0 k x0 x1 (wrap64 (x5 + 1))) else (some false))) else (none)) else (none)) else (some true)
def laws_eqZoneS.f (k : Nat) (l0 : List (S115)) (l1 : List (S115)) : Option (Bool) := if (l0.length : Int) = (l1.length : Int) then (laws_eqZoneS.l0 k l0 l1 0) else (some false)
theorem laws_eqZoneS.mono_l : ∀ k, (∀ y0 y1 y2, LeO (laws_eqZoneS.l0 k y0 y1 y2) (laws_eqZoneS.l0 (k + 1) y0 y1 y2))
 | 0 => fun _ _ _ r h => by simp [laws_eqZoneS.l0] at h
 | k + 1 => by
  have ih0 := laws_eqZoneS.mono_l k
  ·intro y0 y1 y2
   unfold laws_eqZoneS.l0
   repeat' first | (with_reducible first | exact ih0 _ _ _ | exact LeO.refl _ | exact LeO.none _ | refine LeO.ite ?_ ?_ | refine LeO.bind ?_ (fun _ => ?_)) | exact LeO.none _ | refine LeO.ite ?_ ?_ | refine LeO.bind ?_ (fun _ => ?_)
theorem laws_eqZoneS.mono : ∀ a0 a1 k, LeO (laws_eqZoneS.f k a0 a1) (laws_eqZoneS.f (k + 1) a0 a1) := by
 intro a0 a1 k
 have ih0 := laws_eqZoneS.mono_l k
 unfold laws_eqZoneS.f
 repeat' first | (with_reducible first | exact ih0 _ _ _ | exact LeO.refl _ | exact LeO.none _ | refine LeO.ite ?_ ?_ | refine LeO.bind ?_ (fun _ => ?_)) | exact LeO.none _ | refine LeO.ite ?_ ?_ | refine LeO.bind ?_ (fun _ => ?_)
def laws_eqZoneS.T6 : Bool × List (List Nat × List Nat) := (true, [([], []), ([], []), ([0, 1], [0, 1]), ([2], [2]), ([], []), ([], []), ([4, 5], [4, 5]), ([6], [6]), ([3, 7], [3, 7]), ([8], [8])])
def laws_eqZoneS.B6 : List Nat := [0, 0, 3, 7, 0, 0, 48, 112, 255, 511]
theorem laws_eqZoneS.tab6 : rtab .any (opsOf Try.f54 6) = laws_eqZoneS.T6 := by kernel_rfl
theorem laws_eqZoneS.bits6 : waitsOk laws_eqZoneS.T6.2 laws_eqZoneS.B6 = true := by kernel_rfl
set_option maxHeartbeats 8000000 in
set_option maxRecDepth 100000 in
theorem laws_eqZoneS.calls (k : Nat) (A0 : Option Addr) (c0 : Nat) (l0 : List (S115)) (A1 : Option Addr) (c1 : Nat) (l1 : List (S115)) (r : Bool) (w : World) (hr0 : Kd.C k115 w A0 l0.length l0) (hc0 : l0.length ≤ c0) (hr1 : Kd.C k115 w A1 l1.length l1) (hc1 : l1.length ≤ c1) (h : laws_eqZoneS.f k l0 l1 = some r) (hT_ : r = true := by rfl) :
  Calls Try.prog 54 #[.slice A0 l0.length c0, .slice A1 l1.length c1] w fun e w' => e = .returned (.bool r) ∧ Below w.heap.size w w' := by
 have hu115 := Try.underlying115
 have HR0 := Aside0.mk hr0
 have HC0 := Aside0.mk hc0
 clear hr0 hc0
 have HR1 := Aside0.mk hr1
 have HC1 := Aside0.mk hc1
 clear hr1 hc1
 have HB := Aside0.mk (Below.refl w.heap.size w)
 subst hT_
 have H := h
 clear h
 unfold laws_eqZoneS.f at H
 by_cases c3 : (l0.length : Int) = (l1.length : Int)
 ·rw [if_pos c3] at H
  obtain ⟨c3b0, c3b1⟩ := bt_ c3
  have c3b2 : (l0.length == l1.length) = true := by first | simpa using c3 | (simp at c3 ⊢; omega)
  clear c3
  have H' := Aside0.mk H
  clear H
  go_enter Try.func54, Try.ntmps54
  go_wp2
  go_loopg [5] k (fun kq v5 w' => ∃ (x5_1 : Int), v5 = .int .i64 x5_1 ∧ Aside0 (laws_eqZoneS.l0 kq l0 l1 x5_1 = some true) ∧ Aside0 (kq ≤ k) ∧ Aside0 (Below w.heap.size w w'))
  case atStart => exact ⟨(0), (by first | rfl | (simp; done) | (simp [*]; done)), H', ⟨Nat.le_refl _⟩, ⟨bl_ HB⟩⟩
  case round =>
   clear H'
   try clear c1
   try clear p2
   try clear c3
   try clear c3b0
   try clear c3b1
   try clear c3b2
   obtain ⟨x5_1, rfl, HA, HK1, HB⟩ := hrel
   cases gk with
   | zero => exact absurd HA.out (by simp [laws_eqZoneS.l0])
   | succ k1 =>
    have H := HA.out
    clear HA
    simp only [laws_eqZoneS.l0] at H
    by_cases c4 : x5_1 < (l0.length : Int)
    ·rw [if_pos c4] at H
     have c4b0 := decide_eq_true c4
     clear c4
     replace H := ifn_ H
     obtain ⟨c5, H⟩ := H
     have c5b0 := decide_eq_true c5
     clear c5
     replace H := ifn_ H
     obtain ⟨c6, H⟩ := H
     have c6b0 := decide_eq_true c6
     clear c6
     replace H := bs_ H
     obtain ⟨t505, A7, H⟩ := H
     by_cases c8 : t505 = true
     ·subst c8
      try rw [if_pos rfl] at H
      have H' := Aside0.mk H
      clear H
      try go_wp2
      refine sh1_ (below_drew1 HB.out) ?_
      clear HB
      intro HB
      have p503 : 0 ≤ (x5_1 : Int) := od_
      have q503 : x5_1 < (l0.length : Int) := od_
      obtain ⟨ad503, e503, hx503_0, hx503_1, hx503_2⟩ := at_T115 HR0.out x5_1 p503 q503
      have hw503_2 := hx503_2
      have hw503_1 := hx503_1
      have hw503_0 := hx503_0
      cases e503
      replace hx503_0 := hbc_ HB hx503_0
      replace hx503_1 := hbc_ HB hx503_1
      replace hx503_2 := hbc_ HB hx503_2
      replace p503 := eq_true p503
      replace q503 := eq_true q503
      have p504 : 0 ≤ (x5_1 : Int) := od_
      have q504 : x5_1 < (l1.length : Int) := od_
      obtain ⟨ad504, e504, hx504_0, hx504_1, hx504_2⟩ := at_T115 HR1.out x5_1 p504 q504
      have hw504_2 := hx504_2
      have hw504_1 := hx504_1
      have hw504_0 := hx504_0
      cases e504
      replace hx504_0 := hbc_ HB hx504_0
      replace hx504_1 := hbc_ HB hx504_1
      replace hx504_2 := hbc_ HB hx504_2
      replace p504 := eq_true p504
      replace q504 := eq_true q504
      refine start_ (n := 10) (S := fun w' => w'.cell? (ad503.add ((x5_1).toNat * 3)) = some (.int .i64 ((rd_T115 l0 x5_1).f0)) ∧ w'.cell? ⟨(ad503.add ((x5_1).toNat * 3)).block, (ad503.add ((x5_1).toNat * 3)).off + 1, none⟩ = some (.int .i64 ((rd_T115 l0 x5_1).f1.f0)) ∧ w'.cell? ⟨(ad503.add ((x5_1).toNat * 3)).block, (ad503.add ((x5_1).toNat * 3)).off + 2, none⟩ = some (.int .i64 ((rd_T115 l0 x5_1).f1.f1)) ∧ w'.cell? (ad504.add ((x5_1).toNat * 3)) = some (.int .i64 ((rd_T115 l1 x5_1).f0)) ∧ w'.cell? ⟨(ad504.add ((x5_1).toNat * 3)).block, (ad504.add ((x5_1).toNat * 3)).off + 1, none⟩ = some (.int .i64 ((rd_T115 l1 x5_1).f1.f0)) ∧ w'.cell? ⟨(ad504.add ((x5_1).toNat * 3)).block, (ad504.add ((x5_1).toNat * 3)).off + 2, none⟩ = some (.int .i64 ((rd_T115 l1 x5_1).f1.f1))) (ds := []) #[false, false, false, false, false, false, false, false, false, false] (by kernel_rfl) rfl rfl ⟨((HB.out.cell (World.block_lt_of_cell? w _ hw503_0)).trans hw503_0), ((HB.out.cell (World.block_lt_of_cell? w _ hw503_1)).trans hw503_1), ((HB.out.cell (World.block_lt_of_cell? w _ hw503_2)).trans hw503_2), ((HB.out.cell (World.block_lt_of_cell? w _ hw504_0)).trans hw504_0), ((HB.out.cell (World.block_lt_of_cell? w _ hw504_1)).trans hw504_1), ((HB.out.cell (World.block_lt_of_cell? w _ hw504_2)).trans hw504_2)⟩ (fun hHeld => ?_); refine with_tabW laws_eqZoneS.tab6 laws_eqZoneS.bits6 (fun HT_ HW_ => ?_)
      generalize wr.drew = w9 at HB hx503_0 hx503_1 hx503_2 hx504_0 hx504_1 hx504_2 hHeld ⊢
      refine pur_ 0 #[true, false, false, false, false, false, false, false, false, false] (some 17) HT_ ?_
      refine pur_ 1 #[true, true, false, false, false, false, false, false, false, false] (some 18) HT_ ?_
      refine pur_ 2 #[true, true, true, false, false, false, false, false, false, false] (some 19) HT_ ?_
      refine pur_ 4 #[true, true, true, false, true, false, false, false, false, false] (some 21) HT_ ?_
      refine pur_ 5 #[true, true, true, false, true, true, false, false, false, false] (some 22) HT_ ?_
      refine pur_ 6 #[true, true, true, false, true, true, true, false, false, false] (some 23) HT_ ?_
      refine tak_ 3 #[true, true, true, true, true, true, true, false, false, false] (some 20) HT_ HW_ hHeld ?_
      refine tak_ 7 #[true, true, true, true, true, true, true, true, false, false] (some 24) HT_ HW_ hHeld ?_
      refine onc_ 8 #[true, true, true, true, true, true, true, true, true, false] (some 25) HT_ Try.func92 (laws_eqZone.calls ((rd_T115 l0 x5_1).f0) ((rd_T115 l0 x5_1).f1.f0) ((rd_T115 l0 x5_1).f1.f1) ((rd_T115 l1 x5_1).f0) ((rd_T115 l1 x5_1).f1.f0) ((rd_T115 l1 x5_1).f1.f1) true _ A7.out) ?_
      rintro e w10 ⟨rfl, hb⟩
      refine sh1_ (below_step (bl_ HB) hb) ?_
      clear HB hb
      intro HB
      refine ⟨_, _, rfl, ⟨((HB.out.cell (World.block_lt_of_cell? w _ hw503_0)).trans hw503_0), ((HB.out.cell (World.block_lt_of_cell? w _ hw503_1)).trans hw503_1), ((HB.out.cell (World.block_lt_of_cell? w _ hw503_2)).trans hw503_2), ((HB.out.cell (World.block_lt_of_cell? w _ hw504_0)).trans hw504_0), ((HB.out.cell (World.block_lt_of_cell? w _ hw504_1)).trans hw504_1), ((HB.out.cell (World.block_lt_of_cell? w _ hw504_2)).trans hw504_2)⟩, pt_, fun hHeld => ?_⟩
      refine pur_ 9 #[true, true, true, true, true, true, true, true, true, true] (some 26) HT_ ?_
      refine done_ (done_of HT_.out (by kernel_rfl)) ?_
      try go_wp2
      go_roundg k1
      case measure => have := HK1.out; omega
      case rel => exact ⟨(wrap64 (x5_1 + 1)), (by first | rfl | (simp; done) | (simp [*]; done)), H', ⟨by have := HK1.out; omega⟩, ⟨bl_ HB⟩⟩
     ·replace c8 := Bool.eq_false_iff.mpr c8
      subst c8
      have H1 : (some false) = some true := by first | (rw [if_neg (show ¬ (false = true) by decide)] at H; exact H) | rfl
      clear H
      have H := H1
      clear H1
      exact absurd H (by simp)
    ·rw [if_neg c4] at H
     have c4b0 : decide (x5_1 < (l0.length : Int)) = false := decide_eq_false c4
     clear c4
     clear H
     go_wp2
     go_ret
     exact ⟨er_, bl_ HB⟩
 ·rw [if_neg c3] at H
  obtain ⟨c3b0, c3b1⟩ := bn_ c3
  have c3b2 : (l0.length == l1.length) = false := by first | simpa using c3 | (simp at c3 ⊢; omega)
  exact absurd H (by simp)

end Go.Proofs.Ytcjfalmhohcifaa.PFnExactSpeakingSpans
