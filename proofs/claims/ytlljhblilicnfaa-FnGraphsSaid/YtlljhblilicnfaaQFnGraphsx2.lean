-- Written by a program of this session for this claim (the kit's printer with changes).
import Derived.Shelf.SortM.Plain
import Derived.Shelf.SortM.SortNone
import Derived.Ground.SlgmProg
import Derived.Shelf.SlicesG.CompactI
import Derived.Ground.SlgnProg
import Derived.Test.YtlljhblilicnfaaQFnGraphsx0
import Derived.Test.YtlljhblilicnfaaQFnGraphsx1
namespace Go.Proofs.Ytlljhblilicnfaa.PFnGraphs
open Go.RowKit Go.Proofs.YtlljhblilicnfaaW.PrintWords Go.Proofs.YtlljhblilicnfaaW.PrintLast Go.Proofs.YtlljhblilicnfaaW.PrintMore
attribute [local go_sem] max2_int min2_int max_two min_two max_three min_three max_four min_four   -- for this text's walks alone
set_option linter.unusedVariables false
set_option linter.unusedSimpArgs false

attribute [local go_sem high] eqA103
/-! ### laws_big: function 15 -/
def laws_big.f (l0 : List Int) : Option (Bool) := some (decide ((l0.length : Int) > 1048576))
set_option maxHeartbeats 8000000 in
set_option maxRecDepth 100000 in
theorem laws_big.calls (A0 : Option Addr) (c0 : Nat) (l0 : List Int) (r : Bool) (w : World) (hr0 : Kd.C (Kd.int .u8) w A0 l0.length l0) (hc0 : l0.length ≤ c0) (h : laws_big.f l0 = some r) :
  Calls Try.prog 15 #[.slice A0 l0.length c0] w fun e w' => e = .returned (.bool r) ∧ Drawn0 w w' := by
 have HR0 := Aside0.mk hr0
 have HC0 := Aside0.mk hc0
 clear hr0 hc0
 have H := h
 clear h
 unfold laws_big.f at H
 obtain rfl := Option.some.inj H
 go_enter Try.func15, Try.ntmps15
 go_wp2
 go_ret
 exact ⟨by first | rfl | (simp; done) | (simp [*]; done), by repeat (first | exact Drawn0.refl _ | apply Drawn0.step)⟩

/-! ### impl_IsSpan: function 62 -/
def impl_IsSpan.f (a0_0 : Int) (a0_1 : Int) : Option (Bool) := if a0_0 ≥ 0 then (if a0_1 ≤ 1000 then (some (decide (a0_0 < a0_1))) else (some false)) else (some false)
set_option maxHeartbeats 8000000 in
set_option maxRecDepth 100000 in
theorem impl_IsSpan.calls (a0_0 : Int) (a0_1 : Int) (r : Bool) (w : World) (h : impl_IsSpan.f a0_0 a0_1 = some r) :
  Calls Try.prog 62 #[.agg #[.int .i64 a0_0, .int .i64 a0_1]] w fun e w' => e = .returned (.bool r) ∧ Below w.heap.size w w' := by
 have hu78 := Try.underlying78
 have HB := Aside0.mk (Below.refl w.heap.size w)
 have H := h
 clear h
 unfold impl_IsSpan.f at H
 by_cases c2 : a0_0 ≥ 0
 ·rw [if_pos c2] at H
  have c2b0 : decide (0 ≤ a0_0) = true := decide_eq_true c2
  clear c2
  by_cases c3 : a0_1 ≤ 1000
  ·rw [if_pos c3] at H
   have c3b0 := decide_eq_true c3
   clear c3
   obtain rfl := Option.some.inj H
   go_enter Try.func62, Try.ntmps62
   go_wp2_with (first | ((with_reducible refine gd_ 1 ?_); refine bx_ 1 78 #[.int .i64 a0_0, .int .i64 a0_1] ?_; intro gb101 hg w4 hbox hb; refine sh4_ (below_step (bl_ HB) hb) hbox (ge_ hg (bl_ HB)) (ge_ hg (bl_ HB)) ?_; clear HB hb hbox hg; intro HB BK101 GW101 GE101; have hcz5 := cf2_ BK101))
   go_ret
   exact ⟨by first | (rw [hRT_.out]; rfl) | exact er_, bl1_ HB GE101⟩
  ·rw [if_neg c3] at H
   have c3b0 := decide_eq_false c3
   clear c3
   obtain rfl := Option.some.inj H
   go_enter Try.func62, Try.ntmps62
   go_wp2_with (first | ((with_reducible refine gd_ 1 ?_); refine bx_ 1 78 #[.int .i64 a0_0, .int .i64 a0_1] ?_; intro gb101 hg w6 hbox hb; refine sh4_ (below_step (bl_ HB) hb) hbox (ge_ hg (bl_ HB)) (ge_ hg (bl_ HB)) ?_; clear HB hb hbox hg; intro HB BK101 GW101 GE101; have hcz7 := cf2_ BK101))
   go_ret
   exact ⟨by first | (rw [hRT_.out]; rfl) | exact er_, bl1_ HB GE101⟩
 ·rw [if_neg c2] at H
  have c2b0 : decide (0 ≤ a0_0) = false := decide_eq_false c2
  clear c2
  obtain rfl := Option.some.inj H
  go_enter Try.func62, Try.ntmps62
  go_wp2_with (first | ((with_reducible refine gd_ 1 ?_); refine bx_ 1 78 #[.int .i64 a0_0, .int .i64 a0_1] ?_; intro gb101 hg w8 hbox hb; refine sh4_ (below_step (bl_ HB) hb) hbox (ge_ hg (bl_ HB)) (ge_ hg (bl_ HB)) ?_; clear HB hb hbox hg; intro HB BK101 GW101 GE101; have hcz9 := cf2_ BK101))
  go_ret
  exact ⟨by first | (rw [hRT_.out]; rfl) | exact er_, bl1_ HB GE101⟩

/-! ### impl_InSpan: function 91 -/
def impl_InSpan.f (a0_0 : Int) (a0_1 : Int) (a1 : Int) : Option (Bool) := (impl_IsSpan.f a0_0 a0_1).bind fun t103 => (if t103 = true then (if a0_0 ≤ a1 then (some (decide (a1 < a0_1))) else (some false)) else (some false))
set_option maxHeartbeats 8000000 in
set_option maxRecDepth 100000 in
theorem impl_InSpan.calls (a0_0 : Int) (a0_1 : Int) (a1 : Int) (r : Bool) (w : World) (h : impl_InSpan.f a0_0 a0_1 a1 = some r) :
  Calls Try.prog 91 #[.agg #[.int .i64 a0_0, .int .i64 a0_1], .int .i64 a1] w fun e w' => e = .returned (.bool r) ∧ Below w.heap.size w w' := by
 have hu78 := Try.underlying78
 have HB := Aside0.mk (Below.refl w.heap.size w)
 have H := h
 clear h
 unfold impl_InSpan.f at H
 replace H := bs_ H
 obtain ⟨t103, A3, H⟩ := H
 by_cases c4 : t103 = true
 ·subst c4
  rw [if_pos rfl] at H
  by_cases c5 : a0_0 ≤ a1
  ·rw [if_pos c5] at H
   have c5b0 := decide_eq_true c5
   clear c5
   obtain rfl := Option.some.inj H
   go_enter Try.func91, Try.ntmps91
   go_wp2_with (first | ((with_reducible refine gd_ 2 ?_); refine bx_ 2 78 #[.int .i64 a0_0, .int .i64 a0_1] ?_; intro gb102 hg w6 hbox hb; refine sh4_ (below_step (bl_ HB) hb) hbox (ge_ hg (bl_ HB)) (ge_ hg (bl_ HB)) ?_; clear HB hb hbox hg; intro HB BK102 GW102 GE102; have hcz7 := cf2_ BK102) | ((with_reducible refine gate_callee (f := 62) rfl ?_); refine gl_ 6 Try.func62 (impl_IsSpan.calls a0_0 a0_1 true _ A3.out) ?_; rintro e w8 ⟨rfl, hb⟩; refine ⟨_, rfl, sh2_ (blk_below (bk_ BK102) hb) (below_step (bl1_ HB GE102) hb) ?_⟩; clear BK102 HB hb; intro BK102 HB; have hcz9 := cf2_ BK102))
   go_ret
   exact ⟨by first | (rw [hRT_.out]; rfl) | exact er_, bl1_ HB GE102⟩
  ·rw [if_neg c5] at H
   have c5b0 := decide_eq_false c5
   clear c5
   obtain rfl := Option.some.inj H
   go_enter Try.func91, Try.ntmps91
   go_wp2_with (first | ((with_reducible refine gd_ 2 ?_); refine bx_ 2 78 #[.int .i64 a0_0, .int .i64 a0_1] ?_; intro gb102 hg w10 hbox hb; refine sh4_ (below_step (bl_ HB) hb) hbox (ge_ hg (bl_ HB)) (ge_ hg (bl_ HB)) ?_; clear HB hb hbox hg; intro HB BK102 GW102 GE102; have hcz11 := cf2_ BK102) | ((with_reducible refine gate_callee (f := 62) rfl ?_); refine gl_ 6 Try.func62 (impl_IsSpan.calls a0_0 a0_1 true _ A3.out) ?_; rintro e w12 ⟨rfl, hb⟩; refine ⟨_, rfl, sh2_ (blk_below (bk_ BK102) hb) (below_step (bl1_ HB GE102) hb) ?_⟩; clear BK102 HB hb; intro BK102 HB; have hcz13 := cf2_ BK102))
   go_ret
   exact ⟨by first | (rw [hRT_.out]; rfl) | exact er_, bl1_ HB GE102⟩
 ·replace c4 := Bool.eq_false_iff.mpr c4
  subst c4
  have H1 : (some false) = some r := by rw [if_neg (show ¬ (false = true) by decide)] at H; exact H
  clear H
  have H := H1
  clear H1
  obtain rfl := Option.some.inj H
  go_enter Try.func91, Try.ntmps91
  go_wp2_with (first | ((with_reducible refine gd_ 2 ?_); refine bx_ 2 78 #[.int .i64 a0_0, .int .i64 a0_1] ?_; intro gb102 hg w14 hbox hb; refine sh4_ (below_step (bl_ HB) hb) hbox (ge_ hg (bl_ HB)) (ge_ hg (bl_ HB)) ?_; clear HB hb hbox hg; intro HB BK102 GW102 GE102; have hcz15 := cf2_ BK102) | ((with_reducible refine gate_callee (f := 62) rfl ?_); refine gl_ 6 Try.func62 (impl_IsSpan.calls a0_0 a0_1 false _ A3.out) ?_; rintro e w16 ⟨rfl, hb⟩; refine ⟨_, rfl, sh2_ (blk_below (bk_ BK102) hb) (below_step (bl1_ HB GE102) hb) ?_⟩; clear BK102 HB hb; intro BK102 HB))
  go_ret
  exact ⟨by first | (rw [hRT_.out]; rfl) | exact er_, bl1_ HB GE102⟩

/-! ### impl_spanOf: function 92 -/
def impl_spanOf.f (a0_0 : Int) (a0_1 : Int) (a0_2 : Int) (a0_3 : Int) : Option (Int × Int) := some (a0_2, a0_3)
set_option maxHeartbeats 8000000 in
set_option maxRecDepth 100000 in
theorem impl_spanOf.calls (a0_0 : Int) (a0_1 : Int) (a0_2 : Int) (a0_3 : Int) (r1 : Int) (r2 : Int) (w : World) (h : impl_spanOf.f a0_0 a0_1 a0_2 a0_3 = some (r1, r2)) :
  Calls Try.prog 92 #[.agg #[.int .i64 a0_0, .int .i64 a0_1, .int .i64 a0_2, .int .i64 a0_3]] w fun e w' => e = .returned (.agg #[.int .i64 r1, .int .i64 r2]) ∧ Below w.heap.size w w' := by
 have hu96 := Try.underlying96
 have hu78 := Try.underlying78
 have HB := Aside0.mk (Below.refl w.heap.size w)
 have H := h
 clear h
 unfold impl_spanOf.f at H
 simp only [Option.some.injEq, Prod.mk.injEq] at H
 obtain ⟨rfl, rfl⟩ := H
 go_enter Try.func92, Try.ntmps92
 go_wp2_with (first | ((with_reducible refine gd_ 1 ?_); refine bx_ 1 96 #[.int .i64 a0_0, .int .i64 a0_1, .int .i64 a0_2, .int .i64 a0_3] ?_; intro gb104 hg w2 hbox hb; refine sh4_ (below_step (bl_ HB) hb) hbox (ge_ hg (bl_ HB)) (ge_ hg (bl_ HB)) ?_; clear HB hb hbox hg; intro HB BK104 GW104 GE104) | ((with_reducible refine gd_ 2 ?_); refine bx_ 2 78 #[.int .i64 0, .int .i64 0] ?_; intro gb105 hg w3 hbox hb; refine sh7_ (blk_below (bk_ BK104) hb) (below_step (bl1_ HB GE104) hb) hbox (ge_ hg (bl1_ HB GE104)) (ge_ hg (bl1_ HB GE104)) (nl_ hg (bk_ BK104)) (ng_ hg (bk_ BK104)) ?_; clear BK104 HB hb hbox hg; intro BK104 HB BK105 GW105 GE105 NB104_105 NB105_104; have hnb4 := NB104_105.out; have hnc4 := NB105_104.out; have hcz5 := cf4_ BK104; have hcz6 := cf2_ BK105))
 refine bodyPost_ret (results_cell_row rfl _ _ gb105 78 #[.int .i64 a0_2, .int .i64 a0_3] (0, 0) _ rfl (by (with_reducible repeat (first | refine blk_drewN ?_ _ | refine blk_drew ?_ | refine blk_alloc ?_ _)); refine blk_put (cs := #[.int .i64 a0_2, .int .i64 0]) ?_ 1 _ rfl; (with_reducible repeat (first | refine blk_drewN ?_ _ | refine blk_drew ?_ | refine blk_alloc ?_ _)); refine blk_put (cs := #[.int .i64 0, .int .i64 0]) ?_ 0 _ rfl; (with_reducible repeat (first | refine blk_drewN ?_ _ | refine blk_drew ?_ | refine blk_alloc ?_ _)); exact BK105.out) Try.underlying78 rfl (by kernel_rfl)) rfl ?_
 exact ⟨by first | (rw [hRT_.out]; rfl) | exact er_, bl2_ HB GE104 GE105⟩

/-! ### impl_Link_122: function 122 -/
def impl_Link_122.l0 : Nat → List (S103) → Int → Int → Int → Int → Option (Int)
 | 0, _, _, _, _, _ => none
 | k + 1, x0, x7, x8, x107000, x107001 => if x8 < x7 then (if 0 ≤ x8 then (if x8 < (x0.length : Int) then (if (x107000 == ((rd_T103 x0 x8).f0) && (x107001 == ((rd_T103 x0 x8).f1))) = true then (some x8) else (impl_Link_122.l0 k x0 x7 (wrap64 (x8 + 1)) x107000 x107001)) else (none)) else (none)) else (some (-1))
def impl_Link_122.f (k : Nat) (l0 : List (S103)) (a1_0 : Int) (a1_1 : Int) : Option (Int) := impl_Link_122.l0 k l0 (l0.length : Int) 0 a1_0 a1_1
theorem impl_Link_122.mono_l : ∀ k, (∀ y0 y1 y2 y3 y4, LeO (impl_Link_122.l0 k y0 y1 y2 y3 y4) (impl_Link_122.l0 (k + 1) y0 y1 y2 y3 y4))
 | 0 => fun _ _ _ _ _ r h => by simp [impl_Link_122.l0] at h
 | k + 1 => by
  have ih0 := impl_Link_122.mono_l k
  ·intro y0 y1 y2 y3 y4
   unfold impl_Link_122.l0
   repeat' first | (with_reducible first | exact ih0 _ _ _ _ _ | exact LeO.refl _ | exact LeO.none _ | refine LeO.ite ?_ ?_ | refine LeO.bind ?_ (fun _ => ?_)) | exact LeO.none _ | refine LeO.ite ?_ ?_ | refine LeO.bind ?_ (fun _ => ?_)
theorem impl_Link_122.mono : ∀ a0 a1 a2 k, LeO (impl_Link_122.f k a0 a1 a2) (impl_Link_122.f (k + 1) a0 a1 a2) := by
 intro a0 a1 a2 k
 have ih0 := impl_Link_122.mono_l k
 unfold impl_Link_122.f
 repeat' first | (with_reducible first | exact ih0 _ _ _ _ _ | exact LeO.refl _ | exact LeO.none _ | refine LeO.ite ?_ ?_ | refine LeO.bind ?_ (fun _ => ?_)) | exact LeO.none _ | refine LeO.ite ?_ ?_ | refine LeO.bind ?_ (fun _ => ?_)
set_option maxHeartbeats 8000000 in
set_option maxRecDepth 100000 in
theorem impl_Link_122.calls (k : Nat) (A0 : Option Addr) (c0 : Nat) (l0 : List (S103)) (a1_0 : Int) (a1_1 : Int) (r : Int) (w : World) (hr0 : Kd.C k103 w A0 l0.length l0) (hc0 : l0.length ≤ c0) (h : impl_Link_122.f k l0 a1_0 a1_1 = some r) :
  Calls Try.prog 122 #[.slice A0 l0.length c0, .agg #[.int .i64 a1_0, .int .i64 a1_1]] w fun e w' => e = .returned (.int .i64 r) ∧ Below w.heap.size w w' := by
 have hu103 := Try.underlying103
 have HR0 := Aside0.mk hr0
 have HC0 := Aside0.mk hc0
 clear hr0 hc0
 have HB := Aside0.mk (Below.refl w.heap.size w)
 have H := h
 clear h
 unfold impl_Link_122.f at H
 have H' := Aside0.mk H
 clear H
 go_enter Try.func122, Try.ntmps122
 go_wp2_with (first | ((with_reducible refine gd_ 3 ?_); refine bx_ 3 103 #[.int .i64 a1_0, .int .i64 a1_1] ?_; intro gb106 hg w3 hbox hb; refine sh4_ (below_step (bl_ HB) hb) hbox (ge_ hg (bl_ HB)) (ge_ hg (bl_ HB)) ?_; clear HB hb hbox hg; intro HB BK106 GW106 GE106))
 repeat (go_quiet (first | ((with_reducible refine gd_ 3 ?_); refine bx_ 3 103 #[.int .i64 a1_0, .int .i64 a1_1] ?_; intro gb106 hg w3 hbox hb; refine sh4_ (below_step (bl_ HB) hb) hbox (ge_ hg (bl_ HB)) (ge_ hg (bl_ HB)) ?_; clear HB hb hbox hg; intro HB BK106 GW106 GE106)); try go_wp2_with (first | ((with_reducible refine gd_ 3 ?_); refine bx_ 3 103 #[.int .i64 a1_0, .int .i64 a1_1] ?_; intro gb106 hg w3 hbox hb; refine sh4_ (below_step (bl_ HB) hb) hbox (ge_ hg (bl_ HB)) (ge_ hg (bl_ HB)) ?_; clear HB hb hbox hg; intro HB BK106 GW106 GE106)))
 go_loopg [8] k (fun kq v8 w' => ∃ (x8_1 : Int), v8 = .int .i64 x8_1 ∧ Aside0 (impl_Link_122.l0 kq l0 (l0.length : Int) x8_1 a1_0 a1_1 = some r) ∧ Aside0 (kq ≤ k) ∧ Aside0 (w'.heap[gb106]? = some (.cells #[.int .i64 a1_0, .int .i64 a1_1] 103 (0, 0))) ∧ Aside0 (Below w.heap.size w w'))
 case atStart => exact ⟨(0), (by first | rfl | (simp; done) | (simp [*]; done)), H', ⟨Nat.le_refl _⟩, ⟨by (with_reducible repeat (first | refine blk_drewN ?_ _ | refine blk_drew ?_ | refine blk_alloc ?_ _)); exact BK106.out⟩, ⟨bl1_ HB GE106⟩⟩
 case round =>
  clear H'
  try clear c1
  try clear p2
  obtain ⟨x8_1, rfl, HA, HK1, BK106, HB⟩ := hrel
  cases gk with
  | zero => exact absurd HA.out (by simp [impl_Link_122.l0])
  | succ k1 =>
   have H := HA.out
   clear HA
   simp only [impl_Link_122.l0] at H
   by_cases c4 : x8_1 < (l0.length : Int)
   ·rw [if_pos c4] at H
    have c4b0 := decide_eq_true c4
    clear c4
    replace H := ifn_ H
    obtain ⟨c5, H⟩ := H
    have c5b0 := decide_eq_true c5
    clear c5
    replace H := ifn_ H
    obtain ⟨c6, H⟩ := H
    have c6b0 := decide_eq_true c6
    clear c6
    by_cases c7 : (a1_0 == ((rd_T103 l0 x8_1).f0) && (a1_1 == ((rd_T103 l0 x8_1).f1))) = true
    ·rw [if_pos c7] at H
     have c7b0 : (a1_0 == ((rd_T103 l0 x8_1).f0) && (a1_1 == ((rd_T103 l0 x8_1).f1))) = true := c7
     (try (have c7b1 : decide (a1_0 = ((rd_T103 l0 x8_1).f0) && (a1_1 == ((rd_T103 l0 x8_1).f1))) = true := by simpa using c7))
     (try (have c7b2 : (a1_0 == ((rd_T103 l0 x8_1).f0) && (a1_1 == ((rd_T103 l0 x8_1).f1))) = true := by simpa using c7))
     clear c7
     obtain rfl := Option.some.inj H
     have hcz8 := cf2_ BK106
     have p107 : 0 ≤ (x8_1 : Int) := od_
     have q107 : x8_1 < (l0.length : Int) := od_
     obtain ⟨ad107, e107, hx107_0, hx107_1⟩ := at_T103 HR0.out x8_1 p107 q107
     cases e107
     replace hx107_0 := hbc_ HB hx107_0
     replace hx107_1 := hbc_ HB hx107_1
     replace p107 := eq_true p107
     replace q107 := eq_true q107
     go_wp2
     repeat (go_quiet (fail); try go_wp2)
     go_ret
     exact ⟨by first | (rw [hRT_.out]; rfl) | exact er_, bl1_ HB GE106⟩
    ·rw [if_neg c7] at H
     have c7b0 : (a1_0 == ((rd_T103 l0 x8_1).f0) && (a1_1 == ((rd_T103 l0 x8_1).f1))) = false := by simpa using c7
     (try (have c7b1 : decide (a1_0 = ((rd_T103 l0 x8_1).f0) && (a1_1 == ((rd_T103 l0 x8_1).f1))) = false := by simpa using c7))
     (try (have c7b2 : (a1_0 == ((rd_T103 l0 x8_1).f0) && (a1_1 == ((rd_T103 l0 x8_1).f1))) = false := by simpa using c7))
     (try (have c7b3 : ¬ (a1_0 = ((rd_T103 l0 x8_1).f0) && (a1_1 == ((rd_T103 l0 x8_1).f1))) := by simpa using c7))
     clear c7
     have H' := Aside0.mk H
     clear H
     have hcz9 := cf2_ BK106
     have p107 : 0 ≤ (x8_1 : Int) := od_
     have q107 : x8_1 < (l0.length : Int) := od_
     obtain ⟨ad107, e107, hx107_0, hx107_1⟩ := at_T103 HR0.out x8_1 p107 q107
     cases e107
     replace hx107_0 := hbc_ HB hx107_0
     replace hx107_1 := hbc_ HB hx107_1
     replace p107 := eq_true p107
     replace q107 := eq_true q107
     go_wp2
     repeat (go_quiet (fail); try go_wp2)
     go_roundg k1
     case measure => have := HK1.out; omega
     case rel => exact ⟨(wrap64 (x8_1 + 1)), (by first | rfl | (simp; done) | (simp [*]; done)), H', ⟨by have := HK1.out; omega⟩, ⟨by (with_reducible repeat (first | refine blk_drewN ?_ _ | refine blk_drew ?_ | refine blk_alloc ?_ _)); exact BK106.out⟩, ⟨bl1_ HB GE106⟩⟩
   ·rw [if_neg c4] at H
    have c4b0 := decide_eq_false c4
    clear c4
    obtain rfl := Option.some.inj H
    go_wp2
    repeat (go_quiet (fail); try go_wp2)
    go_ret
    exact ⟨by first | (rw [hRT_.out]; rfl) | exact er_, bl1_ HB GE106⟩

/-! ### impl_Link_93: function 93 -/
def impl_Link_93.f (k : Nat) (l0 : List (S103)) (a1_0 : Int) (a1_1 : Int) : Option (Bool) := (impl_Link_122.f k l0 a1_0 a1_1).bind fun t109 => (some (decide (t109 ≥ 0)))
theorem impl_Link_93.mono : ∀ a0 a1 a2 k, LeO (impl_Link_93.f k a0 a1 a2) (impl_Link_93.f (k + 1) a0 a1 a2) := by
 intro a0 a1 a2 k
 unfold impl_Link_93.f
 repeat' first | (with_reducible first | exact impl_Link_122.mono _ _ _ _ | exact LeO.refl _ | exact LeO.none _ | refine LeO.ite ?_ ?_ | refine LeO.bind ?_ (fun _ => ?_)) | exact LeO.none _ | refine LeO.ite ?_ ?_ | refine LeO.bind ?_ (fun _ => ?_)
set_option maxHeartbeats 8000000 in
set_option maxRecDepth 100000 in
theorem impl_Link_93.calls (k : Nat) (A0 : Option Addr) (c0 : Nat) (l0 : List (S103)) (a1_0 : Int) (a1_1 : Int) (r : Bool) (w : World) (hr0 : Kd.C k103 w A0 l0.length l0) (hc0 : l0.length ≤ c0) (h : impl_Link_93.f k l0 a1_0 a1_1 = some r) :
  Calls Try.prog 93 #[.slice A0 l0.length c0, .agg #[.int .i64 a1_0, .int .i64 a1_1]] w fun e w' => e = .returned (.bool r) ∧ Below w.heap.size w w' := by
 have hu103 := Try.underlying103
 have HR0 := Aside0.mk hr0
 have HC0 := Aside0.mk hc0
 clear hr0 hc0
 have HB := Aside0.mk (Below.refl w.heap.size w)
 have H := h
 clear h
 unfold impl_Link_93.f at H
 replace H := bs_ H
 obtain ⟨t109, A3, H⟩ := H
 obtain rfl := Option.some.inj H
 go_enter Try.func93, Try.ntmps93
 go_wp2_with (first | ((with_reducible refine gd_ 3 ?_); refine bx_ 3 103 #[.int .i64 a1_0, .int .i64 a1_1] ?_; intro gb108 hg w4 hbox hb; refine sh4_ (below_step (bl_ HB) hb) hbox (ge_ hg (bl_ HB)) (ge_ hg (bl_ HB)) ?_; clear HB hb hbox hg; intro HB BK108 GW108 GE108; have hcz5 := cf2_ BK108) | ((with_reducible refine gate_callee (f := 122) rfl ?_); refine gl_ 7 Try.func122 (impl_Link_122.calls k _ _ l0 a1_0 a1_1 t109 _ (ck_ HR0 HB) HC0.out A3.out) ?_; rintro e w6 ⟨rfl, hb⟩; refine ⟨_, rfl, sh2_ (blk_below (bk_ BK108) hb) (below_step (bl1_ HB GE108) hb) ?_⟩; clear BK108 HB hb; intro BK108 HB))
 go_ret
 exact ⟨by first | (rw [hRT_.out]; rfl) | exact er_, bl1_ HB GE108⟩

/-! ### impl_LinksAt: function 34 -/
def impl_LinksAt.l0 : Nat → Int → List (S103) → List (S96) → Int → Int → Option ((List (S103)))
 | 0, _, _, _, _, _ => none
 | k + 1, x1, x5, x10, x11, x12 => if x12 < x11 then (if 0 ≤ x12 then (if x12 < (x10.length : Int) then ((impl_spanOf.f ((rd_T96 x10 x12).f0) ((rd_T96 x10 x12).f1) ((rd_T96 x10 x12).f2) ((rd_T96 x10 x12).f3)).bind fun bt116 => ((impl_InSpan.f bt116.1 bt116.2 x1).bind fun t118 => (if t118 = true then ((impl_Link_93.f k x5 ((rd_T96 x10 x12).f0) ((rd_T96 x10 x12).f1)).bind fun t119 => (if t119 = true then (impl_LinksAt.l0 k x1 x5 x10 x11 (wrap64 (x12 + 1))) else (if x5.length < 8796093022208 then (impl_LinksAt.l0 k x1 (x5 ++ [(⟨(rd_T96 x10 x12).f0, (rd_T96 x10 x12).f1⟩ : S103)]) x10 x11 (wrap64 (x12 + 1))) else (none)))) else (impl_LinksAt.l0 k x1 x5 x10 x11 (wrap64 (x12 + 1)))))) else (none)) else (none)) else (some x5)
def impl_LinksAt.f (k : Nat) (l0 : List (S96)) (a1 : Int) : Option ((List (S103))) := impl_LinksAt.l0 k a1 (([] : List (S103))) l0 (l0.length : Int) 0
theorem impl_LinksAt.mono_l : ∀ k, (∀ y0 y1 y2 y3 y4, LeO (impl_LinksAt.l0 k y0 y1 y2 y3 y4) (impl_LinksAt.l0 (k + 1) y0 y1 y2 y3 y4))
 | 0 => fun _ _ _ _ _ r h => by simp [impl_LinksAt.l0] at h
 | k + 1 => by
  have ih0 := impl_LinksAt.mono_l k
  ·intro y0 y1 y2 y3 y4
   unfold impl_LinksAt.l0
   repeat' first | (with_reducible first | exact ih0 _ _ _ _ _ | exact impl_Link_93.mono _ _ _ _ | exact LeO.refl _ | exact LeO.none _ | refine LeO.ite ?_ ?_ | refine LeO.bind ?_ (fun _ => ?_)) | exact LeO.none _ | refine LeO.ite ?_ ?_ | refine LeO.bind ?_ (fun _ => ?_)
theorem impl_LinksAt.mono : ∀ a0 a1 k, LeO (impl_LinksAt.f k a0 a1) (impl_LinksAt.f (k + 1) a0 a1) := by
 intro a0 a1 k
 have ih0 := impl_LinksAt.mono_l k
 unfold impl_LinksAt.f
 repeat' first | (with_reducible first | exact ih0 _ _ _ _ _ | exact impl_Link_93.mono _ _ _ _ | exact LeO.refl _ | exact LeO.none _ | refine LeO.ite ?_ ?_ | refine LeO.bind ?_ (fun _ => ?_)) | exact LeO.none _ | refine LeO.ite ?_ ?_ | refine LeO.bind ?_ (fun _ => ?_)
set_option maxHeartbeats 8000000 in
set_option maxRecDepth 100000 in
theorem impl_LinksAt.calls (k : Nat) (A0 : Option Addr) (c0 : Nat) (l0 : List (S96)) (a1 : Int) (r : List (S103)) (w : World) (hr0 : Kd.C k96 w A0 l0.length l0) (hc0 : l0.length ≤ c0) (h : impl_LinksAt.f k l0 a1 = some r) :
  Calls Try.prog 34 #[.slice A0 l0.length c0, .int .i64 a1] w fun e w' => ∃ v0_ : Value, e = .returned (v0_) ∧ Kd.R k103 103 w' w.heap.size (fun _ => True) v0_ r ∧ Below w.heap.size w w' := by
 have hu96 := Try.underlying96
 have hu103 := Try.underlying103
 have HR0 := Aside0.mk hr0
 have HC0 := Aside0.mk hc0
 clear hr0 hc0
 have HB := Aside0.mk (Below.refl w.heap.size w)
 have H := h
 clear h
 unfold impl_LinksAt.f at H
 replace H : ∃ y_ : List (S103), Aside0 (y_ = (([] : List (S103)))) ∧ (impl_LinksAt.l0 k a1 y_ l0 (l0.length : Int) 0) = some r := ⟨_, ⟨rfl⟩, yh_ H⟩
 obtain ⟨y110, Ny110, H⟩ := H
 have H' := Aside0.mk H
 clear H
 go_enter Try.func34, Try.ntmps34
 go_wp2_with (first | ((with_reducible refine gate_dst (N := 9) rfl ?_); refine Kd.R_lit k103 _ 103 ?hg (N := 9) ?hd (xs := ([] : List (S103))) (inner := []) (ok := fun _ => True) (okp := fun _ => True) ?hr ?hp (fun _ hk => hk) trivial (Below.refl _ _) (Nat.le_refl _) (by simp) ?_; (case hd => rfl); (case hg => rfl); (case hr => first | (go_simp; done) | (go_simp; rfl)); (case hp => exact (Reps.none _ _)); intro v111 w3 ho4 hb hg_ hnew_; clear hg_ hnew_; (first | rw [← Ny110.out] at ho4 | (simp only [Int.reduceToNat] at ho4; rw [← Ny110.out] at ho4)); refine sh2_ (Kd.R_lower ho4 (below_size (bl_ HB))) (below_step (bl_ HB) hb) ?_; clear HB hb ho4; intro HO112 HB))
 go_loopg [5, 12] k (fun kq v5 v12 w' => ∃ (x5_1 : List (S103)) (x12_1 : Int), v12 = .int .i64 x12_1 ∧ Aside0 (impl_LinksAt.l0 kq a1 x5_1 l0 (l0.length : Int) x12_1 = some r) ∧ Aside0 (kq ≤ k) ∧ Aside0 (Kd.R k103 103 w' w.heap.size (fun _ => True) v5 x5_1) ∧ Aside0 (Below w.heap.size w w'))
 case atStart => exact ⟨(y110), (0), (by first | rfl | (simp; done) | (simp [*]; done)), H', ⟨Nat.le_refl _⟩, ⟨ra_ HO112⟩, ⟨bl_ HB⟩⟩
 case round =>
  clear H'
  try clear p2
  try clear c3
  obtain ⟨x5_1, x12_1, rfl, HA, HK1, HO_5, HB⟩ := hrel
  cases gk with
  | zero => exact absurd HA.out (by simp [impl_LinksAt.l0])
  | succ k1 =>
   have H := HA.out
   clear HA
   simp only [impl_LinksAt.l0] at H
   by_cases c5 : x12_1 < (l0.length : Int)
   ·rw [if_pos c5] at H
    have c5b0 := decide_eq_true c5
    clear c5
    replace H := ifn_ H
    obtain ⟨c6, H⟩ := H
    have c6b0 := decide_eq_true c6
    clear c6
    replace H := ifn_ H
    obtain ⟨c7, H⟩ := H
    have c7b0 := decide_eq_true c7
    clear c7
    replace H := bs_ H
    obtain ⟨⟨t116, t117⟩, A8, H⟩ := H
    dsimp only at H
    replace H := bs_ H
    obtain ⟨t118, A9, H⟩ := H
    by_cases c10 : t118 = true
    ·subst c10
     rw [if_pos rfl] at H
     replace H := bs_ H
     obtain ⟨t119, A11, H⟩ := H
     by_cases c12 : t119 = true
     ·subst c12
      rw [if_pos rfl] at H
      have H' := Aside0.mk H
      clear H
      have p113 : 0 ≤ (x12_1 : Int) := od_
      have q113 : x12_1 < (l0.length : Int) := od_
      obtain ⟨ad113, e113, hx113_0, hx113_1, hx113_2, hx113_3⟩ := at_T96 HR0.out x12_1 p113 q113
      cases e113
      replace hx113_0 := hbc_ HB hx113_0
      replace hx113_1 := hbc_ HB hx113_1
      replace hx113_2 := hbc_ HB hx113_2
      replace hx113_3 := hbc_ HB hx113_3
      replace p113 := eq_true p113
      replace q113 := eq_true q113
      go_wp2_with (first | ((with_reducible refine gd_ 7 ?_); refine bx_ 7 96 #[.int .i64 0, .int .i64 0, .int .i64 0, .int .i64 0] ?_; intro gb114 hg w13 hbox hb; refine sh5_ (Kd.R_below (ra_ HO_5) hb) (below_step (bl_ HB) hb) hbox (ge_ hg (bl_ HB)) (ge_ hg (bl_ HB)) ?_; clear HO_5 HB hb hbox hg; intro HO_5 HB BK114 GW114 GE114; have hcz14 := cf4_ BK114) | ((with_reducible refine gd_ 8 ?_); refine bx_ 8 103 #[.int .i64 0, .int .i64 0] ?_; intro gb115 hg w15 hbox hb; refine sh8_ (Kd.R_below (Kd.R_elderB (by (with_reducible repeat (first | apply Kd.R_alloc | apply Kd.R_drewN | apply Kd.R_drew)); exact (Kd.R_mono (Kd.R_far (p := ⟨gb114, 3, none⟩) (Kd.R_far (p := ⟨gb114, 2, none⟩) (Kd.R_far (p := ⟨gb114, 1, none⟩) (Kd.R_far (p := ⟨gb114, 0, none⟩) (Kd.R_types HO_5.out BK114.out (by decide)) (fun _ hk => hk.2) (.int .i64 ((rd_T96 l0 x12_1).f0))) (fun _ hk => hk.2) (.int .i64 ((rd_T96 l0 x12_1).f1))) (fun _ hk => hk.2) (.int .i64 ((rd_T96 l0 x12_1).f2))) (fun _ hk => hk.2) (.int .i64 ((rd_T96 l0 x12_1).f3))) (fun _ h_ => h_.1))) gb115 (Nat.le_of_eq hg.symm)) hb) (blk_below (g := gb114) (o := .cells #[.int .i64 ((rd_T96 l0 x12_1).f0), .int .i64 ((rd_T96 l0 x12_1).f1), .int .i64 ((rd_T96 l0 x12_1).f2), .int .i64 ((rd_T96 l0 x12_1).f3)] 96 (0, 0)) (by (with_reducible repeat (first | refine blk_drewN ?_ _ | refine blk_drew ?_ | refine blk_alloc ?_ _)); refine blk_put (cs := #[.int .i64 ((rd_T96 l0 x12_1).f0), .int .i64 ((rd_T96 l0 x12_1).f1), .int .i64 ((rd_T96 l0 x12_1).f2), .int .i64 0]) ?_ 3 _ rfl; (with_reducible repeat (first | refine blk_drewN ?_ _ | refine blk_drew ?_ | refine blk_alloc ?_ _)); refine blk_put (cs := #[.int .i64 ((rd_T96 l0 x12_1).f0), .int .i64 ((rd_T96 l0 x12_1).f1), .int .i64 0, .int .i64 0]) ?_ 2 _ rfl; (with_reducible repeat (first | refine blk_drewN ?_ _ | refine blk_drew ?_ | refine blk_alloc ?_ _)); refine blk_put (cs := #[.int .i64 ((rd_T96 l0 x12_1).f0), .int .i64 0, .int .i64 0, .int .i64 0]) ?_ 1 _ rfl; (with_reducible repeat (first | refine blk_drewN ?_ _ | refine blk_drew ?_ | refine blk_alloc ?_ _)); refine blk_put (cs := #[.int .i64 0, .int .i64 0, .int .i64 0, .int .i64 0]) ?_ 0 _ rfl; (with_reducible repeat (first | refine blk_drewN ?_ _ | refine blk_drew ?_ | refine blk_alloc ?_ _)); exact BK114.out) hb) (below_step (bl1_ HB GE114) hb) hbox (ge_ hg (bl1_ HB GE114)) (ge_ hg (bl1_ HB GE114)) ((by rw [hg]; exact Nat.ne_of_lt (blk_lt (g := gb114) (o := .cells #[.int .i64 ((rd_T96 l0 x12_1).f0), .int .i64 ((rd_T96 l0 x12_1).f1), .int .i64 ((rd_T96 l0 x12_1).f2), .int .i64 ((rd_T96 l0 x12_1).f3)] 96 (0, 0)) (by (with_reducible repeat (first | refine blk_drewN ?_ _ | refine blk_drew ?_ | refine blk_alloc ?_ _)); refine blk_put (cs := #[.int .i64 ((rd_T96 l0 x12_1).f0), .int .i64 ((rd_T96 l0 x12_1).f1), .int .i64 ((rd_T96 l0 x12_1).f2), .int .i64 0]) ?_ 3 _ rfl; (with_reducible repeat (first | refine blk_drewN ?_ _ | refine blk_drew ?_ | refine blk_alloc ?_ _)); refine blk_put (cs := #[.int .i64 ((rd_T96 l0 x12_1).f0), .int .i64 ((rd_T96 l0 x12_1).f1), .int .i64 0, .int .i64 0]) ?_ 2 _ rfl; (with_reducible repeat (first | refine blk_drewN ?_ _ | refine blk_drew ?_ | refine blk_alloc ?_ _)); refine blk_put (cs := #[.int .i64 ((rd_T96 l0 x12_1).f0), .int .i64 0, .int .i64 0, .int .i64 0]) ?_ 1 _ rfl; (with_reducible repeat (first | refine blk_drewN ?_ _ | refine blk_drew ?_ | refine blk_alloc ?_ _)); refine blk_put (cs := #[.int .i64 0, .int .i64 0, .int .i64 0, .int .i64 0]) ?_ 0 _ rfl; (with_reducible repeat (first | refine blk_drewN ?_ _ | refine blk_drew ?_ | refine blk_alloc ?_ _)); exact BK114.out)) : gb114 ≠ gb115)) ((by rw [hg]; exact Nat.ne_of_gt (blk_lt (g := gb114) (o := .cells #[.int .i64 ((rd_T96 l0 x12_1).f0), .int .i64 ((rd_T96 l0 x12_1).f1), .int .i64 ((rd_T96 l0 x12_1).f2), .int .i64 ((rd_T96 l0 x12_1).f3)] 96 (0, 0)) (by (with_reducible repeat (first | refine blk_drewN ?_ _ | refine blk_drew ?_ | refine blk_alloc ?_ _)); refine blk_put (cs := #[.int .i64 ((rd_T96 l0 x12_1).f0), .int .i64 ((rd_T96 l0 x12_1).f1), .int .i64 ((rd_T96 l0 x12_1).f2), .int .i64 0]) ?_ 3 _ rfl; (with_reducible repeat (first | refine blk_drewN ?_ _ | refine blk_drew ?_ | refine blk_alloc ?_ _)); refine blk_put (cs := #[.int .i64 ((rd_T96 l0 x12_1).f0), .int .i64 ((rd_T96 l0 x12_1).f1), .int .i64 0, .int .i64 0]) ?_ 2 _ rfl; (with_reducible repeat (first | refine blk_drewN ?_ _ | refine blk_drew ?_ | refine blk_alloc ?_ _)); refine blk_put (cs := #[.int .i64 ((rd_T96 l0 x12_1).f0), .int .i64 0, .int .i64 0, .int .i64 0]) ?_ 1 _ rfl; (with_reducible repeat (first | refine blk_drewN ?_ _ | refine blk_drew ?_ | refine blk_alloc ?_ _)); refine blk_put (cs := #[.int .i64 0, .int .i64 0, .int .i64 0, .int .i64 0]) ?_ 0 _ rfl; (with_reducible repeat (first | refine blk_drewN ?_ _ | refine blk_drew ?_ | refine blk_alloc ?_ _)); exact BK114.out)) : gb115 ≠ gb114)) ?_; clear HO_5 BK114 HB hb hbox hg; intro HO_5 BK114 HB BK115 GW115 GE115 NB114_115 NB115_114; have hnb16 := NB115_114.out; have hnc16 := NB114_115.out; have hcz17 := cf2_ BK115; have hcz18 := cf4_ BK114) | ((with_reducible refine gate_callee (f := 92) rfl ?_); refine gl_ 22 Try.func92 (impl_spanOf.calls ((rd_T96 l0 x12_1).f0) ((rd_T96 l0 x12_1).f1) ((rd_T96 l0 x12_1).f2) ((rd_T96 l0 x12_1).f3) t116 t117 _ A8.out) ?_; rintro e w19 ⟨rfl, hb⟩; refine ⟨_, rfl, sh4_ (Kd.R_below (by (with_reducible repeat (first | apply Kd.R_alloc | apply Kd.R_drewN | apply Kd.R_drew)); exact (Kd.R_mono (Kd.R_far (p := ⟨gb115, 1, none⟩) (Kd.R_far (p := ⟨gb115, 0, none⟩) (Kd.R_mono HO_5.out (fun k_ hk => (⟨hk, hk.2⟩ : _ ∧ k_ ≠ gb115))) (fun _ hk => hk.2) (.int .i64 ((rd_T96 l0 x12_1).f0))) (fun _ hk => hk.2) (.int .i64 ((rd_T96 l0 x12_1).f1))) (fun _ h_ => h_.1))) hb) (blk_below (g := gb114) (o := .cells #[.int .i64 ((rd_T96 l0 x12_1).f0), .int .i64 ((rd_T96 l0 x12_1).f1), .int .i64 ((rd_T96 l0 x12_1).f2), .int .i64 ((rd_T96 l0 x12_1).f3)] 96 (0, 0)) (by (with_reducible repeat (first | refine blk_drewN ?_ _ | refine blk_drew ?_ | refine blk_alloc ?_ _)); refine blk_far ?_ NB114_115.out _; (with_reducible repeat (first | refine blk_drewN ?_ _ | refine blk_drew ?_ | refine blk_alloc ?_ _)); refine blk_far ?_ NB114_115.out _; (with_reducible repeat (first | refine blk_drewN ?_ _ | refine blk_drew ?_ | refine blk_alloc ?_ _)); exact BK114.out) hb) (blk_below (g := gb115) (o := .cells #[.int .i64 ((rd_T96 l0 x12_1).f0), .int .i64 ((rd_T96 l0 x12_1).f1)] 103 (0, 0)) (by (with_reducible repeat (first | refine blk_drewN ?_ _ | refine blk_drew ?_ | refine blk_alloc ?_ _)); refine blk_put (cs := #[.int .i64 ((rd_T96 l0 x12_1).f0), .int .i64 0]) ?_ 1 _ rfl; (with_reducible repeat (first | refine blk_drewN ?_ _ | refine blk_drew ?_ | refine blk_alloc ?_ _)); refine blk_put (cs := #[.int .i64 0, .int .i64 0]) ?_ 0 _ rfl; (with_reducible repeat (first | refine blk_drewN ?_ _ | refine blk_drew ?_ | refine blk_alloc ?_ _)); exact BK115.out) hb) (below_step (bl2_ HB GE114 GE115) hb) ?_⟩; clear HO_5 BK114 BK115 HB hb; intro HO_5 BK114 BK115 HB) | ((with_reducible refine gate_callee (f := 91) rfl ?_); refine gl_ 24 Try.func91 (impl_InSpan.calls t116 t117 a1 true _ A9.out) ?_; rintro e w20 ⟨rfl, hb⟩; refine ⟨_, rfl, sh4_ (Kd.R_below (ra_ HO_5) hb) (blk_below (bk_ BK114) hb) (blk_below (bk_ BK115) hb) (below_step (bl2_ HB GE114 GE115) hb) ?_⟩; clear HO_5 BK114 BK115 HB hb; intro HO_5 BK114 BK115 HB; have hcz21 := cf2_ BK115; obtain ⟨Ao22, co22, eo22⟩ := Kd.R_slice HO_5.out; subst eo22) | (go_at_call 93; (with_reducible refine (impl_Link_93.calls k1 _ _ x5_1 ((rd_T96 l0 x12_1).f0) ((rd_T96 l0 x12_1).f1) true _ ?side1 ?side2 A11.out).mono ?_); (case side1 => repeat (first | exact (Kd.R_reads' HO_5.out).2.2 | (with_reducible refine Kd.C_alloc ?_ _) | (with_reducible refine Kd.C_drewN ?_ _) | (with_reducible refine Kd.C_drew ?_))); (case side2 => exact (Kd.R_reads' HO_5.out).2.1); rintro e w23 ⟨rfl, hb⟩; refine sh4_ (Kd.R_below (ra_ HO_5) hb) (blk_below (bk_ BK114) hb) (blk_below (bk_ BK115) hb) (below_step (bl2_ HB GE114 GE115) hb) ?_; clear HO_5 BK114 BK115 HB hb; intro HO_5 BK114 BK115 HB))
      go_roundg k1
      case measure => have := HK1.out; omega
      case rel => exact ⟨(x5_1), (wrap64 (x12_1 + 1)), (by first | rfl | (simp; done) | (simp [*]; done)), H', ⟨by have := HK1.out; omega⟩, ⟨by (with_reducible repeat (first | apply Kd.R_alloc | apply Kd.R_drewN | apply Kd.R_drew)); exact Kd.R_mono HO_5.out (fun _ hk => trivial)⟩, ⟨bl2_ HB GE114 GE115⟩⟩
     ·replace c12 := Bool.eq_false_iff.mpr c12
      subst c12
      have H1 : (if x5_1.length < 8796093022208 then (impl_LinksAt.l0 k1 a1 (x5_1 ++ [(⟨(rd_T96 l0 x12_1).f0, (rd_T96 l0 x12_1).f1⟩ : S103)]) l0 (l0.length : Int) (wrap64 (x12_1 + 1))) else (none)) = some r := by rw [if_neg (show ¬ (false = true) by decide)] at H; exact H
      clear H
      have H := H1
      clear H1
      replace H := ifn_ H
      obtain ⟨c24, H⟩ := H
      have LMc24 := Aside0.mk c24
      clear c24
      replace H : ∃ y_ : List (S103), Aside0 (y_ = (x5_1 ++ [(⟨(rd_T96 l0 x12_1).f0, (rd_T96 l0 x12_1).f1⟩ : S103)])) ∧ (impl_LinksAt.l0 k1 a1 y_ l0 (l0.length : Int) (wrap64 (x12_1 + 1))) = some r := ⟨_, ⟨rfl⟩, yh_ H⟩
      obtain ⟨y120, Ny120, H⟩ := H
      have H' := Aside0.mk H
      clear H
      have p113 : 0 ≤ (x12_1 : Int) := od_
      have q113 : x12_1 < (l0.length : Int) := od_
      obtain ⟨ad113, e113, hx113_0, hx113_1, hx113_2, hx113_3⟩ := at_T96 HR0.out x12_1 p113 q113
      cases e113
      replace hx113_0 := hbc_ HB hx113_0
      replace hx113_1 := hbc_ HB hx113_1
      replace hx113_2 := hbc_ HB hx113_2
      replace hx113_3 := hbc_ HB hx113_3
      replace p113 := eq_true p113
      replace q113 := eq_true q113
      go_wp2_with (first | ((with_reducible refine gd_ 7 ?_); refine bx_ 7 96 #[.int .i64 0, .int .i64 0, .int .i64 0, .int .i64 0] ?_; intro gb114 hg w25 hbox hb; refine sh5_ (Kd.R_below (ra_ HO_5) hb) (below_step (bl_ HB) hb) hbox (ge_ hg (bl_ HB)) (ge_ hg (bl_ HB)) ?_; clear HO_5 HB hb hbox hg; intro HO_5 HB BK114 GW114 GE114; have hcz26 := cf4_ BK114) | ((with_reducible refine gd_ 8 ?_); refine bx_ 8 103 #[.int .i64 0, .int .i64 0] ?_; intro gb115 hg w27 hbox hb; refine sh8_ (Kd.R_below (Kd.R_elderB (by (with_reducible repeat (first | apply Kd.R_alloc | apply Kd.R_drewN | apply Kd.R_drew)); exact (Kd.R_mono (Kd.R_far (p := ⟨gb114, 3, none⟩) (Kd.R_far (p := ⟨gb114, 2, none⟩) (Kd.R_far (p := ⟨gb114, 1, none⟩) (Kd.R_far (p := ⟨gb114, 0, none⟩) (Kd.R_types HO_5.out BK114.out (by decide)) (fun _ hk => hk.2) (.int .i64 ((rd_T96 l0 x12_1).f0))) (fun _ hk => hk.2) (.int .i64 ((rd_T96 l0 x12_1).f1))) (fun _ hk => hk.2) (.int .i64 ((rd_T96 l0 x12_1).f2))) (fun _ hk => hk.2) (.int .i64 ((rd_T96 l0 x12_1).f3))) (fun _ h_ => h_.1))) gb115 (Nat.le_of_eq hg.symm)) hb) (blk_below (g := gb114) (o := .cells #[.int .i64 ((rd_T96 l0 x12_1).f0), .int .i64 ((rd_T96 l0 x12_1).f1), .int .i64 ((rd_T96 l0 x12_1).f2), .int .i64 ((rd_T96 l0 x12_1).f3)] 96 (0, 0)) (by (with_reducible repeat (first | refine blk_drewN ?_ _ | refine blk_drew ?_ | refine blk_alloc ?_ _)); refine blk_put (cs := #[.int .i64 ((rd_T96 l0 x12_1).f0), .int .i64 ((rd_T96 l0 x12_1).f1), .int .i64 ((rd_T96 l0 x12_1).f2), .int .i64 0]) ?_ 3 _ rfl; (with_reducible repeat (first | refine blk_drewN ?_ _ | refine blk_drew ?_ | refine blk_alloc ?_ _)); refine blk_put (cs := #[.int .i64 ((rd_T96 l0 x12_1).f0), .int .i64 ((rd_T96 l0 x12_1).f1), .int .i64 0, .int .i64 0]) ?_ 2 _ rfl; (with_reducible repeat (first | refine blk_drewN ?_ _ | refine blk_drew ?_ | refine blk_alloc ?_ _)); refine blk_put (cs := #[.int .i64 ((rd_T96 l0 x12_1).f0), .int .i64 0, .int .i64 0, .int .i64 0]) ?_ 1 _ rfl; (with_reducible repeat (first | refine blk_drewN ?_ _ | refine blk_drew ?_ | refine blk_alloc ?_ _)); refine blk_put (cs := #[.int .i64 0, .int .i64 0, .int .i64 0, .int .i64 0]) ?_ 0 _ rfl; (with_reducible repeat (first | refine blk_drewN ?_ _ | refine blk_drew ?_ | refine blk_alloc ?_ _)); exact BK114.out) hb) (below_step (bl1_ HB GE114) hb) hbox (ge_ hg (bl1_ HB GE114)) (ge_ hg (bl1_ HB GE114)) ((by rw [hg]; exact Nat.ne_of_lt (blk_lt (g := gb114) (o := .cells #[.int .i64 ((rd_T96 l0 x12_1).f0), .int .i64 ((rd_T96 l0 x12_1).f1), .int .i64 ((rd_T96 l0 x12_1).f2), .int .i64 ((rd_T96 l0 x12_1).f3)] 96 (0, 0)) (by (with_reducible repeat (first | refine blk_drewN ?_ _ | refine blk_drew ?_ | refine blk_alloc ?_ _)); refine blk_put (cs := #[.int .i64 ((rd_T96 l0 x12_1).f0), .int .i64 ((rd_T96 l0 x12_1).f1), .int .i64 ((rd_T96 l0 x12_1).f2), .int .i64 0]) ?_ 3 _ rfl; (with_reducible repeat (first | refine blk_drewN ?_ _ | refine blk_drew ?_ | refine blk_alloc ?_ _)); refine blk_put (cs := #[.int .i64 ((rd_T96 l0 x12_1).f0), .int .i64 ((rd_T96 l0 x12_1).f1), .int .i64 0, .int .i64 0]) ?_ 2 _ rfl; (with_reducible repeat (first | refine blk_drewN ?_ _ | refine blk_drew ?_ | refine blk_alloc ?_ _)); refine blk_put (cs := #[.int .i64 ((rd_T96 l0 x12_1).f0), .int .i64 0, .int .i64 0, .int .i64 0]) ?_ 1 _ rfl; (with_reducible repeat (first | refine blk_drewN ?_ _ | refine blk_drew ?_ | refine blk_alloc ?_ _)); refine blk_put (cs := #[.int .i64 0, .int .i64 0, .int .i64 0, .int .i64 0]) ?_ 0 _ rfl; (with_reducible repeat (first | refine blk_drewN ?_ _ | refine blk_drew ?_ | refine blk_alloc ?_ _)); exact BK114.out)) : gb114 ≠ gb115)) ((by rw [hg]; exact Nat.ne_of_gt (blk_lt (g := gb114) (o := .cells #[.int .i64 ((rd_T96 l0 x12_1).f0), .int .i64 ((rd_T96 l0 x12_1).f1), .int .i64 ((rd_T96 l0 x12_1).f2), .int .i64 ((rd_T96 l0 x12_1).f3)] 96 (0, 0)) (by (with_reducible repeat (first | refine blk_drewN ?_ _ | refine blk_drew ?_ | refine blk_alloc ?_ _)); refine blk_put (cs := #[.int .i64 ((rd_T96 l0 x12_1).f0), .int .i64 ((rd_T96 l0 x12_1).f1), .int .i64 ((rd_T96 l0 x12_1).f2), .int .i64 0]) ?_ 3 _ rfl; (with_reducible repeat (first | refine blk_drewN ?_ _ | refine blk_drew ?_ | refine blk_alloc ?_ _)); refine blk_put (cs := #[.int .i64 ((rd_T96 l0 x12_1).f0), .int .i64 ((rd_T96 l0 x12_1).f1), .int .i64 0, .int .i64 0]) ?_ 2 _ rfl; (with_reducible repeat (first | refine blk_drewN ?_ _ | refine blk_drew ?_ | refine blk_alloc ?_ _)); refine blk_put (cs := #[.int .i64 ((rd_T96 l0 x12_1).f0), .int .i64 0, .int .i64 0, .int .i64 0]) ?_ 1 _ rfl; (with_reducible repeat (first | refine blk_drewN ?_ _ | refine blk_drew ?_ | refine blk_alloc ?_ _)); refine blk_put (cs := #[.int .i64 0, .int .i64 0, .int .i64 0, .int .i64 0]) ?_ 0 _ rfl; (with_reducible repeat (first | refine blk_drewN ?_ _ | refine blk_drew ?_ | refine blk_alloc ?_ _)); exact BK114.out)) : gb115 ≠ gb114)) ?_; clear HO_5 BK114 HB hb hbox hg; intro HO_5 BK114 HB BK115 GW115 GE115 NB114_115 NB115_114; have hnb28 := NB115_114.out; have hnc28 := NB114_115.out; have hcz29 := cf2_ BK115; have hcz30 := cf4_ BK114) | ((with_reducible refine gate_callee (f := 92) rfl ?_); refine gl_ 22 Try.func92 (impl_spanOf.calls ((rd_T96 l0 x12_1).f0) ((rd_T96 l0 x12_1).f1) ((rd_T96 l0 x12_1).f2) ((rd_T96 l0 x12_1).f3) t116 t117 _ A8.out) ?_; rintro e w31 ⟨rfl, hb⟩; refine ⟨_, rfl, sh4_ (Kd.R_below (by (with_reducible repeat (first | apply Kd.R_alloc | apply Kd.R_drewN | apply Kd.R_drew)); exact (Kd.R_mono (Kd.R_far (p := ⟨gb115, 1, none⟩) (Kd.R_far (p := ⟨gb115, 0, none⟩) (Kd.R_mono HO_5.out (fun k_ hk => (⟨hk, hk.2⟩ : _ ∧ k_ ≠ gb115))) (fun _ hk => hk.2) (.int .i64 ((rd_T96 l0 x12_1).f0))) (fun _ hk => hk.2) (.int .i64 ((rd_T96 l0 x12_1).f1))) (fun _ h_ => h_.1))) hb) (blk_below (g := gb114) (o := .cells #[.int .i64 ((rd_T96 l0 x12_1).f0), .int .i64 ((rd_T96 l0 x12_1).f1), .int .i64 ((rd_T96 l0 x12_1).f2), .int .i64 ((rd_T96 l0 x12_1).f3)] 96 (0, 0)) (by (with_reducible repeat (first | refine blk_drewN ?_ _ | refine blk_drew ?_ | refine blk_alloc ?_ _)); refine blk_far ?_ NB114_115.out _; (with_reducible repeat (first | refine blk_drewN ?_ _ | refine blk_drew ?_ | refine blk_alloc ?_ _)); refine blk_far ?_ NB114_115.out _; (with_reducible repeat (first | refine blk_drewN ?_ _ | refine blk_drew ?_ | refine blk_alloc ?_ _)); exact BK114.out) hb) (blk_below (g := gb115) (o := .cells #[.int .i64 ((rd_T96 l0 x12_1).f0), .int .i64 ((rd_T96 l0 x12_1).f1)] 103 (0, 0)) (by (with_reducible repeat (first | refine blk_drewN ?_ _ | refine blk_drew ?_ | refine blk_alloc ?_ _)); refine blk_put (cs := #[.int .i64 ((rd_T96 l0 x12_1).f0), .int .i64 0]) ?_ 1 _ rfl; (with_reducible repeat (first | refine blk_drewN ?_ _ | refine blk_drew ?_ | refine blk_alloc ?_ _)); refine blk_put (cs := #[.int .i64 0, .int .i64 0]) ?_ 0 _ rfl; (with_reducible repeat (first | refine blk_drewN ?_ _ | refine blk_drew ?_ | refine blk_alloc ?_ _)); exact BK115.out) hb) (below_step (bl2_ HB GE114 GE115) hb) ?_⟩; clear HO_5 BK114 BK115 HB hb; intro HO_5 BK114 BK115 HB) | ((with_reducible refine gate_callee (f := 91) rfl ?_); refine gl_ 24 Try.func91 (impl_InSpan.calls t116 t117 a1 true _ A9.out) ?_; rintro e w32 ⟨rfl, hb⟩; refine ⟨_, rfl, sh4_ (Kd.R_below (ra_ HO_5) hb) (blk_below (bk_ BK114) hb) (blk_below (bk_ BK115) hb) (below_step (bl2_ HB GE114 GE115) hb) ?_⟩; clear HO_5 BK114 BK115 HB hb; intro HO_5 BK114 BK115 HB; have hcz33 := cf2_ BK115; obtain ⟨Ao34, co34, eo34⟩ := Kd.R_slice HO_5.out; subst eo34) | (go_at_call 93; (with_reducible refine (impl_Link_93.calls k1 _ _ x5_1 ((rd_T96 l0 x12_1).f0) ((rd_T96 l0 x12_1).f1) false _ ?side1 ?side2 A11.out).mono ?_); (case side1 => repeat (first | exact (Kd.R_reads' HO_5.out).2.2 | (with_reducible refine Kd.C_alloc ?_ _) | (with_reducible refine Kd.C_drewN ?_ _) | (with_reducible refine Kd.C_drew ?_))); (case side2 => exact (Kd.R_reads' HO_5.out).2.1); rintro e w35 ⟨rfl, hb⟩; refine sh4_ (Kd.R_below (ra_ HO_5) hb) (blk_below (bk_ BK114) hb) (blk_below (bk_ BK115) hb) (below_step (bl2_ HB GE114 GE115) hb) ?_; clear HO_5 BK114 BK115 HB hb; intro HO_5 BK114 BK115 HB; have hcz36 := cf2_ BK115) | ((with_reducible refine gate_builtin (b := .append) (xs := #[.tmp 31, .tmp 33]) rfl ?_); at_builtin; refine Kd.R_append k103 (w0 := w) w.heap.size rfl (.tmp 31) (.tmp 33) 49 103 (.agg #[(.int .i64 0), (.int .i64 0)]) 16 rfl Try.underlying49 info103 rfl (by decide) (by omega) (.slice Ao34 x5_1.length co34) x5_1 (⟨(rd_T96 l0 x12_1).f0, (rd_T96 l0 x12_1).f1⟩ : S103) [.int .i64 ((rd_T96 l0 x12_1).f0), .int .i64 ((rd_T96 l0 x12_1).f1)] (fun k_ => k_ ≠ gb115) (fun _ => False) rfl rfl ?aP (fun _ hk => hk.elim) ?aF ?aO ?aB ?aS ?aL ?_; (case aP => exact k103_mkM _ _ _ (⟨(rd_T96 l0 x12_1).f0, (rd_T96 l0 x12_1).f1⟩ : S103)); (case aB => exact (bl2_ HB GE114 GE115)); (case aF => exact (fun k_ hk => Kd.freshB (g := gb115) (o := .cells #[.int .i64 ((rd_T96 l0 x12_1).f0), .int .i64 ((rd_T96 l0 x12_1).f1)] 103 (0, 0)) (bk_ BK115) k_ hk)); (case aO => exact (by (with_reducible repeat (first | apply Kd.R_alloc | apply Kd.R_drewN | apply Kd.R_drew)); exact Kd.R_mono HO_5.out (fun _ hk => hk.2))); (case aS => exact (below_size (bl2_ HB GE114 GE115))); (case aL => have := LMc24.out; omega); intro v121 w37 ho hb hg hat; rw [← Ny120.out] at ho; refine sh4_ (blk_grown (g := gb114) (o := .cells #[.int .i64 ((rd_T96 l0 x12_1).f0), .int .i64 ((rd_T96 l0 x12_1).f1), .int .i64 ((rd_T96 l0 x12_1).f2), .int .i64 ((rd_T96 l0 x12_1).f3)] 96 (0, 0)) (bk_ BK114) hg (Kd.R_ne HO_5.out BK114.out (by decide))) (blk_grown (g := gb115) (o := .cells #[.int .i64 ((rd_T96 l0 x12_1).f0), .int .i64 ((rd_T96 l0 x12_1).f1)] 103 (0, 0)) (bk_ BK115) hg (Kd.R_away HO_5.out (fun _ hk => hk.2))) hb ho ?_; clear BK114 BK115 HB HO_5 ho hb hg hat; intro BK114 BK115 HB HO122))
      go_roundg k1
      case measure => have := HK1.out; omega
      case rel => exact ⟨(y120), (wrap64 (x12_1 + 1)), (by first | rfl | (simp; done) | (simp [*]; done)), H', ⟨by have := HK1.out; omega⟩, ⟨by (with_reducible repeat (first | apply Kd.R_alloc | apply Kd.R_drewN | apply Kd.R_drew)); exact Kd.R_mono HO122.out (fun _ hk => trivial)⟩, ⟨bl2_ HB GE114 GE115⟩⟩
    ·replace c10 := Bool.eq_false_iff.mpr c10
     subst c10
     have H1 : (impl_LinksAt.l0 k1 a1 x5_1 l0 (l0.length : Int) (wrap64 (x12_1 + 1))) = some r := by rw [if_neg (show ¬ (false = true) by decide)] at H; exact H
     clear H
     have H := H1
     clear H1
     have H' := Aside0.mk H
     clear H
     have p113 : 0 ≤ (x12_1 : Int) := od_
     have q113 : x12_1 < (l0.length : Int) := od_
     obtain ⟨ad113, e113, hx113_0, hx113_1, hx113_2, hx113_3⟩ := at_T96 HR0.out x12_1 p113 q113
     cases e113
     replace hx113_0 := hbc_ HB hx113_0
     replace hx113_1 := hbc_ HB hx113_1
     replace hx113_2 := hbc_ HB hx113_2
     replace hx113_3 := hbc_ HB hx113_3
     replace p113 := eq_true p113
     replace q113 := eq_true q113
     go_wp2_with (first | ((with_reducible refine gd_ 7 ?_); refine bx_ 7 96 #[.int .i64 0, .int .i64 0, .int .i64 0, .int .i64 0] ?_; intro gb114 hg w38 hbox hb; refine sh5_ (Kd.R_below (ra_ HO_5) hb) (below_step (bl_ HB) hb) hbox (ge_ hg (bl_ HB)) (ge_ hg (bl_ HB)) ?_; clear HO_5 HB hb hbox hg; intro HO_5 HB BK114 GW114 GE114; have hcz39 := cf4_ BK114) | ((with_reducible refine gd_ 8 ?_); refine bx_ 8 103 #[.int .i64 0, .int .i64 0] ?_; intro gb115 hg w40 hbox hb; refine sh8_ (Kd.R_below (Kd.R_elderB (by (with_reducible repeat (first | apply Kd.R_alloc | apply Kd.R_drewN | apply Kd.R_drew)); exact (Kd.R_mono (Kd.R_far (p := ⟨gb114, 3, none⟩) (Kd.R_far (p := ⟨gb114, 2, none⟩) (Kd.R_far (p := ⟨gb114, 1, none⟩) (Kd.R_far (p := ⟨gb114, 0, none⟩) (Kd.R_types HO_5.out BK114.out (by decide)) (fun _ hk => hk.2) (.int .i64 ((rd_T96 l0 x12_1).f0))) (fun _ hk => hk.2) (.int .i64 ((rd_T96 l0 x12_1).f1))) (fun _ hk => hk.2) (.int .i64 ((rd_T96 l0 x12_1).f2))) (fun _ hk => hk.2) (.int .i64 ((rd_T96 l0 x12_1).f3))) (fun _ h_ => h_.1))) gb115 (Nat.le_of_eq hg.symm)) hb) (blk_below (g := gb114) (o := .cells #[.int .i64 ((rd_T96 l0 x12_1).f0), .int .i64 ((rd_T96 l0 x12_1).f1), .int .i64 ((rd_T96 l0 x12_1).f2), .int .i64 ((rd_T96 l0 x12_1).f3)] 96 (0, 0)) (by (with_reducible repeat (first | refine blk_drewN ?_ _ | refine blk_drew ?_ | refine blk_alloc ?_ _)); refine blk_put (cs := #[.int .i64 ((rd_T96 l0 x12_1).f0), .int .i64 ((rd_T96 l0 x12_1).f1), .int .i64 ((rd_T96 l0 x12_1).f2), .int .i64 0]) ?_ 3 _ rfl; (with_reducible repeat (first | refine blk_drewN ?_ _ | refine blk_drew ?_ | refine blk_alloc ?_ _)); refine blk_put (cs := #[.int .i64 ((rd_T96 l0 x12_1).f0), .int .i64 ((rd_T96 l0 x12_1).f1), .int .i64 0, .int .i64 0]) ?_ 2 _ rfl; (with_reducible repeat (first | refine blk_drewN ?_ _ | refine blk_drew ?_ | refine blk_alloc ?_ _)); refine blk_put (cs := #[.int .i64 ((rd_T96 l0 x12_1).f0), .int .i64 0, .int .i64 0, .int .i64 0]) ?_ 1 _ rfl; (with_reducible repeat (first | refine blk_drewN ?_ _ | refine blk_drew ?_ | refine blk_alloc ?_ _)); refine blk_put (cs := #[.int .i64 0, .int .i64 0, .int .i64 0, .int .i64 0]) ?_ 0 _ rfl; (with_reducible repeat (first | refine blk_drewN ?_ _ | refine blk_drew ?_ | refine blk_alloc ?_ _)); exact BK114.out) hb) (below_step (bl1_ HB GE114) hb) hbox (ge_ hg (bl1_ HB GE114)) (ge_ hg (bl1_ HB GE114)) ((by rw [hg]; exact Nat.ne_of_lt (blk_lt (g := gb114) (o := .cells #[.int .i64 ((rd_T96 l0 x12_1).f0), .int .i64 ((rd_T96 l0 x12_1).f1), .int .i64 ((rd_T96 l0 x12_1).f2), .int .i64 ((rd_T96 l0 x12_1).f3)] 96 (0, 0)) (by (with_reducible repeat (first | refine blk_drewN ?_ _ | refine blk_drew ?_ | refine blk_alloc ?_ _)); refine blk_put (cs := #[.int .i64 ((rd_T96 l0 x12_1).f0), .int .i64 ((rd_T96 l0 x12_1).f1), .int .i64 ((rd_T96 l0 x12_1).f2), .int .i64 0]) ?_ 3 _ rfl; (with_reducible repeat (first | refine blk_drewN ?_ _ | refine blk_drew ?_ | refine blk_alloc ?_ _)); refine blk_put (cs := #[.int .i64 ((rd_T96 l0 x12_1).f0), .int .i64 ((rd_T96 l0 x12_1).f1), .int .i64 0, .int .i64 0]) ?_ 2 _ rfl; (with_reducible repeat (first | refine blk_drewN ?_ _ | refine blk_drew ?_ | refine blk_alloc ?_ _)); refine blk_put (cs := #[.int .i64 ((rd_T96 l0 x12_1).f0), .int .i64 0, .int .i64 0, .int .i64 0]) ?_ 1 _ rfl; (with_reducible repeat (first | refine blk_drewN ?_ _ | refine blk_drew ?_ | refine blk_alloc ?_ _)); refine blk_put (cs := #[.int .i64 0, .int .i64 0, .int .i64 0, .int .i64 0]) ?_ 0 _ rfl; (with_reducible repeat (first | refine blk_drewN ?_ _ | refine blk_drew ?_ | refine blk_alloc ?_ _)); exact BK114.out)) : gb114 ≠ gb115)) ((by rw [hg]; exact Nat.ne_of_gt (blk_lt (g := gb114) (o := .cells #[.int .i64 ((rd_T96 l0 x12_1).f0), .int .i64 ((rd_T96 l0 x12_1).f1), .int .i64 ((rd_T96 l0 x12_1).f2), .int .i64 ((rd_T96 l0 x12_1).f3)] 96 (0, 0)) (by (with_reducible repeat (first | refine blk_drewN ?_ _ | refine blk_drew ?_ | refine blk_alloc ?_ _)); refine blk_put (cs := #[.int .i64 ((rd_T96 l0 x12_1).f0), .int .i64 ((rd_T96 l0 x12_1).f1), .int .i64 ((rd_T96 l0 x12_1).f2), .int .i64 0]) ?_ 3 _ rfl; (with_reducible repeat (first | refine blk_drewN ?_ _ | refine blk_drew ?_ | refine blk_alloc ?_ _)); refine blk_put (cs := #[.int .i64 ((rd_T96 l0 x12_1).f0), .int .i64 ((rd_T96 l0 x12_1).f1), .int .i64 0, .int .i64 0]) ?_ 2 _ rfl; (with_reducible repeat (first | refine blk_drewN ?_ _ | refine blk_drew ?_ | refine blk_alloc ?_ _)); refine blk_put (cs := #[.int .i64 ((rd_T96 l0 x12_1).f0), .int .i64 0, .int .i64 0, .int .i64 0]) ?_ 1 _ rfl; (with_reducible repeat (first | refine blk_drewN ?_ _ | refine blk_drew ?_ | refine blk_alloc ?_ _)); refine blk_put (cs := #[.int .i64 0, .int .i64 0, .int .i64 0, .int .i64 0]) ?_ 0 _ rfl; (with_reducible repeat (first | refine blk_drewN ?_ _ | refine blk_drew ?_ | refine blk_alloc ?_ _)); exact BK114.out)) : gb115 ≠ gb114)) ?_; clear HO_5 BK114 HB hb hbox hg; intro HO_5 BK114 HB BK115 GW115 GE115 NB114_115 NB115_114; have hnb41 := NB115_114.out; have hnc41 := NB114_115.out; have hcz42 := cf2_ BK115; have hcz43 := cf4_ BK114) | ((with_reducible refine gate_callee (f := 92) rfl ?_); refine gl_ 22 Try.func92 (impl_spanOf.calls ((rd_T96 l0 x12_1).f0) ((rd_T96 l0 x12_1).f1) ((rd_T96 l0 x12_1).f2) ((rd_T96 l0 x12_1).f3) t116 t117 _ A8.out) ?_; rintro e w44 ⟨rfl, hb⟩; refine ⟨_, rfl, sh4_ (Kd.R_below (by (with_reducible repeat (first | apply Kd.R_alloc | apply Kd.R_drewN | apply Kd.R_drew)); exact (Kd.R_mono (Kd.R_far (p := ⟨gb115, 1, none⟩) (Kd.R_far (p := ⟨gb115, 0, none⟩) (Kd.R_mono HO_5.out (fun k_ hk => (⟨hk, hk.2⟩ : _ ∧ k_ ≠ gb115))) (fun _ hk => hk.2) (.int .i64 ((rd_T96 l0 x12_1).f0))) (fun _ hk => hk.2) (.int .i64 ((rd_T96 l0 x12_1).f1))) (fun _ h_ => h_.1))) hb) (blk_below (g := gb114) (o := .cells #[.int .i64 ((rd_T96 l0 x12_1).f0), .int .i64 ((rd_T96 l0 x12_1).f1), .int .i64 ((rd_T96 l0 x12_1).f2), .int .i64 ((rd_T96 l0 x12_1).f3)] 96 (0, 0)) (by (with_reducible repeat (first | refine blk_drewN ?_ _ | refine blk_drew ?_ | refine blk_alloc ?_ _)); refine blk_far ?_ NB114_115.out _; (with_reducible repeat (first | refine blk_drewN ?_ _ | refine blk_drew ?_ | refine blk_alloc ?_ _)); refine blk_far ?_ NB114_115.out _; (with_reducible repeat (first | refine blk_drewN ?_ _ | refine blk_drew ?_ | refine blk_alloc ?_ _)); exact BK114.out) hb) (blk_below (g := gb115) (o := .cells #[.int .i64 ((rd_T96 l0 x12_1).f0), .int .i64 ((rd_T96 l0 x12_1).f1)] 103 (0, 0)) (by (with_reducible repeat (first | refine blk_drewN ?_ _ | refine blk_drew ?_ | refine blk_alloc ?_ _)); refine blk_put (cs := #[.int .i64 ((rd_T96 l0 x12_1).f0), .int .i64 0]) ?_ 1 _ rfl; (with_reducible repeat (first | refine blk_drewN ?_ _ | refine blk_drew ?_ | refine blk_alloc ?_ _)); refine blk_put (cs := #[.int .i64 0, .int .i64 0]) ?_ 0 _ rfl; (with_reducible repeat (first | refine blk_drewN ?_ _ | refine blk_drew ?_ | refine blk_alloc ?_ _)); exact BK115.out) hb) (below_step (bl2_ HB GE114 GE115) hb) ?_⟩; clear HO_5 BK114 BK115 HB hb; intro HO_5 BK114 BK115 HB) | ((with_reducible refine gate_callee (f := 91) rfl ?_); refine gl_ 24 Try.func91 (impl_InSpan.calls t116 t117 a1 false _ A9.out) ?_; rintro e w45 ⟨rfl, hb⟩; refine ⟨_, rfl, sh4_ (Kd.R_below (ra_ HO_5) hb) (blk_below (bk_ BK114) hb) (blk_below (bk_ BK115) hb) (below_step (bl2_ HB GE114 GE115) hb) ?_⟩; clear HO_5 BK114 BK115 HB hb; intro HO_5 BK114 BK115 HB))
     go_roundg k1
     case measure => have := HK1.out; omega
     case rel => exact ⟨(x5_1), (wrap64 (x12_1 + 1)), (by first | rfl | (simp; done) | (simp [*]; done)), H', ⟨by have := HK1.out; omega⟩, ⟨by (with_reducible repeat (first | apply Kd.R_alloc | apply Kd.R_drewN | apply Kd.R_drew)); exact Kd.R_mono HO_5.out (fun _ hk => trivial)⟩, ⟨bl2_ HB GE114 GE115⟩⟩
   ·rw [if_neg c5] at H
    have c5b0 : decide (x12_1 < (l0.length : Int)) = false := decide_eq_false c5
    clear c5
    obtain rfl := Option.some.inj H
    go_wp2
    go_ret
    exact ⟨_, by first | (rw [hRT_.out]; rfl) | exact er_, ra_ HO_5, bl_ HB⟩

/-! ### impl_Link_113: function 113 -/
def impl_Link_113.l0 : Nat → List (S103) → List (S103) → Int → Int → Option (Bool)
 | 0, _, _, _, _ => none
 | k + 1, x0, x1, x12, x13 => if x13 < x12 then (if 0 ≤ x13 then (if x13 < (x0.length : Int) then (if x13 < (x1.length : Int) then (if (!(((rd_T103 x0 x13).f0) == ((rd_T103 x1 x13).f0)) || (!(((rd_T103 x0 x13).f1) == ((rd_T103 x1 x13).f1)))) = true then (some false) else (impl_Link_113.l0 k x0 x1 x12 (wrap64 (x13 + 1)))) else (none)) else (none)) else (none)) else (some true)
def impl_Link_113.f (k : Nat) (l0 : List (S103)) (l1 : List (S103)) : Option (Bool) := if (l0.length : Int) = (l1.length : Int) then (impl_Link_113.l0 k l0 l1 (l0.length : Int) 0) else (some false)
theorem impl_Link_113.mono_l : ∀ k, (∀ y0 y1 y2 y3, LeO (impl_Link_113.l0 k y0 y1 y2 y3) (impl_Link_113.l0 (k + 1) y0 y1 y2 y3))
 | 0 => fun _ _ _ _ r h => by simp [impl_Link_113.l0] at h
 | k + 1 => by
  have ih0 := impl_Link_113.mono_l k
  ·intro y0 y1 y2 y3
   unfold impl_Link_113.l0
   repeat' first | (with_reducible first | exact ih0 _ _ _ _ | exact LeO.refl _ | exact LeO.none _ | refine LeO.ite ?_ ?_ | refine LeO.bind ?_ (fun _ => ?_)) | exact LeO.none _ | refine LeO.ite ?_ ?_ | refine LeO.bind ?_ (fun _ => ?_)
theorem impl_Link_113.mono : ∀ a0 a1 k, LeO (impl_Link_113.f k a0 a1) (impl_Link_113.f (k + 1) a0 a1) := by
 intro a0 a1 k
 have ih0 := impl_Link_113.mono_l k
 unfold impl_Link_113.f
 repeat' first | (with_reducible first | exact ih0 _ _ _ _ | exact LeO.refl _ | exact LeO.none _ | refine LeO.ite ?_ ?_ | refine LeO.bind ?_ (fun _ => ?_)) | exact LeO.none _ | refine LeO.ite ?_ ?_ | refine LeO.bind ?_ (fun _ => ?_)
set_option maxHeartbeats 8000000 in
set_option maxRecDepth 100000 in
theorem impl_Link_113.calls (k : Nat) (A0 : Option Addr) (c0 : Nat) (l0 : List (S103)) (A1 : Option Addr) (c1 : Nat) (l1 : List (S103)) (r : Bool) (w : World) (hr0 : Kd.C k103 w A0 l0.length l0) (hc0 : l0.length ≤ c0) (hr1 : Kd.C k103 w A1 l1.length l1) (hc1 : l1.length ≤ c1) (h : impl_Link_113.f k l0 l1 = some r) :
  Calls Try.prog 113 #[.slice A0 l0.length c0, .slice A1 l1.length c1] w fun e w' => e = .returned (.bool r) ∧ Drawn0 w w' := by
 have hu103 := Try.underlying103
 have HR0 := Aside0.mk hr0
 have HC0 := Aside0.mk hc0
 clear hr0 hc0
 have HR1 := Aside0.mk hr1
 have HC1 := Aside0.mk hc1
 clear hr1 hc1
 have H := h
 clear h
 unfold impl_Link_113.f at H
 by_cases c3 : (l0.length : Int) = (l1.length : Int)
 ·rw [if_pos c3] at H
  obtain ⟨c3b0, c3b1⟩ := bt_ c3
  have c3b2 : (l0.length == l1.length) = true := by first | simpa using c3 | (simp at c3 ⊢; omega)
  clear c3
  have H' := Aside0.mk H
  clear H
  go_enter Try.func113, Try.ntmps113
  go_wp2
  repeat (go_quiet (fail); try go_wp2)
  go_loopg [13] k (fun kq v13 w' => ∃ (x13_1 : Int), v13 = .int .i64 x13_1 ∧ Aside0 (impl_Link_113.l0 kq l0 l1 (l0.length : Int) x13_1 = some r) ∧ Aside0 (kq ≤ k) ∧ Drawn0 w w')
  case atStart => exact ⟨(0), (by first | rfl | (simp; done) | (simp [*]; done)), H', ⟨Nat.le_refl _⟩, by repeat (first | exact Drawn0.refl _ | apply Drawn0.step)⟩
  case round =>
   clear H'
   try clear c1
   try clear p2
   try clear c3
   try clear c3b0
   try clear c3b1
   try clear c3b2
   obtain ⟨x13_1, rfl, HA, HK1, ⟨m1, rfl⟩⟩ := hrel
   cases gk with
   | zero => exact absurd HA.out (by simp [impl_Link_113.l0])
   | succ k1 =>
    have H := HA.out
    clear HA
    simp only [impl_Link_113.l0] at H
    by_cases c4 : x13_1 < (l0.length : Int)
    ·rw [if_pos c4] at H
     have c4b0 := decide_eq_true c4
     clear c4
     replace H := ifn_ H
     obtain ⟨c5, H⟩ := H
     have c5b0 := decide_eq_true c5
     clear c5
     replace H := ifn_ H
     obtain ⟨c6, H⟩ := H
     have c6b0 := decide_eq_true c6
     clear c6
     replace H := ifn_ H
     obtain ⟨c7, H⟩ := H
     have c7b0 := decide_eq_true c7
     clear c7
     by_cases c8 : (!(((rd_T103 l0 x13_1).f0) == ((rd_T103 l1 x13_1).f0)) || (!(((rd_T103 l0 x13_1).f1) == ((rd_T103 l1 x13_1).f1)))) = true
     ·rw [if_pos c8] at H
      have c8b0 : (!(((rd_T103 l0 x13_1).f0) == ((rd_T103 l1 x13_1).f0)) || (!(((rd_T103 l0 x13_1).f1) == ((rd_T103 l1 x13_1).f1)))) = true := c8
      clear c8
      obtain rfl := Option.some.inj H
      have p123 : 0 ≤ (x13_1 : Int) := od_
      have q123 : x13_1 < (l0.length : Int) := od_
      obtain ⟨ad123, e123, hx123_0, hx123_1⟩ := at_T103 HR0.out x13_1 p123 q123
      cases e123
      replace p123 := eq_true p123
      replace q123 := eq_true q123
      have p124 : 0 ≤ (x13_1 : Int) := od_
      have q124 : x13_1 < (l1.length : Int) := od_
      obtain ⟨ad124, e124, hx124_0, hx124_1⟩ := at_T103 HR1.out x13_1 p124 q124
      cases e124
      replace p124 := eq_true p124
      replace q124 := eq_true q124
      go_wp2
      repeat (go_quiet (fail); try go_wp2)
      go_ret
      exact ⟨by first | rfl | (simp; done) | (simp [*]; done), by repeat (first | exact Drawn0.refl _ | apply Drawn0.step)⟩
     ·rw [if_neg c8] at H
      have c8b0 : (!(((rd_T103 l0 x13_1).f0) == ((rd_T103 l1 x13_1).f0)) || (!(((rd_T103 l0 x13_1).f1) == ((rd_T103 l1 x13_1).f1)))) = false := by simpa using c8
      clear c8
      have H' := Aside0.mk H
      clear H
      have p123 : 0 ≤ (x13_1 : Int) := od_
      have q123 : x13_1 < (l0.length : Int) := od_
      obtain ⟨ad123, e123, hx123_0, hx123_1⟩ := at_T103 HR0.out x13_1 p123 q123
      cases e123
      replace p123 := eq_true p123
      replace q123 := eq_true q123
      have p124 : 0 ≤ (x13_1 : Int) := od_
      have q124 : x13_1 < (l1.length : Int) := od_
      obtain ⟨ad124, e124, hx124_0, hx124_1⟩ := at_T103 HR1.out x13_1 p124 q124
      cases e124
      replace p124 := eq_true p124
      replace q124 := eq_true q124
      go_wp2
      repeat (go_quiet (fail); try go_wp2)
      go_roundg k1
      case measure => have := HK1.out; omega
      case rel => exact ⟨(wrap64 (x13_1 + 1)), (by first | rfl | (simp; done) | (simp [*]; done)), H', ⟨by have := HK1.out; omega⟩, by repeat (first | exact Drawn0.refl _ | apply Drawn0.step)⟩
    ·rw [if_neg c4] at H
     have c4b0 : decide (x13_1 < (l0.length : Int)) = false := decide_eq_false c4
     clear c4
     obtain rfl := Option.some.inj H
     go_wp2
     repeat (go_quiet (fail); try go_wp2)
     go_ret
     exact ⟨by first | rfl | (simp; done) | (simp [*]; done), by repeat (first | exact Drawn0.refl _ | apply Drawn0.step)⟩
 ·rw [if_neg c3] at H
  obtain ⟨c3b0, c3b1⟩ := bn_ c3
  have c3b2 : (l0.length == l1.length) = false := by first | simpa using c3 | (simp at c3 ⊢; omega)
  obtain rfl := Option.some.inj H
  go_enter Try.func113, Try.ntmps113
  go_wp2
  repeat (go_quiet (fail); try go_wp2)
  go_ret
  exact ⟨by first | rfl | (simp; done) | (simp [*]; done), by repeat (first | exact Drawn0.refl _ | apply Drawn0.step)⟩

/-! ### impl_SameLinks: function 61 -/
def impl_SameLinks.f (k : Nat) (l0 : List (S103)) (l1 : List (S103)) : Option (Bool) := (impl_Link_113.f k l0 l1).bind fun t125 => (some t125)
theorem impl_SameLinks.mono : ∀ a0 a1 k, LeO (impl_SameLinks.f k a0 a1) (impl_SameLinks.f (k + 1) a0 a1) := by
 intro a0 a1 k
 unfold impl_SameLinks.f
 repeat' first | (with_reducible first | exact impl_Link_113.mono _ _ _ | exact LeO.refl _ | exact LeO.none _ | refine LeO.ite ?_ ?_ | refine LeO.bind ?_ (fun _ => ?_)) | exact LeO.none _ | refine LeO.ite ?_ ?_ | refine LeO.bind ?_ (fun _ => ?_)
set_option maxHeartbeats 8000000 in
set_option maxRecDepth 100000 in
theorem impl_SameLinks.calls (k : Nat) (A0 : Option Addr) (c0 : Nat) (l0 : List (S103)) (A1 : Option Addr) (c1 : Nat) (l1 : List (S103)) (r : Bool) (w : World) (hr0 : Kd.C k103 w A0 l0.length l0) (hc0 : l0.length ≤ c0) (hr1 : Kd.C k103 w A1 l1.length l1) (hc1 : l1.length ≤ c1) (h : impl_SameLinks.f k l0 l1 = some r) :
  Calls Try.prog 61 #[.slice A0 l0.length c0, .slice A1 l1.length c1] w fun e w' => e = .returned (.bool r) ∧ Drawn0 w w' := by
 have HR0 := Aside0.mk hr0
 have HC0 := Aside0.mk hc0
 clear hr0 hc0
 have HR1 := Aside0.mk hr1
 have HC1 := Aside0.mk hc1
 clear hr1 hc1
 have H := h
 clear h
 unfold impl_SameLinks.f at H
 replace H := bs_ H
 obtain ⟨t125, A3, H⟩ := H
 obtain rfl := Option.some.inj H
 go_enter Try.func61, Try.ntmps61
 go_wp2_with (first | ((with_reducible refine gate_callee (f := 113) rfl ?_); refine gl_ 7 Try.func113 (impl_Link_113.calls k _ _ l0 _ _ l1 t125 _ (cq_ HR0) HC0.out (cq_ HR1) HC1.out A3.out) ?_; rintro e w' ⟨rfl, ⟨nd, rfl⟩⟩; refine ⟨_, rfl, ?_⟩))
 go_ret
 exact ⟨by first | rfl | (simp; done) | (simp [*]; done), by repeat (first | exact Drawn0.refl _ | apply Drawn0.step)⟩

/-! ### impl_ChangesOf: function 45 -/
def impl_ChangesOf.l0 : Nat → List (S96) → Int → Int → List Int → Int → Option (List Int)
 | 0, _, _, _, _, _ => none
 | k + 1, x0, x1, x2, x7, x8 => if x8 < (mn x2 1000) then (if x8 > x1 then ((impl_LinksAt.f k x0 x8).bind fun t129 => ((impl_LinksAt.f k x0 (wrap64 (x8 - 1))).bind fun t132 => ((impl_SameLinks.f k t129 t132).bind fun t135 => (if t135 = true then (impl_ChangesOf.l0 k x0 x1 x2 x7 (wrap64 (x8 + 1))) else (if x7.length < 17592186044416 then (impl_ChangesOf.l0 k x0 x1 x2 (x7 ++ [x8]) (wrap64 (x8 + 1))) else (none)))))) else (impl_ChangesOf.l0 k x0 x1 x2 x7 (wrap64 (x8 + 1)))) else (some x7)
def impl_ChangesOf.f (k : Nat) (l0 : List (S96)) (a1 : Int) (a2 : Int) : Option (List Int) := impl_ChangesOf.l0 k l0 a1 a2 (([] : List Int)) 1
theorem impl_ChangesOf.mono_l : ∀ k, (∀ y0 y1 y2 y3 y4, LeO (impl_ChangesOf.l0 k y0 y1 y2 y3 y4) (impl_ChangesOf.l0 (k + 1) y0 y1 y2 y3 y4))
 | 0 => fun _ _ _ _ _ r h => by simp [impl_ChangesOf.l0] at h
 | k + 1 => by
  have ih0 := impl_ChangesOf.mono_l k
  ·intro y0 y1 y2 y3 y4
   unfold impl_ChangesOf.l0
   repeat' first | (with_reducible first | exact ih0 _ _ _ _ _ | exact impl_LinksAt.mono _ _ _ | exact impl_SameLinks.mono _ _ _ | exact LeO.refl _ | exact LeO.none _ | refine LeO.ite ?_ ?_ | refine LeO.bind ?_ (fun _ => ?_)) | exact LeO.none _ | refine LeO.ite ?_ ?_ | refine LeO.bind ?_ (fun _ => ?_)
theorem impl_ChangesOf.mono : ∀ a0 a1 a2 k, LeO (impl_ChangesOf.f k a0 a1 a2) (impl_ChangesOf.f (k + 1) a0 a1 a2) := by
 intro a0 a1 a2 k
 have ih0 := impl_ChangesOf.mono_l k
 unfold impl_ChangesOf.f
 repeat' first | (with_reducible first | exact ih0 _ _ _ _ _ | exact impl_LinksAt.mono _ _ _ | exact impl_SameLinks.mono _ _ _ | exact LeO.refl _ | exact LeO.none _ | refine LeO.ite ?_ ?_ | refine LeO.bind ?_ (fun _ => ?_)) | exact LeO.none _ | refine LeO.ite ?_ ?_ | refine LeO.bind ?_ (fun _ => ?_)
set_option maxHeartbeats 8000000 in
set_option maxRecDepth 100000 in
theorem impl_ChangesOf.calls (k : Nat) (A0 : Option Addr) (c0 : Nat) (l0 : List (S96)) (a1 : Int) (a2 : Int) (r : List Int) (w : World) (hr0 : Kd.C k96 w A0 l0.length l0) (hc0 : l0.length ≤ c0) (h : impl_ChangesOf.f k l0 a1 a2 = some r) :
  Calls Try.prog 45 #[.slice A0 l0.length c0, .int .i64 a1, .int .i64 a2] w fun e w' => ∃ v0_ : Value, e = .returned (v0_) ∧ Kd.R (Kd.int .i64) 3 w' w.heap.size (fun _ => True) v0_ r ∧ Below w.heap.size w w' := by
 have HR0 := Aside0.mk hr0
 have HC0 := Aside0.mk hc0
 clear hr0 hc0
 have HB := Aside0.mk (Below.refl w.heap.size w)
 have H := h
 clear h
 unfold impl_ChangesOf.f at H
 replace H : ∃ y_ : List Int, Aside0 (y_ = (([] : List Int))) ∧ (impl_ChangesOf.l0 k l0 a1 a2 y_ 1) = some r := ⟨_, ⟨rfl⟩, yh_ H⟩
 obtain ⟨y126, Ny126, H⟩ := H
 have H' := Aside0.mk H
 clear H
 go_enter Try.func45, Try.ntmps45
 go_wp2_with (first | ((with_reducible refine gate_dst (N := 9) rfl ?_); refine Kd.R_lit (Kd.int .i64) _ 3 ?hg (N := 9) ?hd (xs := ([] : List Int)) (inner := []) (ok := fun _ => True) (okp := fun _ => True) ?hr ?hp (fun _ hk => hk) trivial (Below.refl _ _) (Nat.le_refl _) (by simp) ?_; (case hd => rfl); (case hg => rfl); (case hr => first | (go_simp; done) | (go_simp; rfl)); (case hp => exact (Reps.none _ _)); intro v127 w4 ho5 hb hg_ hnew_; clear hg_ hnew_; (first | rw [← Ny126.out] at ho5 | (simp only [Int.reduceToNat] at ho5; rw [← Ny126.out] at ho5)); refine sh2_ (Kd.R_lower ho5 (below_size (bl_ HB))) (below_step (bl_ HB) hb) ?_; clear HB hb ho5; intro HO128 HB))
 go_loopg [7, 8] k (fun kq v7 v8 w' => ∃ (x7_1 : List Int) (x8_1 : Int), v8 = .int .i64 x8_1 ∧ Aside0 (impl_ChangesOf.l0 kq l0 a1 a2 x7_1 x8_1 = some r) ∧ Aside0 (kq ≤ k) ∧ Aside0 (Kd.R (Kd.int .i64) 3 w' w.heap.size (fun _ => True) v7 x7_1) ∧ Aside0 (Below w.heap.size w w'))
 case atStart => exact ⟨(y126), (1), (by first | rfl | (simp; done) | (simp [*]; done)), H', ⟨Nat.le_refl _⟩, ⟨ra_ HO128⟩, ⟨bl_ HB⟩⟩
 case round =>
  clear H'
  try clear p2
  try clear c4
  obtain ⟨x7_1, x8_1, rfl, HA, HK1, HO_7, HB⟩ := hrel
  cases gk with
  | zero => exact absurd HA.out (by simp [impl_ChangesOf.l0])
  | succ k1 =>
   have H := HA.out
   clear HA
   simp only [impl_ChangesOf.l0] at H
   obtain ⟨ji6, hji6⟩ : ∃ j_ : Int, (mn a2 1000) = j_ := ⟨_, rfl⟩
   replace H : (if x8_1 < (ji6) then (if x8_1 > a1 then ((impl_LinksAt.f k1 l0 x8_1).bind fun t129 => ((impl_LinksAt.f k1 l0 (wrap64 (x8_1 - 1))).bind fun t132 => ((impl_SameLinks.f k1 t129 t132).bind fun t135 => (if t135 = true then (impl_ChangesOf.l0 k1 l0 a1 a2 x7_1 (wrap64 (x8_1 + 1))) else (if x7_1.length < 17592186044416 then (impl_ChangesOf.l0 k1 l0 a1 a2 (x7_1 ++ [x8_1]) (wrap64 (x8_1 + 1))) else (none)))))) else (impl_ChangesOf.l0 k1 l0 a1 a2 x7_1 (wrap64 (x8_1 + 1)))) else (some x7_1)) = some r := by first | (rw [hji6] at H; exact H) | (simp only [hji6] at H ⊢; exact H)
   have hji6_ : (if 1000 < a2 then 1000 else a2) = ji6 := hji6
   by_cases c7 : x8_1 < (ji6)
   ·rw [if_pos c7] at H
    have c7b0 := decide_eq_true c7
    clear c7
    by_cases c8 : x8_1 > a1
    ·rw [if_pos c8] at H
     have c8b0 : decide (a1 < x8_1) = true := decide_eq_true c8
     clear c8
     replace H := bs_ H
     obtain ⟨t129, A9, H⟩ := H
     replace H := bs_ H
     obtain ⟨t132, A10, H⟩ := H
     replace H := bs_ H
     obtain ⟨t135, A11, H⟩ := H
     by_cases c12 : t135 = true
     ·subst c12
      rw [if_pos rfl] at H
      have H' := Aside0.mk H
      clear H
      go_wp2_with (first | (go_at_call 34; (with_reducible refine (impl_LinksAt.calls k1 _ _ l0 x8_1 t129 _ ?side1 ?side2 A9.out).mono ?_); (case side1 => exact ck_ HR0 HB); (case side2 => exact HC0.out); rintro e w13 ⟨v130, rfl, ho0, hb⟩; refine sh3_ (Kd.R_below (ra_ HO_7) hb) (Kd.R_lower ho0 (below_size (bl_ HB))) (below_step (bl_ HB) hb) ?_; clear HO_7 HB hb ho0; intro HO_7 HO131 HB) | (go_at_call 34; (with_reducible refine (impl_LinksAt.calls k1 _ _ l0 (wrap64 (x8_1 - 1)) t132 _ ?side1 ?side2 A10.out).mono ?_); (case side1 => exact ck_ HR0 HB); (case side2 => exact HC0.out); rintro e w14 ⟨v133, rfl, ho0, hb⟩; refine sh4_ (Kd.R_below (ra_ HO_7) hb) (Kd.R_elder' (ra_ HO131) (Kd.R_base ho0) hb) (Kd.R_lower (Kd.R_new' ho0 (Kd.R_lt (ra_ HO131))) (below_size (bl_ HB))) (below_step (bl_ HB) hb) ?_; clear HO_7 HO131 HB hb ho0; intro HO_7 HO131 HO134 HB; obtain ⟨Ao15, co15, eo15⟩ := Kd.R_slice HO131.out; subst eo15; obtain ⟨Ao16, co16, eo16⟩ := Kd.R_slice HO134.out; subst eo16) | (go_at_call 61; (with_reducible refine (impl_SameLinks.calls k1 _ _ t129 _ _ t132 true _ ?side1 ?side2 ?side3 ?side4 A11.out).mono ?_); (case side1 => repeat (first | exact (Kd.R_reads' HO131.out).2.2 | (with_reducible refine Kd.C_alloc ?_ _) | (with_reducible refine Kd.C_drewN ?_ _) | (with_reducible refine Kd.C_drew ?_))); (case side2 => exact (Kd.R_reads' HO131.out).2.1); (case side3 => repeat (first | exact (Kd.R_reads' HO134.out).2.2 | (with_reducible refine Kd.C_alloc ?_ _) | (with_reducible refine Kd.C_drewN ?_ _) | (with_reducible refine Kd.C_drew ?_))); (case side4 => exact (Kd.R_reads' HO134.out).2.1); rintro e w' ⟨rfl, ⟨nd, rfl⟩⟩))
      go_roundg k1
      case measure => have := HK1.out; omega
      case rel => exact ⟨(x7_1), (wrap64 (x8_1 + 1)), (by first | rfl | (simp; done) | (simp [*]; done)), H', ⟨by have := HK1.out; omega⟩, ⟨ra_ HO_7⟩, ⟨bl_ HB⟩⟩
     ·replace c12 := Bool.eq_false_iff.mpr c12
      subst c12
      have H1 : (if x7_1.length < 17592186044416 then (impl_ChangesOf.l0 k1 l0 a1 a2 (x7_1 ++ [x8_1]) (wrap64 (x8_1 + 1))) else (none)) = some r := by rw [if_neg (show ¬ (false = true) by decide)] at H; exact H
      clear H
      have H := H1
      clear H1
      replace H := ifn_ H
      obtain ⟨c17, H⟩ := H
      have LMc17 := Aside0.mk c17
      clear c17
      replace H : ∃ y_ : List Int, Aside0 (y_ = (x7_1 ++ [x8_1])) ∧ (impl_ChangesOf.l0 k1 l0 a1 a2 y_ (wrap64 (x8_1 + 1))) = some r := ⟨_, ⟨rfl⟩, yh_ H⟩
      obtain ⟨y136, Ny136, H⟩ := H
      have H' := Aside0.mk H
      clear H
      go_wp2_with (first | (go_at_call 34; (with_reducible refine (impl_LinksAt.calls k1 _ _ l0 x8_1 t129 _ ?side1 ?side2 A9.out).mono ?_); (case side1 => exact ck_ HR0 HB); (case side2 => exact HC0.out); rintro e w18 ⟨v130, rfl, ho0, hb⟩; refine sh3_ (Kd.R_below (ra_ HO_7) hb) (Kd.R_lower ho0 (below_size (bl_ HB))) (below_step (bl_ HB) hb) ?_; clear HO_7 HB hb ho0; intro HO_7 HO131 HB) | (go_at_call 34; (with_reducible refine (impl_LinksAt.calls k1 _ _ l0 (wrap64 (x8_1 - 1)) t132 _ ?side1 ?side2 A10.out).mono ?_); (case side1 => exact ck_ HR0 HB); (case side2 => exact HC0.out); rintro e w19 ⟨v133, rfl, ho0, hb⟩; refine sh4_ (Kd.R_below (ra_ HO_7) hb) (Kd.R_elder' (ra_ HO131) (Kd.R_base ho0) hb) (Kd.R_lower (Kd.R_new' ho0 (Kd.R_lt (ra_ HO131))) (below_size (bl_ HB))) (below_step (bl_ HB) hb) ?_; clear HO_7 HO131 HB hb ho0; intro HO_7 HO131 HO134 HB; obtain ⟨Ao20, co20, eo20⟩ := Kd.R_slice HO131.out; subst eo20; obtain ⟨Ao21, co21, eo21⟩ := Kd.R_slice HO134.out; subst eo21) | (go_at_call 61; (with_reducible refine (impl_SameLinks.calls k1 _ _ t129 _ _ t132 false _ ?side1 ?side2 ?side3 ?side4 A11.out).mono ?_); (case side1 => repeat (first | exact (Kd.R_reads' HO131.out).2.2 | (with_reducible refine Kd.C_alloc ?_ _) | (with_reducible refine Kd.C_drewN ?_ _) | (with_reducible refine Kd.C_drew ?_))); (case side2 => exact (Kd.R_reads' HO131.out).2.1); (case side3 => repeat (first | exact (Kd.R_reads' HO134.out).2.2 | (with_reducible refine Kd.C_alloc ?_ _) | (with_reducible refine Kd.C_drewN ?_ _) | (with_reducible refine Kd.C_drew ?_))); (case side4 => exact (Kd.R_reads' HO134.out).2.1); rintro e w' ⟨rfl, ⟨nd, rfl⟩⟩) | ((with_reducible refine gate_builtin (b := .append) (xs := #[.tmp 30, .tmp 32]) rfl ?_); at_builtin; refine Kd.R_append (Kd.int .i64) (w0 := w) w.heap.size rfl (.tmp 30) (.tmp 32) 24 3 (.int .i64 0) 8 rfl Try.underlying24 info3 rfl (by decide) (by omega) u7 x7_1 x8_1 [.int .i64 x8_1] (fun _ => True) (fun _ => False) rfl rfl ?aP (fun _ hk => hk.elim) ?aF ?aO ?aB ?aS ?aL ?_; (case aP => exact rfl); (case aB => exact (bl_ HB)); (case aF => exact (fun _ _ => trivial)); (case aO => exact (ra_ HO_7)); (case aS => exact (below_size (bl_ HB))); (case aL => have := LMc17.out; omega); intro v137 w22 ho hb hg hat; rw [← Ny136.out] at ho; refine sh4_ (Kd.R_over' (ra_ HO131) (Kd.R_typed (ra_ HO_7)) (by decide) hg) (Kd.R_over' (ra_ HO134) (Kd.R_typed (ra_ HO_7)) (by decide) hg) hb ho ?_; clear HO131 HO134 HB HO_7 ho hb hg hat; intro HO131 HO134 HB HO138))
      go_roundg k1
      case measure => have := HK1.out; omega
      case rel => exact ⟨(y136), (wrap64 (x8_1 + 1)), (by first | rfl | (simp; done) | (simp [*]; done)), H', ⟨by have := HK1.out; omega⟩, ⟨ra_ HO138⟩, ⟨bl_ HB⟩⟩
    ·rw [if_neg c8] at H
     have c8b0 : decide (a1 < x8_1) = false := decide_eq_false c8
     clear c8
     have H' := Aside0.mk H
     clear H
     go_wp2
     go_roundg k1
     case measure => have := HK1.out; omega
     case rel => exact ⟨(x7_1), (wrap64 (x8_1 + 1)), (by first | rfl | (simp; done) | (simp [*]; done)), H', ⟨by have := HK1.out; omega⟩, ⟨ra_ HO_7⟩, ⟨bl_ HB⟩⟩
   ·rw [if_neg c7] at H
    have c7b0 : decide (x8_1 < (ji6)) = false := decide_eq_false c7
    clear c7
    obtain rfl := Option.some.inj H
    go_wp2
    go_ret
    exact ⟨_, by first | rfl | (rw [hRT_.out]; rfl) | (simp [errW_none, errW_some] <;> rfl) | (simp only [← hji6]; first | rfl | (simp [errW_none, errW_some] <;> rfl)) | (simp [*, errW_none, errW_some] <;> rfl), ra_ HO_7, bl_ HB⟩

/-! ### impl_PiecesOf: function 50 -/
def impl_PiecesOf.l0 : Nat → Int → List (S78) → List Int → Int → Int → Option ((List (S78)))
 | 0, _, _, _, _, _ => none
 | k + 1, x1, x7, x23, x24, x25 => if x25 < x24 then (if 0 ≤ x25 then (if x25 < (x23.length : Int) then (if x7.length < 8796093022208 then (impl_PiecesOf.l0 k (rd x23 x25) (x7 ++ [(⟨x1, rd x23 x25⟩ : S78)]) x23 x24 (wrap64 (x25 + 1))) else (none)) else (none)) else (none)) else (some x7)
def impl_PiecesOf.f (k : Nat) (l0 : List (S96)) (a1 : Int) (a2 : Int) : Option ((List (S78))) := (some (([] : List (S78)) : List (S78))).bind fun y139 => ((impl_IsSpan.f a1 a2).bind fun t142 => (if t142 = true then ((impl_ChangesOf.f k l0 a1 a2).bind fun t143 => (if t143.length < 17592186044416 then ((some (t143 ++ [a2] : List Int)).bind fun y146 => (impl_PiecesOf.l0 k a1 y139 y146 (y146.length : Int) 0)) else (none))) else (some y139)))
theorem impl_PiecesOf.mono_l : ∀ k, (∀ y0 y1 y2 y3 y4, LeO (impl_PiecesOf.l0 k y0 y1 y2 y3 y4) (impl_PiecesOf.l0 (k + 1) y0 y1 y2 y3 y4))
 | 0 => fun _ _ _ _ _ r h => by simp [impl_PiecesOf.l0] at h
 | k + 1 => by
  have ih0 := impl_PiecesOf.mono_l k
  ·intro y0 y1 y2 y3 y4
   unfold impl_PiecesOf.l0
   repeat' first | (with_reducible first | exact ih0 _ _ _ _ _ | exact impl_ChangesOf.mono _ _ _ _ | exact LeO.refl _ | exact LeO.none _ | refine LeO.ite ?_ ?_ | refine LeO.bind ?_ (fun _ => ?_)) | exact LeO.none _ | refine LeO.ite ?_ ?_ | refine LeO.bind ?_ (fun _ => ?_)
theorem impl_PiecesOf.mono : ∀ a0 a1 a2 k, LeO (impl_PiecesOf.f k a0 a1 a2) (impl_PiecesOf.f (k + 1) a0 a1 a2) := by
 intro a0 a1 a2 k
 have ih0 := impl_PiecesOf.mono_l k
 unfold impl_PiecesOf.f
 repeat' first | (with_reducible first | exact ih0 _ _ _ _ _ | exact impl_ChangesOf.mono _ _ _ _ | exact LeO.refl _ | exact LeO.none _ | refine LeO.ite ?_ ?_ | refine LeO.bind ?_ (fun _ => ?_)) | exact LeO.none _ | refine LeO.ite ?_ ?_ | refine LeO.bind ?_ (fun _ => ?_)
set_option maxHeartbeats 8000000 in
set_option maxRecDepth 100000 in
theorem impl_PiecesOf.calls (k : Nat) (A0 : Option Addr) (c0 : Nat) (l0 : List (S96)) (a1 : Int) (a2 : Int) (r : List (S78)) (w : World) (hr0 : Kd.C k96 w A0 l0.length l0) (hc0 : l0.length ≤ c0) (h : impl_PiecesOf.f k l0 a1 a2 = some r) :
  Calls Try.prog 50 #[.slice A0 l0.length c0, .int .i64 a1, .int .i64 a2] w fun e w' => ∃ v0_ : Value, e = .returned (v0_) ∧ Kd.R k78 78 w' w.heap.size (fun _ => True) v0_ r ∧ Below w.heap.size w w' := by
 have hu78 := Try.underlying78
 have HR0 := Aside0.mk hr0
 have HC0 := Aside0.mk hc0
 clear hr0 hc0
 have HB := Aside0.mk (Below.refl w.heap.size w)
 have H := h
 clear h
 unfold impl_PiecesOf.f at H
 replace H : ∃ y_ : List (S78), Aside0 (y_ = (([] : List (S78)))) ∧ ((impl_IsSpan.f a1 a2).bind fun t142 => (if t142 = true then ((impl_ChangesOf.f k l0 a1 a2).bind fun t143 => (if t143.length < 17592186044416 then ((some (t143 ++ [a2] : List Int)).bind fun y146 => (impl_PiecesOf.l0 k a1 y_ y146 (y146.length : Int) 0)) else (none))) else (some y_))) = some r := ⟨_, ⟨rfl⟩, yh_ H⟩
 obtain ⟨y139, Ny139, H⟩ := H
 replace H := bs_ H
 obtain ⟨t142, A4, H⟩ := H
 by_cases c5 : t142 = true
 ·subst c5
  rw [if_pos rfl] at H
  replace H := bs_ H
  obtain ⟨t143, A6, H⟩ := H
  replace H := ifn_ H
  obtain ⟨c7, H⟩ := H
  have LMc7 := Aside0.mk c7
  clear c7
  replace H : ∃ y_ : List Int, Aside0 (y_ = (t143 ++ [a2])) ∧ (impl_PiecesOf.l0 k a1 y139 y_ (y_.length : Int) 0) = some r := ⟨_, ⟨rfl⟩, yh_ H⟩
  obtain ⟨y146, Ny146, H⟩ := H
  have H' := Aside0.mk H
  clear H
  go_enter Try.func50, Try.ntmps50
  go_wp2_with (first | ((with_reducible refine gate_dst (N := 10) rfl ?_); refine Kd.R_lit k78 _ 78 ?hg (N := 10) ?hd (xs := ([] : List (S78))) (inner := []) (ok := fun _ => True) (okp := fun _ => True) ?hr ?hp (fun _ hk => hk) trivial (Below.refl _ _) (Nat.le_refl _) (by simp) ?_; (case hd => rfl); (case hg => rfl); (case hr => first | (go_simp; done) | (go_simp; rfl)); (case hp => exact (Reps.none _ _)); intro v140 w8 ho9 hb hg_ hnew_; clear hg_ hnew_; (first | rw [← Ny139.out] at ho9 | (simp only [Int.reduceToNat] at ho9; rw [← Ny139.out] at ho9)); refine sh2_ (Kd.R_lower ho9 (below_size (bl_ HB))) (below_step (bl_ HB) hb) ?_; clear HB hb ho9; intro HO141 HB) | ((with_reducible refine gate_callee (f := 62) rfl ?_); refine gl_ 14 Try.func62 (impl_IsSpan.calls a1 a2 true _ A4.out) ?_; rintro e w10 ⟨rfl, hb⟩; refine ⟨_, rfl, sh2_ (Kd.R_below (ra_ HO141) hb) (below_step (bl_ HB) hb) ?_⟩; clear HO141 HB hb; intro HO141 HB) | ((with_reducible refine gate_callee (f := 45) rfl ?_); refine gl_ 20 Try.func45 (impl_ChangesOf.calls k _ _ l0 a1 a2 t143 _ (ck_ HR0 HB) HC0.out A6.out) ?_; rintro e w11 ⟨v144, rfl, ho0, hb⟩; refine ⟨_, rfl, sh3_ (Kd.R_below (ra_ HO141) hb) (Kd.R_lower ho0 (below_size (bl_ HB))) (below_step (bl_ HB) hb) ?_⟩; clear HO141 HB hb ho0; intro HO141 HO145 HB) | ((with_reducible refine gate_builtin (b := .append) (xs := #[.tmp 20, .tmp 22]) rfl ?_); at_builtin; refine Kd.R_append (Kd.int .i64) (w0 := w) w.heap.size rfl (.tmp 20) (.tmp 22) 24 3 (.int .i64 0) 8 rfl Try.underlying24 info3 rfl (by decide) (by omega) v144 t143 a2 [.int .i64 a2] (fun _ => True) (fun _ => False) rfl rfl ?aP (fun _ hk => hk.elim) ?aF ?aO ?aB ?aS ?aL ?_; (case aP => exact rfl); (case aB => exact (bl_ HB)); (case aF => exact (fun _ _ => trivial)); (case aO => exact (ra_ HO145)); (case aS => exact (below_size (bl_ HB))); (case aL => have := LMc7.out; omega); intro v147 w12 ho hb hg hat; rw [← Ny146.out] at ho; refine sh3_ (Kd.R_over' (ra_ HO141) (Kd.R_typed (ra_ HO145)) (by decide) hg) hb ho ?_; clear HO141 HB HO145 ho hb hg hat; intro HO141 HB HO148; obtain ⟨Ao13, co13, eo13⟩ := Kd.R_slice HO148.out; subst eo13))
  go_loopg [1, 7, 25] k (fun kq v1 v7 v25 w' => ∃ (x1_1 : Int) (x7_1 : List (S78)) (x25_1 : Int), v1 = .int .i64 x1_1 ∧ v25 = .int .i64 x25_1 ∧ Aside0 (impl_PiecesOf.l0 kq x1_1 x7_1 y146 (y146.length : Int) x25_1 = some r) ∧ Aside0 (kq ≤ k) ∧ Aside0 (Kd.R k78 78 w' w.heap.size (fun _ => True) v7 x7_1) ∧ Aside0 (Kd.R (Kd.int .i64) 3 w' w.heap.size (fun _ => True) (.slice Ao13 y146.length co13) y146) ∧ Aside0 (Below w.heap.size w w'))
  case atStart => exact ⟨(a1), (y139), (0), (by first | rfl | (simp; done) | (simp [*]; done)), (by first | rfl | (simp; done) | (simp [*]; done)), H', ⟨Nat.le_refl _⟩, ⟨ra_ HO141⟩, ⟨ra_ HO148⟩, ⟨bl_ HB⟩⟩
  case round =>
   clear H'
   try clear p2
   try clear c4
   try clear c5
   try clear c6
   try clear c7
   obtain ⟨x1_1, x7_1, x25_1, rfl, rfl, HA, HK1, HO_7, HO_23, HB⟩ := hrel
   cases gk with
   | zero => exact absurd HA.out (by simp [impl_PiecesOf.l0])
   | succ k1 =>
    have H := HA.out
    clear HA
    simp only [impl_PiecesOf.l0] at H
    by_cases c14 : x25_1 < (y146.length : Int)
    ·rw [if_pos c14] at H
     have c14b0 := decide_eq_true c14
     clear c14
     replace H := ifn_ H
     obtain ⟨c15, H⟩ := H
     have c15b0 := decide_eq_true c15
     clear c15
     replace H := ifn_ H
     obtain ⟨c16, H⟩ := H
     have c16b0 := decide_eq_true c16
     clear c16
     replace H := ifn_ H
     obtain ⟨c17, H⟩ := H
     have LMc17 := Aside0.mk c17
     clear c17
     replace H : ∃ y_ : List (S78), Aside0 (y_ = (x7_1 ++ [(⟨x1_1, rd y146 x25_1⟩ : S78)])) ∧ (impl_PiecesOf.l0 k1 (rd y146 x25_1) y_ y146 (y146.length : Int) (wrap64 (x25_1 + 1))) = some r := ⟨_, ⟨rfl⟩, yh_ H⟩
     obtain ⟨y150, Ny150, H⟩ := H
     have H' := Aside0.mk H
     clear H
     have p149 : 0 ≤ (x25_1 : Int) := od_
     have q149 : x25_1 < (y146.length : Int) := od_
     obtain ⟨ad149, e149, hx149_0⟩ := Kd.at_int (Kd.R_reads' HO_23.out).2.2 x25_1 p149 q149
     cases e149
     replace p149 := eq_true p149
     replace q149 := eq_true q149
     go_wp2_with (first | ((with_reducible refine gate_builtin (b := .append) (xs := #[.tmp 29, .tmp 33]) rfl ?_); at_builtin; refine Kd.R_append k78 (w0 := w) w.heap.size rfl (.tmp 29) (.tmp 33) 64 78 (.agg #[(.int .i64 0), (.int .i64 0)]) 16 rfl Try.underlying64 info78 rfl (by decide) (by omega) u7 x7_1 (⟨x1_1, rd y146 x25_1⟩ : S78) [.int .i64 x1_1, .int .i64 (rd y146 x25_1)] (fun _ => True) (fun _ => False) rfl rfl ?aP (fun _ hk => hk.elim) ?aF ?aO ?aB ?aS ?aL ?_; (case aP => exact k78_mkM _ _ _ (⟨x1_1, rd y146 x25_1⟩ : S78)); (case aB => exact (bl_ HB)); (case aF => exact (fun _ _ => trivial)); (case aO => exact (ra_ HO_7)); (case aS => exact (below_size (bl_ HB))); (case aL => have := LMc17.out; omega); intro v151 w18 ho hb hg hat; rw [← Ny150.out] at ho; refine sh3_ (Kd.R_over' (ra_ HO_23) (Kd.R_typed (ra_ HO_7)) (by decide) hg) hb ho ?_; clear HO_23 HB HO_7 ho hb hg hat; intro HO_23 HB HO152))
     go_roundg k1
     case measure => have := HK1.out; omega
     case rel => exact ⟨(rd y146 x25_1), (y150), (wrap64 (x25_1 + 1)), (by first | rfl | (simp; done) | (simp [*]; done)), (by first | rfl | (simp; done) | (simp [*]; done)), H', ⟨by have := HK1.out; omega⟩, ⟨ra_ HO152⟩, ⟨ra_ HO_23⟩, ⟨bl_ HB⟩⟩
    ·rw [if_neg c14] at H
     have c14b0 := decide_eq_false c14
     clear c14
     obtain rfl := Option.some.inj H
     go_wp2
     go_ret
     exact ⟨_, by first | (rw [hRT_.out]; rfl) | exact er_, ra_ HO_7, bl_ HB⟩
 ·replace c5 := Bool.eq_false_iff.mpr c5
  subst c5
  have H1 : (some y139) = some r := by rw [if_neg (show ¬ (false = true) by decide)] at H; exact H
  clear H
  have H := H1
  clear H1
  obtain rfl := Option.some.inj H
  go_enter Try.func50, Try.ntmps50
  go_wp2_with (first | ((with_reducible refine gate_dst (N := 10) rfl ?_); refine Kd.R_lit k78 _ 78 ?hg (N := 10) ?hd (xs := ([] : List (S78))) (inner := []) (ok := fun _ => True) (okp := fun _ => True) ?hr ?hp (fun _ hk => hk) trivial (Below.refl _ _) (Nat.le_refl _) (by simp) ?_; (case hd => rfl); (case hg => rfl); (case hr => first | (go_simp; done) | (go_simp; rfl)); (case hp => exact (Reps.none _ _)); intro v140 w19 ho20 hb hg_ hnew_; clear hg_ hnew_; (first | rw [← Ny139.out] at ho20 | (simp only [Int.reduceToNat] at ho20; rw [← Ny139.out] at ho20)); refine sh2_ (Kd.R_lower ho20 (below_size (bl_ HB))) (below_step (bl_ HB) hb) ?_; clear HB hb ho20; intro HO141 HB) | ((with_reducible refine gate_callee (f := 62) rfl ?_); refine gl_ 14 Try.func62 (impl_IsSpan.calls a1 a2 false _ A4.out) ?_; rintro e w21 ⟨rfl, hb⟩; refine ⟨_, rfl, sh2_ (Kd.R_below (ra_ HO141) hb) (below_step (bl_ HB) hb) ?_⟩; clear HO141 HB hb; intro HO141 HB))
  go_ret
  exact ⟨_, by first | (rw [hRT_.out]; rfl) | exact er_, ra_ HO141, bl_ HB⟩

/-! ### sc108: slices.Sort, then slices.Compact, by the kit's contracts -/
def sc108.f (l : List Int) : Option (List Int) := if l.length < 4611686018427387904 then some (Go.Lib.compact (l.mergeSort fun x y => decide (x ≤ y))) else none
open Go.Shelf in
def sortL107_ren : Go.Shelf.Ren := ⟨fun | 5 => 107 | 8 => 126 | 7 => 125 | 19 => 142 | 20 => 143 | 10 => 133 | 11 => 134 | 12 => 135 | 13 => 136 | 14 => 137 | 15 => 138 | 16 => 139 | 17 => 140 | 18 => 141 | 30 => 146 | 31 => 147 | 32 => 148 | 33 => 149 | 34 => 150 | 35 => 121 | 40 => 151 | n => n, fun | 23 => 24 | 25 => 3 | 3 => 3 | 32 => 131 | 22 => 24 | 0 => 0 | 44 => 147 | 46 => 149 | 4 => 4 | 36 => 140 | 35 => 139 | 41 => 144 | 5 => 5 | 9 => 9 | 53 => 151 | 57 => 155 | 63 => 157 | 64 => 158 | n => n, fun | n => n⟩
theorem sortL107 : Go.Proofs.SlLaysM.n5 Try.prog sortL107_ren := {
 mixed := by kernel_rfl
 f5 := ⟨Try.f107.name, by decide, Try.func107.trans (congrArg some (by kernel_rfl))⟩
 f7 := ⟨Try.f125.name, by decide, Try.func125.trans (congrArg some (by kernel_rfl))⟩
 f8 := Try.func126.trans (congrArg some (by kernel_rfl))
 f10 := ⟨Try.f133.name, by decide, Try.func133.trans (congrArg some (by kernel_rfl))⟩
 f11 := ⟨Try.f134.name, by decide, Try.func134.trans (congrArg some (by kernel_rfl))⟩
 f12 := ⟨Try.f135.name, by decide, Try.func135.trans (congrArg some (by kernel_rfl))⟩
 f13 := ⟨Try.f136.name, by decide, Try.func136.trans (congrArg some (by kernel_rfl))⟩
 f14 := ⟨Try.f137.name, by decide, Try.func137.trans (congrArg some (by kernel_rfl))⟩
 f15 := ⟨Try.f138.name, by decide, Try.func138.trans (congrArg some (by kernel_rfl))⟩
 f16 := ⟨Try.f139.name, by decide, Try.func139.trans (congrArg some (by kernel_rfl))⟩
 f17 := ⟨Try.f140.name, by decide, Try.func140.trans (congrArg some (by kernel_rfl))⟩
 f18 := ⟨Try.f141.name, by decide, Try.func141.trans (congrArg some (by kernel_rfl))⟩
 f19 := Try.func142.trans (congrArg some (by kernel_rfl))
 f20 := Try.func143.trans (congrArg some (by kernel_rfl))
 f30 := ⟨Try.f146.name, by decide, Try.func146.trans (congrArg some (by kernel_rfl))⟩
 f31 := Try.func147.trans (congrArg some (by kernel_rfl))
 f32 := Try.func148.trans (congrArg some (by kernel_rfl))
 f33 := ⟨Try.f149.name, by decide, Try.func149.trans (congrArg some (by kernel_rfl))⟩
 f34 := ⟨Try.f150.name, by decide, Try.func150.trans (congrArg some (by kernel_rfl))⟩
 f35 := ⟨Try.f121.name, by decide, Try.func121.trans (congrArg some (by kernel_rfl))⟩
 f40 := ⟨Try.f151.name, by decide, Try.func151.trans (congrArg some (by kernel_rfl))⟩
 t0 := Try.underlying0
 a0 := Try.isAgg0
 z0 := Try.sizeOf0
 v0 := Try.zeroValue0
 t3 := Try.underlying3
 a3 := Try.isAgg3
 z3 := Try.sizeOf3
 v3 := Try.zeroValue3
 t4 := Try.underlying4
 a4 := Try.isAgg4
 z4 := Try.sizeOf4
 v4 := Try.zeroValue4
 t5 := Try.underlying5
 a5 := Try.isAgg5
 z5 := Try.sizeOf5
 v5 := Try.zeroValue5
 t9 := Try.underlying9
 a9 := Try.isAgg9
 z9 := Try.sizeOf9
 v9 := Try.zeroValue9
 t22 := Try.underlying24
 a22 := Try.isAgg24
 z22 := Try.sizeOf24
 v22 := Try.zeroValue24
 t23 := Try.underlying24
 a23 := Try.isAgg24
 z23 := Try.sizeOf24
 v23 := Try.zeroValue24
 t25 := Try.underlying3
 a25 := Try.isAgg3
 z25 := Try.sizeOf3
 v25 := Try.zeroValue3
 t32 := Try.underlying131
 a32 := Try.isAgg131
 z32 := Try.sizeOf131
 v32 := Try.zeroValue131
 t35 := Try.underlying139
 a35 := Try.isAgg139
 z35 := Try.sizeOf139
 v35 := Try.zeroValue139
 t36 := Try.underlying140
 a36 := Try.isAgg140
 z36 := Try.sizeOf140
 v36 := Try.zeroValue140
 t41 := Try.underlying144
 a41 := Try.isAgg144
 z41 := Try.sizeOf144
 v41 := Try.zeroValue144
 t44 := Try.underlying147
 a44 := Try.isAgg147
 z44 := Try.sizeOf147
 v44 := Try.zeroValue147
 t46 := Try.underlying149
 a46 := Try.isAgg149
 z46 := Try.sizeOf149
 v46 := Try.zeroValue149
 t53 := Try.underlying151
 a53 := Try.isAgg151
 z53 := Try.sizeOf151
 v53 := Try.zeroValue151
 t57 := Try.underlying155
 a57 := Try.isAgg155
 z57 := Try.sizeOf155
 v57 := Try.zeroValue155
 t63 := Try.underlying157
 a63 := Try.isAgg157
 z63 := Try.sizeOf157
 v63 := Try.zeroValue157
 t64 := Try.underlying158
 a64 := Try.isAgg158
 z64 := Try.sizeOf158
 v64 := Try.zeroValue158 }
open Go.Shelf in
def compL108_ren : Go.Shelf.Ren := ⟨fun | 43 => 108 | n => n, fun | 22 => 24 | 23 => 3 | 3 => 3 | 4 => 4 | 0 => 0 | n => n, fun | n => n⟩
theorem compL108 : Go.Proofs.SlLaysN.n43 Try.prog compL108_ren := {
 mixed := by kernel_rfl
 f43 := ⟨Try.f108.name, by decide, Try.func108.trans (congrArg some (by kernel_rfl))⟩
 t0 := Try.underlying0
 a0 := Try.isAgg0
 z0 := Try.sizeOf0
 v0 := Try.zeroValue0
 t3 := Try.underlying3
 a3 := Try.isAgg3
 z3 := Try.sizeOf3
 v3 := Try.zeroValue3
 t4 := Try.underlying4
 a4 := Try.isAgg4
 z4 := Try.sizeOf4
 v4 := Try.zeroValue4
 t22 := Try.underlying24
 a22 := Try.isAgg24
 z22 := Try.sizeOf24
 v22 := Try.zeroValue24
 t23 := Try.underlying3
 a23 := Try.isAgg3
 z23 := Try.sizeOf3
 v23 := Try.zeroValue3
 i23 := by kernel_rfl }
theorem putOwn_ {w : World} {base g cap n : Nat} {e : TypeId} {xs : List Int} (h : w.ownsRow base e 1 (.slice (some ⟨g, 0, none⟩) n cap) n (encs (Value.int .i64) xs)) (ys : List Int) (hy : ys.length = n) (m : Nat) (hm : m ≤ n) (q : Nat) (os : Array Obj) :
  (Go.Sort.grow (Go.Sort.putRow (Value.int .i64) (Go.Sort.ahead w q) g 0 ys.toArray) os).ownsRow base e 1 (.slice (some ⟨g, 0, none⟩) m cap) m (encs (Value.int .i64) (ys.take m)) ∧ w.grownBy (Go.Sort.grow (Go.Sort.putRow (Value.int .i64) (Go.Sort.ahead w q) g 0 ys.toArray) os) (some g) := by
 obtain ⟨_, h2⟩ := h
 rcases h2 with ⟨h2, _⟩ | ⟨g', cap', cur, hv, hg, hh, hn, hc, hs, ht⟩
 ·cases h2
 injection hv with hv1 _ hv2
 injection hv1 with hv1
 injection hv1 with hv1
 subst hv1 hv2
 have hlt : g < w.heap.size := (Array.getElem?_eq_some_iff.1 hh).1
 have hw : (Go.Sort.grow (Go.Sort.putRow (Value.int .i64) (Go.Sort.ahead w q) g 0 ys.toArray) os).heap = w.heap.modify g (Go.Sort.onCells (Go.Sort.putCells (Value.int .i64) 0 ys.toArray)) ++ os := rfl
 have hg2 : (Go.Sort.grow (Go.Sort.putRow (Value.int .i64) (Go.Sort.ahead w q) g 0 ys.toArray) os).heap[g]? = some (.cells (Go.Sort.putCells (Value.int .i64) 0 ys.toArray cur) e (0, 0)) := by
  rw [hw, Array.getElem?_append_left (by simpa using hlt), Array.getElem?_modify, if_pos rfl, hh]
  rfl
 refine ⟨⟨by simp [encs]; omega, .inr ⟨g, cap, _, rfl, hg, hg2, by omega, hc, ?_, ?_⟩⟩, ⟨rfl, rfl, rfl, ?_, ?_⟩⟩
 ·simp only [Go.Sort.putCells, Array.size_mapIdx]
  exact hs
 ·apply List.ext_getElem?
  intro j
  rw [List.getElem?_take]
  by_cases hj : j < m * 1
  ·have hjn : j < n := by omega
   have hjc : j < cur.size := by omega
   rw [if_pos hj]
   simp only [Go.Sort.putCells, Array.getElem?_toList, Array.getElem?_mapIdx, Array.getElem?_eq_getElem hjc, Option.map_some, encs, List.getElem?_map]
   rw [List.getElem?_take, if_pos (show j < m by omega), List.getElem?_eq_getElem (show j < ys.length by omega), Option.map_some]
   split
   ·congr 2
    simp only [Nat.sub_zero]
    rw [getElem!_pos _ j (by simpa using (show j < ys.length by omega))]
    simp
   ·exact absurd (show j < 0 + ys.toArray.size by simp; omega) (by omega)
  ·rw [if_neg hj]
   simp only [encs, List.getElem?_map]
   rw [List.getElem?_eq_none (by simp; omega)]
   rfl
 ·rw [hw]
  simp
 ·intro k hk hne
  rw [hw, Array.getElem?_append_left (by simpa using hk), Array.getElem?_modify, if_neg (fun e_ => hne (by rw [e_]))]
theorem holds_ {w : World} {base g cap n : Nat} {e : TypeId} {xs : List Int} (h : w.ownsRow base e 1 (.slice (some ⟨g, 0, none⟩) n cap) n (encs (Value.int .i64) xs)) : Go.Sort.Holds (Value.int .i64) w g 0 xs.toArray ∧ xs.length = n ∧ g < w.heap.size ∧ n ≤ cap ∧ cap ≤ maxLen ∧ base ≤ g := by
 have hx : xs.length = n := by simpa [encs] using h.1
 obtain ⟨_, h2⟩ := h
 rcases h2 with ⟨h2, _⟩ | ⟨g', cap', cur, hv, hg, hh, hn, hc, hs, ht⟩
 ·cases h2
 injection hv with hv1 _ hv2
 injection hv1 with hv1
 injection hv1 with hv1
 subst hv1 hv2
 refine ⟨fun j hj => ?_, hx, (Array.getElem?_eq_some_iff.1 hh).1, hn, hc, hg⟩
 have hj' : j < xs.length := by simpa using hj
 have hc2 := congrArg (fun l => l[j]?) ht
 simp only [List.getElem?_take, encs, List.getElem?_map] at hc2
 rw [if_pos (by omega), List.getElem?_eq_getElem hj', Option.map_some] at hc2
 rw [Nat.zero_add]
 refine ⟨?_, blk_frozen hh j⟩
 rw [blk_cell hh j]
 rw [Array.getElem?_toList] at hc2
 rw [hc2, getElem!_pos _ j hj]
 simp
theorem sortR_ {w : World} {base : Nat} {e : TypeId} {ok : Nat → Prop} {v : Value} {xs : List Int} (h : (Kd.int .i64).R e w base ok v xs) (hl : xs.length < 4611686018427387904) :
  Calls Try.prog 107 #[v] w fun en w' => en = .returned (.tuple #[]) ∧ (Kd.int .i64).R e w' base ok v (xs.mergeSort fun x y => decide (x ≤ y)) ∧ w.grownBy w' v.ownBlock := by
 have ho := Kd.own_of_R h
 by_cases h0 : xs.length = 0
 ·obtain ⟨A, c, rfl⟩ := own_slice ho
  have hx : xs = [] := List.length_eq_zero_iff.1 h0
  subst hx
  refine (AnyM.slices_Sort_int_none sortL107 A c w).mono ?_
  rintro en w' ⟨rfl, rfl⟩
  exact ⟨rfl, by simpa using h, ⟨rfl, rfl, rfl, Nat.le_refl _, fun _ _ _ => rfl⟩⟩
 ·have ho' := ho
  rcases ho.2 with ⟨_, h2⟩ | ⟨g, cap, cur, rfl, _⟩
  ·exact absurd h2 h0
  obtain ⟨hH, _, hlt, hn, hc, hg⟩ := holds_ ho
  refine (AnyM.slices_Sort_int sortL107 g 0 cap xs w hH hlt hl).mono ?_
  rintro en w' ⟨rfl, n, os, rfl⟩
  obtain ⟨p1, p2⟩ := putOwn_ ho (xs.mergeSort fun x y => decide (x ≤ y)) (List.length_mergeSort _) xs.length (Nat.le_refl _) n os
  refine ⟨rfl, Kd.R_of_own ?_ h.1, p2⟩
  rw [List.take_of_length_le (by rw [List.length_mergeSort]; exact Nat.le_refl _)] at p1
  rw [List.length_mergeSort]
  exact p1
theorem compactR_ {w : World} {base n : Nat} {e : TypeId} {ok : Nat → Prop} {A : Option Addr} {c : Nat} {xs : List Int} (h : (Kd.int .i64).R e w base ok (.slice A n c) xs) :
  Calls Try.prog 108 #[.slice A n c] w fun en w' => ∃ v, en = .returned v ∧ (Kd.int .i64).R e w' base ok v (Go.Lib.compact xs) ∧ w.grownBy w' (Value.slice A n c).ownBlock := by
 have hle : (Go.Lib.compact xs).length ≤ xs.length := by unfold Go.Lib.compact Go.Lib.compactUpTo; rw [List.length_map]; exact Nat.le_trans (List.length_filter_le _ _) (by simp)
 have ho := Kd.own_of_R h
 have hn : n = xs.length := (Kd.R_reads' h).1
 subst hn
 by_cases h0 : xs.length = 0
 ·have hx : xs = [] := List.length_eq_zero_iff.1 h0
  subst hx
  refine (AnyG.slices_Compact_int_empty compL108 A c w).mono ?_
  rintro en w' ⟨rfl, rfl⟩
  exact ⟨_, rfl, by have e_ : Go.Lib.compact ([] : List Int) = [] := List.length_eq_zero_iff.1 (by simpa using hle); rw [e_]; exact h, ⟨rfl, rfl, rfl, Nat.le_refl _, fun _ _ _ => rfl⟩⟩
 ·rcases ho.2 with ⟨_, h2⟩ | ⟨g, cap, cur, hv, _⟩
  ·exact absurd h2 h0
  obtain ⟨rfl, rfl⟩ : A = some ⟨g, 0, none⟩ ∧ c = cap := by injection hv with h1 _ h3; exact ⟨h1, h3⟩
  obtain ⟨hH, _, hlt, hn, hc, hg⟩ := holds_ ho
  refine (AnyG.slices_Compact_int compL108 g 0 c xs w hH (by unfold maxLen at hc; omega) hn).mono ?_
  rintro en w' ⟨rfl, q, rfl⟩
  obtain ⟨p1, p2⟩ := putOwn_ ho (Go.Lib.compact xs ++ List.replicate (xs.length - (Go.Lib.compact xs).length) 0) (by simp; omega) (Go.Lib.compact xs).length hle q #[]
  have e_ : ∀ w : World, Go.Sort.grow w #[] = w := fun w => by simp [Go.Sort.grow]
  rw [e_] at p1 p2
  rw [List.take_left] at p1
  exact ⟨_, rfl, Kd.R_of_own p1 (fun k hk => h.1 k hk), p2⟩

theorem sc108.out {l r : List Int} (h : sc108.f l = some r) : l.length < 4611686018427387904 ∧ r = Go.Lib.compact (l.mergeSort fun x y => decide (x ≤ y)) := by
 unfold sc108.f at h
 split at h
 ·exact ⟨by assumption, (Option.some.inj h).symm⟩
 ·cases h
theorem sortX_ {W w : World} {e : TypeId} {ok : Nat → Prop} {v : Value} {xs : List Int} (h : (Kd.int .i64).R e w W.heap.size ok v xs) (hB : Below W.heap.size W w) (hl : xs.length < 4611686018427387904) :
  Calls Try.prog 107 #[v] w fun en w' => en = .returned (.tuple #[]) ∧ (Kd.int .i64).R e w' W.heap.size ok v (xs.mergeSort fun x y => decide (x ≤ y)) ∧ Below W.heap.size W w' := by
 refine (sortR_ h hl).mono ?_
 rintro en w' ⟨h1, h2, h3⟩
 exact ⟨h1, h2, pw_below_grown hB v.ownBlock (below_size hB) h3 (Kd.R_base h)⟩
theorem compactX_ {W w : World} {n : Nat} {e : TypeId} {ok : Nat → Prop} {A : Option Addr} {c : Nat} {xs r : List Int} (h : (Kd.int .i64).R e w W.heap.size ok (.slice A n c) (xs.mergeSort fun x y => decide (x ≤ y))) (hB : Below W.heap.size W w) (hs : sc108.f xs = some r) :
  Calls Try.prog 108 #[.slice A n c] w fun en w' => ∃ v, en = .returned v ∧ (Kd.int .i64).R e w' W.heap.size ok v r ∧ Below W.heap.size W w' := by
 refine (compactR_ h).mono ?_
 rintro en w' ⟨v, h1, h2, h3⟩
 refine ⟨v, h1, ?_, pw_below_grown hB _ (below_size hB) h3 (Kd.R_base h)⟩
 rw [(sc108.out hs).2]
 exact h2

/-! ### impl_NeighborsIn: function 57 -/
def impl_NeighborsIn.l0 : Nat → Int → List Int → List (S103) → Int → Int → Option (List Int)
 | 0, _, _, _, _, _ => none
 | k + 1, x1, x5, x9, x10, x11 => if x11 < x10 then (if 0 ≤ x11 then (if x11 < (x9.length : Int) then (if ((rd_T103 x9 x11).f0) = x1 then (if x5.length < 17592186044416 then ((some (x5 ++ [(rd_T103 x9 x11).f1] : List Int)).bind fun y161 => (if ((rd_T103 x9 x11).f1) = x1 then (if y161.length < 17592186044416 then (impl_NeighborsIn.l0 k x1 (y161 ++ [(rd_T103 x9 x11).f0]) x9 x10 (wrap64 (x11 + 1))) else (none)) else (impl_NeighborsIn.l0 k x1 y161 x9 x10 (wrap64 (x11 + 1))))) else (none)) else (if ((rd_T103 x9 x11).f1) = x1 then (if x5.length < 17592186044416 then (impl_NeighborsIn.l0 k x1 (x5 ++ [(rd_T103 x9 x11).f0]) x9 x10 (wrap64 (x11 + 1))) else (none)) else (impl_NeighborsIn.l0 k x1 x5 x9 x10 (wrap64 (x11 + 1))))) else (none)) else (none)) else ((sc108.f x5).bind fun t156 => (some t156))
def impl_NeighborsIn.f (k : Nat) (l0 : List (S103)) (a1 : Int) : Option (List Int) := impl_NeighborsIn.l0 k a1 (([] : List Int)) l0 (l0.length : Int) 0
theorem impl_NeighborsIn.mono_l : ∀ k, (∀ y0 y1 y2 y3 y4, LeO (impl_NeighborsIn.l0 k y0 y1 y2 y3 y4) (impl_NeighborsIn.l0 (k + 1) y0 y1 y2 y3 y4))
 | 0 => fun _ _ _ _ _ r h => by simp [impl_NeighborsIn.l0] at h
 | k + 1 => by
  have ih0 := impl_NeighborsIn.mono_l k
  ·intro y0 y1 y2 y3 y4
   unfold impl_NeighborsIn.l0
   repeat' first | (with_reducible first | exact ih0 _ _ _ _ _ | exact LeO.refl _ | exact LeO.none _ | refine LeO.ite ?_ ?_ | refine LeO.bind ?_ (fun _ => ?_)) | exact LeO.none _ | refine LeO.ite ?_ ?_ | refine LeO.bind ?_ (fun _ => ?_)
theorem impl_NeighborsIn.mono : ∀ a0 a1 k, LeO (impl_NeighborsIn.f k a0 a1) (impl_NeighborsIn.f (k + 1) a0 a1) := by
 intro a0 a1 k
 have ih0 := impl_NeighborsIn.mono_l k
 unfold impl_NeighborsIn.f
 repeat' first | (with_reducible first | exact ih0 _ _ _ _ _ | exact LeO.refl _ | exact LeO.none _ | refine LeO.ite ?_ ?_ | refine LeO.bind ?_ (fun _ => ?_)) | exact LeO.none _ | refine LeO.ite ?_ ?_ | refine LeO.bind ?_ (fun _ => ?_)
set_option maxHeartbeats 8000000 in
set_option maxRecDepth 100000 in
theorem impl_NeighborsIn.calls (k : Nat) (A0 : Option Addr) (c0 : Nat) (l0 : List (S103)) (a1 : Int) (r : List Int) (w : World) (hr0 : Kd.C k103 w A0 l0.length l0) (hc0 : l0.length ≤ c0) (h : impl_NeighborsIn.f k l0 a1 = some r) :
  Calls Try.prog 57 #[.slice A0 l0.length c0, .int .i64 a1] w fun e w' => ∃ v0_ : Value, e = .returned (v0_) ∧ Kd.R (Kd.int .i64) 3 w' w.heap.size (fun _ => True) v0_ r ∧ Below w.heap.size w w' := by
 have hu103 := Try.underlying103
 have HR0 := Aside0.mk hr0
 have HC0 := Aside0.mk hc0
 clear hr0 hc0
 have HB := Aside0.mk (Below.refl w.heap.size w)
 have H := h
 clear h
 unfold impl_NeighborsIn.f at H
 replace H : ∃ y_ : List Int, Aside0 (y_ = (([] : List Int))) ∧ (impl_NeighborsIn.l0 k a1 y_ l0 (l0.length : Int) 0) = some r := ⟨_, ⟨rfl⟩, yh_ H⟩
 obtain ⟨y153, Ny153, H⟩ := H
 have H' := Aside0.mk H
 clear H
 go_enter Try.func57, Try.ntmps57
 go_wp2_with (first | ((with_reducible refine gate_dst (N := 8) rfl ?_); refine Kd.R_lit (Kd.int .i64) _ 3 ?hg (N := 8) ?hd (xs := ([] : List Int)) (inner := []) (ok := fun _ => True) (okp := fun _ => True) ?hr ?hp (fun _ hk => hk) trivial (Below.refl _ _) (Nat.le_refl _) (by simp) ?_; (case hd => rfl); (case hg => rfl); (case hr => first | (go_simp; done) | (go_simp; rfl)); (case hp => exact (Reps.none _ _)); intro v154 w3 ho4 hb hg_ hnew_; clear hg_ hnew_; (first | rw [← Ny153.out] at ho4 | (simp only [Int.reduceToNat] at ho4; rw [← Ny153.out] at ho4)); refine sh2_ (Kd.R_lower ho4 (below_size (bl_ HB))) (below_step (bl_ HB) hb) ?_; clear HB hb ho4; intro HO155 HB))
 go_loopg [5, 11] k (fun kq v5 v11 w' => ∃ (x5_1 : List Int) (x11_1 : Int), v11 = .int .i64 x11_1 ∧ Aside0 (impl_NeighborsIn.l0 kq a1 x5_1 l0 (l0.length : Int) x11_1 = some r) ∧ Aside0 (kq ≤ k) ∧ Aside0 (Kd.R (Kd.int .i64) 3 w' w.heap.size (fun _ => True) v5 x5_1) ∧ Aside0 (Below w.heap.size w w'))
 case atStart => exact ⟨(y153), (0), (by first | rfl | (simp; done) | (simp [*]; done)), H', ⟨Nat.le_refl _⟩, ⟨ra_ HO155⟩, ⟨bl_ HB⟩⟩
 case round =>
  clear H'
  try clear p2
  obtain ⟨x5_1, x11_1, rfl, HA, HK1, HO_5, HB⟩ := hrel
  cases gk with
  | zero => exact absurd HA.out (by simp [impl_NeighborsIn.l0])
  | succ k1 =>
   have H := HA.out
   clear HA
   simp only [impl_NeighborsIn.l0] at H
   by_cases c5 : x11_1 < (l0.length : Int)
   ·rw [if_pos c5] at H
    have c5b0 := decide_eq_true c5
    clear c5
    replace H := ifn_ H
    obtain ⟨c6, H⟩ := H
    have c6b0 := decide_eq_true c6
    clear c6
    replace H := ifn_ H
    obtain ⟨c7, H⟩ := H
    have c7b0 := decide_eq_true c7
    clear c7
    by_cases c8 : ((rd_T103 l0 x11_1).f0) = a1
    ·rw [if_pos c8] at H
     obtain ⟨c8b0, c8b1⟩ := bt_ c8
     clear c8
     replace H := ifn_ H
     obtain ⟨c9, H⟩ := H
     have LMc9 := Aside0.mk c9
     clear c9
     replace H : ∃ y_ : List Int, Aside0 (y_ = (x5_1 ++ [(rd_T103 l0 x11_1).f1])) ∧ (if ((rd_T103 l0 x11_1).f1) = a1 then (if y_.length < 17592186044416 then (impl_NeighborsIn.l0 k1 a1 (y_ ++ [(rd_T103 l0 x11_1).f0]) l0 (l0.length : Int) (wrap64 (x11_1 + 1))) else (none)) else (impl_NeighborsIn.l0 k1 a1 y_ l0 (l0.length : Int) (wrap64 (x11_1 + 1)))) = some r := ⟨_, ⟨rfl⟩, yh_ H⟩
     obtain ⟨y161, Ny161, H⟩ := H
     by_cases c10 : ((rd_T103 l0 x11_1).f1) = a1
     ·rw [if_pos c10] at H
      obtain ⟨c10b0, c10b1⟩ := bt_ c10
      clear c10
      replace H := ifn_ H
      obtain ⟨c11, H⟩ := H
      have LMc11 := Aside0.mk c11
      clear c11
      replace H : ∃ y_ : List Int, Aside0 (y_ = (y161 ++ [(rd_T103 l0 x11_1).f0])) ∧ (impl_NeighborsIn.l0 k1 a1 y_ l0 (l0.length : Int) (wrap64 (x11_1 + 1))) = some r := ⟨_, ⟨rfl⟩, yh_ H⟩
      obtain ⟨y164, Ny164, H⟩ := H
      have H' := Aside0.mk H
      clear H
      have p159 : 0 ≤ (x11_1 : Int) := od_
      have q159 : x11_1 < (l0.length : Int) := od_
      obtain ⟨ad159, e159, hx159_0, hx159_1⟩ := at_T103 HR0.out x11_1 p159 q159
      cases e159
      replace hx159_0 := hbc_ HB hx159_0
      replace hx159_1 := hbc_ HB hx159_1
      replace p159 := eq_true p159
      replace q159 := eq_true q159
      go_wp2_with (first | ((with_reducible refine gd_ 7 ?_); refine bx_ 7 103 #[.int .i64 0, .int .i64 0] ?_; intro gb160 hg w12 hbox hb; refine sh5_ (Kd.R_below (ra_ HO_5) hb) (below_step (bl_ HB) hb) hbox (ge_ hg (bl_ HB)) (ge_ hg (bl_ HB)) ?_; clear HO_5 HB hb hbox hg; intro HO_5 HB BK160 GW160 GE160; have hcz13 := cf2_ BK160) | ((with_reducible refine gate_builtin (b := .append) (xs := #[.tmp 19, .tmp 22]) rfl ?_); at_builtin; refine Kd.R_append (Kd.int .i64) (w0 := w) w.heap.size rfl (.tmp 19) (.tmp 22) 24 3 (.int .i64 0) 8 rfl Try.underlying24 info3 rfl (by decide) (by omega) u5 x5_1 ((rd_T103 l0 x11_1).f1) [.int .i64 ((rd_T103 l0 x11_1).f1)] (fun _ => True) (fun _ => False) rfl (by first | (go_simp; done) | (go_simp; rfl)) ?aP (fun _ hk => hk.elim) ?aF ?aO ?aB ?aS ?aL ?_; (case aP => exact rfl); (case aB => exact (bl1_ HB GE160)); (case aF => exact (fun _ _ => trivial)); (case aO => exact (by (with_reducible repeat (first | apply Kd.R_alloc | apply Kd.R_drewN | apply Kd.R_drew)); exact Kd.R_mono (Kd.R_far (p := ⟨gb160, 1, none⟩) (Kd.R_far (p := ⟨gb160, 0, none⟩) (Kd.R_types HO_5.out BK160.out (by decide)) (fun _ hk => hk.2) (.int .i64 ((rd_T103 l0 x11_1).f0))) (fun _ hk => hk.2) (.int .i64 ((rd_T103 l0 x11_1).f1))) (fun _ hk => trivial))); (case aS => exact (below_size (bl1_ HB GE160))); (case aL => have := LMc9.out; omega); intro v162 w14 ho hb hg hat; rw [← Ny161.out] at ho; refine sh3_ (blk_grown (g := gb160) (o := .cells #[.int .i64 ((rd_T103 l0 x11_1).f0), .int .i64 ((rd_T103 l0 x11_1).f1)] 103 (0, 0)) (by (with_reducible repeat (first | refine blk_drewN ?_ _ | refine blk_drew ?_ | refine blk_alloc ?_ _)); refine blk_put (cs := #[.int .i64 ((rd_T103 l0 x11_1).f0), .int .i64 0]) ?_ 1 _ rfl; (with_reducible repeat (first | refine blk_drewN ?_ _ | refine blk_drew ?_ | refine blk_alloc ?_ _)); refine blk_put (cs := #[.int .i64 0, .int .i64 0]) ?_ 0 _ rfl; (with_reducible repeat (first | refine blk_drewN ?_ _ | refine blk_drew ?_ | refine blk_alloc ?_ _)); exact BK160.out) hg (Kd.R_ne HO_5.out BK160.out (by decide))) hb ho ?_; clear BK160 HB HO_5 ho hb hg hat; intro BK160 HB HO163; have hcz15 := cf2_ BK160) | ((with_reducible refine gate_builtin (b := .append) (xs := #[.tmp 28, .tmp 31]) rfl ?_); at_builtin; refine Kd.R_append (Kd.int .i64) (w0 := w) w.heap.size rfl (.tmp 28) (.tmp 31) 24 3 (.int .i64 0) 8 rfl Try.underlying24 info3 rfl (by decide) (by omega) v162 y161 ((rd_T103 l0 x11_1).f0) [.int .i64 ((rd_T103 l0 x11_1).f0)] (fun _ => True) (fun _ => False) rfl rfl ?aP (fun _ hk => hk.elim) ?aF ?aO ?aB ?aS ?aL ?_; (case aP => exact rfl); (case aB => exact (bl1_ HB GE160)); (case aF => exact (fun _ _ => trivial)); (case aO => exact (ra_ HO163)); (case aS => exact (below_size (bl1_ HB GE160))); (case aL => have := LMc11.out; omega); intro v165 w16 ho hb hg hat; rw [← Ny164.out] at ho; refine sh3_ (blk_grown (g := gb160) (o := .cells #[.int .i64 ((rd_T103 l0 x11_1).f0), .int .i64 ((rd_T103 l0 x11_1).f1)] 103 (0, 0)) (bk_ BK160) hg (Kd.R_ne HO163.out BK160.out (by decide))) hb ho ?_; clear BK160 HB HO163 ho hb hg hat; intro BK160 HB HO166))
      go_roundg k1
      case measure => have := HK1.out; omega
      case rel => exact ⟨(y164), (wrap64 (x11_1 + 1)), (by first | rfl | (simp; done) | (simp [*]; done)), H', ⟨by have := HK1.out; omega⟩, ⟨ra_ HO166⟩, ⟨bl1_ HB GE160⟩⟩
     ·rw [if_neg c10] at H
      obtain ⟨c10b0, c10b1⟩ := bn_ c10
      have H' := Aside0.mk H
      clear H
      have p159 : 0 ≤ (x11_1 : Int) := od_
      have q159 : x11_1 < (l0.length : Int) := od_
      obtain ⟨ad159, e159, hx159_0, hx159_1⟩ := at_T103 HR0.out x11_1 p159 q159
      cases e159
      replace hx159_0 := hbc_ HB hx159_0
      replace hx159_1 := hbc_ HB hx159_1
      replace p159 := eq_true p159
      replace q159 := eq_true q159
      go_wp2_with (first | ((with_reducible refine gd_ 7 ?_); refine bx_ 7 103 #[.int .i64 0, .int .i64 0] ?_; intro gb160 hg w17 hbox hb; refine sh5_ (Kd.R_below (ra_ HO_5) hb) (below_step (bl_ HB) hb) hbox (ge_ hg (bl_ HB)) (ge_ hg (bl_ HB)) ?_; clear HO_5 HB hb hbox hg; intro HO_5 HB BK160 GW160 GE160; have hcz18 := cf2_ BK160) | ((with_reducible refine gate_builtin (b := .append) (xs := #[.tmp 19, .tmp 22]) rfl ?_); at_builtin; refine Kd.R_append (Kd.int .i64) (w0 := w) w.heap.size rfl (.tmp 19) (.tmp 22) 24 3 (.int .i64 0) 8 rfl Try.underlying24 info3 rfl (by decide) (by omega) u5 x5_1 ((rd_T103 l0 x11_1).f1) [.int .i64 ((rd_T103 l0 x11_1).f1)] (fun _ => True) (fun _ => False) rfl (by first | (go_simp; done) | (go_simp; rfl)) ?aP (fun _ hk => hk.elim) ?aF ?aO ?aB ?aS ?aL ?_; (case aP => exact rfl); (case aB => exact (bl1_ HB GE160)); (case aF => exact (fun _ _ => trivial)); (case aO => exact (by (with_reducible repeat (first | apply Kd.R_alloc | apply Kd.R_drewN | apply Kd.R_drew)); exact Kd.R_mono (Kd.R_far (p := ⟨gb160, 1, none⟩) (Kd.R_far (p := ⟨gb160, 0, none⟩) (Kd.R_types HO_5.out BK160.out (by decide)) (fun _ hk => hk.2) (.int .i64 ((rd_T103 l0 x11_1).f0))) (fun _ hk => hk.2) (.int .i64 ((rd_T103 l0 x11_1).f1))) (fun _ hk => trivial))); (case aS => exact (below_size (bl1_ HB GE160))); (case aL => have := LMc9.out; omega); intro v162 w19 ho hb hg hat; rw [← Ny161.out] at ho; refine sh3_ (blk_grown (g := gb160) (o := .cells #[.int .i64 ((rd_T103 l0 x11_1).f0), .int .i64 ((rd_T103 l0 x11_1).f1)] 103 (0, 0)) (by (with_reducible repeat (first | refine blk_drewN ?_ _ | refine blk_drew ?_ | refine blk_alloc ?_ _)); refine blk_put (cs := #[.int .i64 ((rd_T103 l0 x11_1).f0), .int .i64 0]) ?_ 1 _ rfl; (with_reducible repeat (first | refine blk_drewN ?_ _ | refine blk_drew ?_ | refine blk_alloc ?_ _)); refine blk_put (cs := #[.int .i64 0, .int .i64 0]) ?_ 0 _ rfl; (with_reducible repeat (first | refine blk_drewN ?_ _ | refine blk_drew ?_ | refine blk_alloc ?_ _)); exact BK160.out) hg (Kd.R_ne HO_5.out BK160.out (by decide))) hb ho ?_; clear BK160 HB HO_5 ho hb hg hat; intro BK160 HB HO163; have hcz20 := cf2_ BK160))
      go_roundg k1
      case measure => have := HK1.out; omega
      case rel => exact ⟨(y161), (wrap64 (x11_1 + 1)), (by first | rfl | (simp; done) | (simp [*]; done)), H', ⟨by have := HK1.out; omega⟩, ⟨ra_ HO163⟩, ⟨bl1_ HB GE160⟩⟩
    ·rw [if_neg c8] at H
     obtain ⟨c8b0, c8b1⟩ := bn_ c8
     by_cases c21 : ((rd_T103 l0 x11_1).f1) = a1
     ·rw [if_pos c21] at H
      obtain ⟨c21b0, c21b1⟩ := bt_ c21
      clear c21
      replace H := ifn_ H
      obtain ⟨c22, H⟩ := H
      have LMc22 := Aside0.mk c22
      clear c22
      replace H : ∃ y_ : List Int, Aside0 (y_ = (x5_1 ++ [(rd_T103 l0 x11_1).f0])) ∧ (impl_NeighborsIn.l0 k1 a1 y_ l0 (l0.length : Int) (wrap64 (x11_1 + 1))) = some r := ⟨_, ⟨rfl⟩, yh_ H⟩
      obtain ⟨y167, Ny167, H⟩ := H
      have H' := Aside0.mk H
      clear H
      have p159 : 0 ≤ (x11_1 : Int) := od_
      have q159 : x11_1 < (l0.length : Int) := od_
      obtain ⟨ad159, e159, hx159_0, hx159_1⟩ := at_T103 HR0.out x11_1 p159 q159
      cases e159
      replace hx159_0 := hbc_ HB hx159_0
      replace hx159_1 := hbc_ HB hx159_1
      replace p159 := eq_true p159
      replace q159 := eq_true q159
      go_wp2_with (first | ((with_reducible refine gd_ 7 ?_); refine bx_ 7 103 #[.int .i64 0, .int .i64 0] ?_; intro gb160 hg w23 hbox hb; refine sh5_ (Kd.R_below (ra_ HO_5) hb) (below_step (bl_ HB) hb) hbox (ge_ hg (bl_ HB)) (ge_ hg (bl_ HB)) ?_; clear HO_5 HB hb hbox hg; intro HO_5 HB BK160 GW160 GE160; have hcz24 := cf2_ BK160) | ((with_reducible refine gate_builtin (b := .append) (xs := #[.tmp 28, .tmp 31]) rfl ?_); at_builtin; refine Kd.R_append (Kd.int .i64) (w0 := w) w.heap.size rfl (.tmp 28) (.tmp 31) 24 3 (.int .i64 0) 8 rfl Try.underlying24 info3 rfl (by decide) (by omega) u5 x5_1 ((rd_T103 l0 x11_1).f0) [.int .i64 ((rd_T103 l0 x11_1).f0)] (fun _ => True) (fun _ => False) rfl (by first | (go_simp; done) | (go_simp; rfl)) ?aP (fun _ hk => hk.elim) ?aF ?aO ?aB ?aS ?aL ?_; (case aP => exact rfl); (case aB => exact (bl1_ HB GE160)); (case aF => exact (fun _ _ => trivial)); (case aO => exact (by (with_reducible repeat (first | apply Kd.R_alloc | apply Kd.R_drewN | apply Kd.R_drew)); exact Kd.R_mono (Kd.R_far (p := ⟨gb160, 1, none⟩) (Kd.R_far (p := ⟨gb160, 0, none⟩) (Kd.R_types HO_5.out BK160.out (by decide)) (fun _ hk => hk.2) (.int .i64 ((rd_T103 l0 x11_1).f0))) (fun _ hk => hk.2) (.int .i64 ((rd_T103 l0 x11_1).f1))) (fun _ hk => trivial))); (case aS => exact (below_size (bl1_ HB GE160))); (case aL => have := LMc22.out; omega); intro v168 w25 ho hb hg hat; rw [← Ny167.out] at ho; refine sh3_ (blk_grown (g := gb160) (o := .cells #[.int .i64 ((rd_T103 l0 x11_1).f0), .int .i64 ((rd_T103 l0 x11_1).f1)] 103 (0, 0)) (by (with_reducible repeat (first | refine blk_drewN ?_ _ | refine blk_drew ?_ | refine blk_alloc ?_ _)); refine blk_put (cs := #[.int .i64 ((rd_T103 l0 x11_1).f0), .int .i64 0]) ?_ 1 _ rfl; (with_reducible repeat (first | refine blk_drewN ?_ _ | refine blk_drew ?_ | refine blk_alloc ?_ _)); refine blk_put (cs := #[.int .i64 0, .int .i64 0]) ?_ 0 _ rfl; (with_reducible repeat (first | refine blk_drewN ?_ _ | refine blk_drew ?_ | refine blk_alloc ?_ _)); exact BK160.out) hg (Kd.R_ne HO_5.out BK160.out (by decide))) hb ho ?_; clear BK160 HB HO_5 ho hb hg hat; intro BK160 HB HO169))
      go_roundg k1
      case measure => have := HK1.out; omega
      case rel => exact ⟨(y167), (wrap64 (x11_1 + 1)), (by first | rfl | (simp; done) | (simp [*]; done)), H', ⟨by have := HK1.out; omega⟩, ⟨ra_ HO169⟩, ⟨bl1_ HB GE160⟩⟩
     ·rw [if_neg c21] at H
      obtain ⟨c21b0, c21b1⟩ := bn_ c21
      have H' := Aside0.mk H
      clear H
      have p159 : 0 ≤ (x11_1 : Int) := od_
      have q159 : x11_1 < (l0.length : Int) := od_
      obtain ⟨ad159, e159, hx159_0, hx159_1⟩ := at_T103 HR0.out x11_1 p159 q159
      cases e159
      replace hx159_0 := hbc_ HB hx159_0
      replace hx159_1 := hbc_ HB hx159_1
      replace p159 := eq_true p159
      replace q159 := eq_true q159
      go_wp2_with (first | ((with_reducible refine gd_ 7 ?_); refine bx_ 7 103 #[.int .i64 0, .int .i64 0] ?_; intro gb160 hg w26 hbox hb; refine sh5_ (Kd.R_below (ra_ HO_5) hb) (below_step (bl_ HB) hb) hbox (ge_ hg (bl_ HB)) (ge_ hg (bl_ HB)) ?_; clear HO_5 HB hb hbox hg; intro HO_5 HB BK160 GW160 GE160; have hcz27 := cf2_ BK160))
      go_roundg k1
      case measure => have := HK1.out; omega
      case rel => exact ⟨(x5_1), (wrap64 (x11_1 + 1)), (by first | rfl | (simp; done) | (simp [*]; done)), H', ⟨by have := HK1.out; omega⟩, ⟨by (with_reducible repeat (first | apply Kd.R_alloc | apply Kd.R_drewN | apply Kd.R_drew)); exact Kd.R_mono (Kd.R_far (p := ⟨gb160, 1, none⟩) (Kd.R_far (p := ⟨gb160, 0, none⟩) (Kd.R_types HO_5.out BK160.out (by decide)) (fun _ hk => hk.2) (.int .i64 ((rd_T103 l0 x11_1).f0))) (fun _ hk => hk.2) (.int .i64 ((rd_T103 l0 x11_1).f1))) (fun _ hk => trivial)⟩, ⟨bl1_ HB GE160⟩⟩
   ·rw [if_neg c5] at H
    have c5b0 : decide (x11_1 < (l0.length : Int)) = false := decide_eq_false c5
    clear c5
    replace H := bs_ H
    obtain ⟨t156, A28, H⟩ := H
    obtain rfl := Option.some.inj H
    obtain ⟨Ao29, co29, eo29⟩ := Kd.R_slice HO_5.out
    subst eo29
    go_wp2_with (first | ((with_reducible refine gate_callee (f := 107) rfl ?_); refine goesL_ (some 35) rfl rfl Try.func107 (by kernel_rfl) rfl #[.slice Ao29 x5_1.length co29] rfl mp_ ?_; (with_reducible refine (sortX_ (e := 3) (W := w) (ok := fun _ => True) (v := .slice Ao29 x5_1.length co29) (xs := x5_1) ?side1 ?side2 (sc108.out A28.out).1).mono ?_); (case side1 => (with_reducible repeat (first | apply Kd.R_alloc | apply Kd.R_drewN | apply Kd.R_drew)); exact HO_5.out); (case side2 => repeat (first | (with_reducible first | exact HB.out | apply below_alloc | apply pw_below_drewN | apply below_drew1) | exact HB.out)); rintro e w930 ⟨rfl, ho0, hb⟩; refine ⟨_, rfl, ?_⟩; have n0_ := Aside0.mk ho0; have n1_ := Aside0.mk hb; clear HO_5; clear HB; have HO_5 := n0_; have HB := n1_; clear n0_ n1_ ho0 hb) | ((with_reducible refine gate_callee (f := 108) rfl ?_); refine goesL_ (some 37) rfl rfl Try.func108 (by kernel_rfl) rfl #[.slice Ao29 x5_1.length co29] rfl mp_ ?_; (with_reducible refine (compactX_ (e := 3) (W := w) (ok := fun _ => True) (xs := x5_1) ?side1 ?side2 A28.out).mono ?_); (case side1 => (with_reducible repeat (first | apply Kd.R_alloc | apply Kd.R_drewN | apply Kd.R_drew)); exact HO_5.out); (case side2 => repeat (first | (with_reducible first | exact HB.out | apply below_alloc | apply pw_below_drewN | apply below_drew1) | exact HB.out)); rintro e w30 ⟨v157, rfl, ho0, hb⟩; refine ⟨_, rfl, ?_⟩; have n0_ := Aside0.mk ho0; have n1_ := Aside0.mk hb; clear HO_5; clear HB; have HO158 := n0_; have HB := n1_; clear n0_ n1_ ho0 hb))
    go_ret
    exact ⟨_, by first | (rw [hRT_.out]; rfl) | exact er_, by (with_reducible repeat (first | apply Kd.R_alloc | apply Kd.R_drewN | apply Kd.R_drew)); exact Kd.R_mono HO158.out (fun _ hk => trivial), bl_ HB⟩

/-- A state of type 123 at block g of W; what its slices lead to came in by w0. -/
def IsS123 (w0 W : World) (g : Nat) (f0 : List Int) (f1 : Int) (f2 : Int) : Prop := ∃ A0 c0, W.heap[g]? = some (.cells #[.slice A0 f0.length c0, .int .i64 f1, .int .i64 f2] 123 (0, 0)) ∧ w0.heap.size ≤ g ∧ Kd.C (Kd.int .u8) w0 A0 f0.length f0
theorem IsS123.grown {w0 W : World} {g : Nat} {f0 : List Int} {f1 : Int} {f2 : Int} {W1 : World} {row : Option Nat} (h : IsS123 w0 W g f0 f1 f2) (hw : W.grownBy W1 row) (hne : some g ≠ row) : IsS123 w0 W1 g f0 f1 f2 := by
 obtain ⟨A0, c0, hb, hg, hr0⟩ := h
 exact ⟨A0, c0, blk_grown hb hw hne, hg, hr0⟩
theorem IsS123.own_neN {w0 W : World} {g : Nat} {f0 : List Int} {f1 : Int} {f2 : Int} {α : Type} {d : Kd α} {e : Nat} {base : Nat} {ok : Nat → Prop} {v : Value} {xs : List α} (h : IsS123 w0 W g f0 f1 f2) (ho : Kd.N d e W base ok v xs) (ht : e ≠ 123) : some g ≠ v.ownBlock := by
 obtain ⟨A0, c0, hb, hg, hr0⟩ := h
 exact Kd.N_ne ho hb ht
theorem IsS123.fresh {w0 W : World} {g : Nat} {f0 : List Int} {f1 : Int} {f2 : Int} (h : IsS123 w0 W g f0 f1 f2) : ∀ k, W.heap.size ≤ k → k ≠ g := by
 obtain ⟨A0, c0, hb, hg, hr0⟩ := h
 exact Kd.freshB hb
theorem IsS123.kept {w0 W : World} {g : Nat} {f0 : List Int} {f1 : Int} {f2 : Int} {W1 : World} {S : Nat → Prop} (h : IsS123 w0 W g f0 f1 f2) (hk : Kept W W1 S) (hne : ¬ S g) : IsS123 w0 W1 g f0 f1 f2 := by
 obtain ⟨A0, c0, hb, hg, hr0⟩ := h
 exact ⟨A0, c0, blk_kept hb hk hne, hg, hr0⟩
theorem IsS123.below {w0 W : World} {g : Nat} {f0 : List Int} {f1 : Int} {f2 : Int} {W1 : World} (h : IsS123 w0 W g f0 f1 f2) (hw : Below W.heap.size W W1) : IsS123 w0 W1 g f0 f1 f2 := h.grown (grown_of_below hw none) (by simp)
theorem IsS123.alloc {w0 W : World} {g : Nat} {f0 : List Int} {f1 : Int} {f2 : Int} (h : IsS123 w0 W g f0 f1 f2) (o : Obj) : IsS123 w0 (W.alloc o) g f0 f1 f2 := h.below (below_alloc (Below.refl _ _) o)
theorem IsS123.drewN {w0 W : World} {g : Nat} {f0 : List Int} {f1 : Int} {f2 : Int} (h : IsS123 w0 W g f0 f1 f2) (m : Nat) : IsS123 w0 (W.drewN m) g f0 f1 f2 := h
theorem IsS123.drew {w0 W : World} {g : Nat} {f0 : List Int} {f1 : Int} {f2 : Int} (h : IsS123 w0 W g f0 f1 f2) : IsS123 w0 W.drew g f0 f1 f2 := h
theorem IsS123.at_ {w0 W : World} {g : Nat} {f0 : List Int} {f1 : Int} {f2 : Int} {w' : World} {m : Nat} (hq : W.drewN m = w') (h : IsS123 w0 W g f0 f1 f2) : IsS123 w0 w' g f0 f1 f2 := by subst hq; exact IsS123.drewN h m
theorem IsS123.apart {w0 W : World} {g : Nat} {f0 : List Int} {f1 : Int} {f2 : Int} {α : Type} {d : Kd α} {e : Nat} {base : Nat} {ok : Nat → Prop} {v : Value} {xs : List α} (h : IsS123 w0 W g f0 f1 f2) (ho : d.R e W base ok v xs) (ht : ∀ q, q ∈ e :: d.E → q ≠ 123) : d.R e W base (fun k => ok k ∧ k ≠ g) v xs := by
 obtain ⟨A0, c0, hb, hg, hr0⟩ := h
 exact Kd.R_types ho hb ht
theorem IsS123.own_ne {w0 W : World} {g : Nat} {f0 : List Int} {f1 : Int} {f2 : Int} {α : Type} {d : Kd α} {e : Nat} {base : Nat} {ok : Nat → Prop} {v : Value} {xs : List α} (h : IsS123 w0 W g f0 f1 f2) (ho : d.R e W base ok v xs) (ht : e ≠ 123) : some g ≠ v.ownBlock := by
 obtain ⟨A0, c0, hb, hg, hr0⟩ := h
 exact Kd.R_ne ho hb ht
theorem IsS123.apartQ {w0 W : World} {g : Nat} {f0 : List Int} {f1 : Int} {f2 : Int} {α : Type} {d : Kd α} {e : Nat} {base : Nat} {ok : Nat → Prop} {v : Value} {xs : List α} (h : IsS123 w0 W g f0 f1 f2) (ho : d.Q e W base ok v xs) (ht : ∀ q, q ∈ e :: d.E → q ≠ 123) : d.Q e W base (fun k => ok k ∧ k ≠ g) v xs := by
 obtain ⟨A0, c0, hb, hg, hr0⟩ := h
 exact Kd.Q_types ho hb ht
theorem IsS123.own_neQ {w0 W : World} {g : Nat} {f0 : List Int} {f1 : Int} {f2 : Int} {α : Type} {d : Kd α} {e : Nat} {base : Nat} {ok : Nat → Prop} {v : Value} {xs : List α} (h : IsS123 w0 W g f0 f1 f2) (ho : d.Q e W base ok v xs) (ht : e ≠ 123) : some g ≠ v.ownBlock := by
 obtain ⟨A0, c0, hb, hg, hr0⟩ := h
 exact Kd.Q_ne ho hb ht
theorem IsS123.apartS {w0 W : World} {g : Nat} {f0 : List Int} {f1 : Int} {f2 : Int} {α : Type} {d : Kd α} {e : Nat} {base : Nat} {ok : Nat → Prop} {v : Value} {xs : List α} (h : IsS123 w0 W g f0 f1 f2) (ho : d.S e W base ok v xs) (ht : ∀ q, q ∈ e :: d.E → q ≠ 123) : d.S e W base (fun k => ok k ∧ k ≠ g) v xs := by
 obtain ⟨A0, c0, hb, hg, hr0⟩ := h
 exact Kd.S_types ho hb ht
theorem IsS123.own_neS {w0 W : World} {g : Nat} {f0 : List Int} {f1 : Int} {f2 : Int} {α : Type} {d : Kd α} {e : Nat} {base : Nat} {ok : Nat → Prop} {v : Value} {xs : List α} (h : IsS123 w0 W g f0 f1 f2) (ho : d.S e W base ok v xs) (ht : e ≠ 123) : some g ≠ v.ownBlock := by
 obtain ⟨A0, c0, hb, hg, hr0⟩ := h
 exact Kd.S_ne ho hb ht
theorem IsS123.lt {w0 W : World} {g : Nat} {f0 : List Int} {f1 : Int} {f2 : Int} (h : IsS123 w0 W g f0 f1 f2) : g < W.heap.size := by
 obtain ⟨A0, c0, hb, hg, hr0⟩ := h
 exact blk_lt hb
theorem IsS123.ge {w0 W : World} {g : Nat} {f0 : List Int} {f1 : Int} {f2 : Int} (h : IsS123 w0 W g f0 f1 f2) : w0.heap.size ≤ g := by
 obtain ⟨A0, c0, hb, hg, hr0⟩ := h
 exact hg
theorem IsS123.ne_blk {w0 W : World} {g : Nat} {f0 : List Int} {f1 : Int} {f2 : Int} {a : Nat} {cs : Array Value} {t : TypeId} {fr : Nat × Nat} (h : IsS123 w0 W g f0 f1 f2) (hb2 : W.heap[a]? = some (.cells cs t fr)) (ht : t ≠ 123) : g ≠ a := by
 obtain ⟨A0, c0, hb, hg, hr0⟩ := h
 rintro rfl
 rw [hb] at hb2
 injection hb2 with hb2
 injection hb2 with _ ht2
 exact ht ht2.symm
theorem IsS123.far {w0 W : World} {g : Nat} {f0 : List Int} {f1 : Int} {f2 : Int} {p : Addr} (h : IsS123 w0 W g f0 f1 f2) (hne : g ≠ p.block) (u : Value) : IsS123 w0 (W.setCell p u) g f0 f1 f2 := by
 obtain ⟨A0, c0, hb, hg, hr0⟩ := h
 exact ⟨A0, c0, blk_far hb hne u, hg, hr0⟩
theorem cellS123_0 {W : World} {g : Nat} {A0 : Option Addr} {c0 : Nat} {f0 : List Int} {f1 : Int} {f2 : Int} (h : W.heap[g]? = some (.cells #[.slice A0 f0.length c0, .int .i64 f1, .int .i64 f2] 123 (0, 0))) : W.cell? ⟨g, 0, none⟩ = some (.slice A0 f0.length c0) := (blk_cell h 0).trans rfl
theorem cellS123_1 {W : World} {g : Nat} {A0 : Option Addr} {c0 : Nat} {f0 : List Int} {f1 : Int} {f2 : Int} (h : W.heap[g]? = some (.cells #[.slice A0 f0.length c0, .int .i64 f1, .int .i64 f2] 123 (0, 0))) : W.cell? ⟨g, 1, none⟩ = some (.int .i64 f1) := (blk_cell h 1).trans rfl
theorem IsS123.set_1 {w0 W : World} {g : Nat} {f0 : List Int} {f1 : Int} {f2 : Int} (h : IsS123 w0 W g f0 f1 f2) (x : Int) : IsS123 w0 (W.setCell ⟨g, 1, none⟩ (.int .i64 x)) g f0 x f2 := by
 obtain ⟨A0, c0, hb, hg, hr0⟩ := h
 exact ⟨A0, c0, by simpa using blk_set hb 1 (.int .i64 x), hg, hr0⟩
theorem cellS123_2 {W : World} {g : Nat} {A0 : Option Addr} {c0 : Nat} {f0 : List Int} {f1 : Int} {f2 : Int} (h : W.heap[g]? = some (.cells #[.slice A0 f0.length c0, .int .i64 f1, .int .i64 f2] 123 (0, 0))) : W.cell? ⟨g, 2, none⟩ = some (.int .i64 f2) := (blk_cell h 2).trans rfl
theorem IsS123.set_2 {w0 W : World} {g : Nat} {f0 : List Int} {f1 : Int} {f2 : Int} (h : IsS123 w0 W g f0 f1 f2) (x : Int) : IsS123 w0 (W.setCell ⟨g, 2, none⟩ (.int .i64 x)) g f0 f1 x := by
 obtain ⟨A0, c0, hb, hg, hr0⟩ := h
 exact ⟨A0, c0, by simpa using blk_set hb 2 (.int .i64 x), hg, hr0⟩
theorem IsS123.new (w0 W : World) (A0 : Option Addr) (c0 : Nat) (f0 : List Int) (f1 : Int) (f2 : Int) (hB : Below w0.heap.size w0 W) (hr0 : Kd.C (Kd.int .u8) w0 A0 f0.length f0) : IsS123 w0 (W.alloc (.cells #[.slice A0 f0.length c0, .int .i64 f1, .int .i64 f2] 123)) W.heap.size f0 f1 f2 := ⟨A0, c0, by simpa using heap_alloc_new W _, hB.size, hr0⟩

/-! ### spec_l1New: function 71 -/
def spec_l1New.l0 : Nat → List Int → Int → Int → Option (List Int × Int × Int)
 | 0, _, _, _ => none
 | k + 1, x0, x3, x4 => if x4 < (x0.length : Int) then (if x4 < 4000 then (if 0 ≤ x4 then (spec_l1New.l0 k x0 (Go.bits .and .i64 (wrap64 ((wrap64 ((wrap64 (x3 * 137)) + (wrap64 (rd x0 x4)))) + 11)) 1073741823) (wrap64 (x4 + 1))) else (none)) else (some (x0, 0, x3))) else (some (x0, 0, x3))
def spec_l1New.f (k : Nat) (l0 : List Int) : Option (List Int × Int × Int) := spec_l1New.l0 k l0 (wrap64 (193017 + (l0.length : Int))) 0
theorem spec_l1New.mono_l : ∀ k, (∀ y0 y1 y2, LeO (spec_l1New.l0 k y0 y1 y2) (spec_l1New.l0 (k + 1) y0 y1 y2))
 | 0 => fun _ _ _ r h => by simp [spec_l1New.l0] at h
 | k + 1 => by
  have ih0 := spec_l1New.mono_l k
  ·intro y0 y1 y2
   unfold spec_l1New.l0
   repeat' first | (with_reducible first | exact ih0 _ _ _ | exact LeO.refl _ | exact LeO.none _ | refine LeO.ite ?_ ?_ | refine LeO.bind ?_ (fun _ => ?_)) | exact LeO.none _ | refine LeO.ite ?_ ?_ | refine LeO.bind ?_ (fun _ => ?_)
theorem spec_l1New.mono : ∀ a0 k, LeO (spec_l1New.f k a0) (spec_l1New.f (k + 1) a0) := by
 intro a0 k
 have ih0 := spec_l1New.mono_l k
 unfold spec_l1New.f
 repeat' first | (with_reducible first | exact ih0 _ _ _ | exact LeO.refl _ | exact LeO.none _ | refine LeO.ite ?_ ?_ | refine LeO.bind ?_ (fun _ => ?_)) | exact LeO.none _ | refine LeO.ite ?_ ?_ | refine LeO.bind ?_ (fun _ => ?_)
set_option maxHeartbeats 8000000 in
set_option maxRecDepth 100000 in
theorem spec_l1New.calls (k : Nat) (A0 : Option Addr) (c0 : Nat) (l0 : List Int) (r1 : List Int) (r2 : Int) (r3 : Int) (w0 w : World) (hB : Below w0.heap.size w0 w) (hr0 : Kd.C (Kd.int .u8) w0 A0 l0.length l0) (hc0 : l0.length ≤ c0) (h : spec_l1New.f k l0 = some (r1, r2, r3)) :
  Calls Try.prog 71 #[.slice A0 l0.length c0] w fun e w' => ∃ g_ : Nat, e = .returned (.pointer (some ⟨g_, 0, none⟩)) ∧ IsS123 w0 w' g_ r1 r2 r3 ∧ Below w0.heap.size w0 w' ∧ Below w.heap.size w w' := by
 have hu123 := Try.underlying123
 have HR0 := Aside0.mk hr0
 have HC0 := Aside0.mk hc0
 clear hr0 hc0
 have HBW := Aside0.mk (Below.refl w.heap.size w)
 have HW0 := Aside0.mk hB.size
 have HB := Aside0.mk hB
 clear hB
 have H := h
 clear h
 unfold spec_l1New.f at H
 have H' := Aside0.mk H
 clear H
 go_enter Try.func71, Try.ntmps71
 go_wp2
 go_loopg [3, 4] k (fun kq v3 v4 w' => ∃ (x3_1 : Int) (x4_1 : Int), v3 = .int .i64 x3_1 ∧ v4 = .int .i64 x4_1 ∧ Aside0 (spec_l1New.l0 kq l0 x3_1 x4_1 = some (r1, r2, r3)) ∧ Aside0 (kq ≤ k) ∧ Aside0 (Below w0.heap.size w0 w') ∧ Aside0 (Below w.heap.size w w'))
 case atStart => exact ⟨(wrap64 (193017 + (l0.length : Int))), (0), (by first | rfl | (simp; done) | (simp [*]; done)), (by first | rfl | (simp; done) | (simp [*]; done)), H', ⟨Nat.le_refl _⟩, ⟨bl_ HB⟩, ⟨by repeat (first | (with_reducible first | exact HBW.out | apply below_alloc | apply pw_below_drewN | apply below_drew1) | exact HBW.out)⟩⟩
 case round =>
  clear H'
  obtain ⟨x3_1, x4_1, rfl, rfl, HA, HK1, HB, HBW⟩ := hrel
  cases gk with
  | zero => exact absurd HA.out (by simp [spec_l1New.l0])
  | succ k1 =>
   have H := HA.out
   clear HA
   simp only [spec_l1New.l0] at H
   by_cases c2 : x4_1 < (l0.length : Int)
   ·rw [if_pos c2] at H
    have c2b0 := decide_eq_true c2
    clear c2
    by_cases c3 : x4_1 < 4000
    ·rw [if_pos c3] at H
     have c3b0 := decide_eq_true c3
     clear c3
     replace H := ifn_ H
     obtain ⟨c4, H⟩ := H
     have c4b0 := decide_eq_true c4
     clear c4
     have H' := Aside0.mk H
     clear H
     have p170 : 0 ≤ (x4_1 : Int) := od_
     have q170 : x4_1 < (l0.length : Int) := od_
     obtain ⟨ad170, e170, hx170_0⟩ := Kd.at_int HR0.out x4_1 p170 q170
     cases e170
     replace hx170_0 := pw_cell_below HB.out hx170_0
     replace p170 := eq_true p170
     replace q170 := eq_true q170
     go_wp2
     go_roundg k1
     case measure => have := HK1.out; omega
     case rel => exact ⟨(Go.bits .and .i64 (wrap64 ((wrap64 ((wrap64 (x3_1 * 137)) + (wrap64 (rd l0 x4_1)))) + 11)) 1073741823), (wrap64 (x4_1 + 1)), (by first | rfl | (simp; done) | (simp [*]; done)), (by first | rfl | (simp; done) | (simp [*]; done)), H', ⟨by have := HK1.out; omega⟩, ⟨bl_ HB⟩, ⟨by repeat (first | (with_reducible first | exact HBW.out | apply below_alloc | apply pw_below_drewN | apply below_drew1) | exact HBW.out)⟩⟩
    ·rw [if_neg c3] at H
     have c3b0 := decide_eq_false c3
     clear c3
     simp only [Option.some.injEq, Prod.mk.injEq] at H
     obtain ⟨rfl, rfl, rfl⟩ := H
     go_wp2_with (first | ((with_reducible refine gd_ 31 ?_); refine bx_ 31 123 #[.slice A0 l0.length c0, .int .i64 0, .int .i64 x3_1] ?_; intro gb171 hg w5 hbox hb; refine sh5_ (below_step HBW.out hb) (below_step (bl_ HB) hb) hbox (ge_ hg (by repeat (first | (with_reducible first | exact HBW.out | apply below_alloc | apply pw_below_drewN | apply below_drew1) | exact HBW.out))) ((Nat.le_trans HW0.out (by rw [hg]; exact (below_size (by repeat (first | (with_reducible first | exact HBW.out | apply below_alloc | apply pw_below_drewN | apply below_drew1) | exact HBW.out))) : w.heap.size ≤ gb171) : w0.heap.size ≤ gb171)) ?_; clear HBW HB hb hbox hg; intro HBW HB BK171 GW171 GE171))
     go_ret
     exact ⟨_, rfl, (show IsS123 w0 _ gb171 l0 0 x3_1 from ⟨_, _, by (with_reducible repeat (first | refine blk_drewN ?_ _ | refine blk_drew ?_ | refine blk_alloc ?_ _)); exact BK171.out, GE171.out, HR0.out⟩), bl1_ HB GE171, by repeat (first | (with_reducible first | exact HBW.out | apply below_alloc | apply pw_below_drewN | apply below_drew1 | refine below_set ?_ GW171.out) | exact HBW.out)⟩
   ·rw [if_neg c2] at H
    have c2b0 := decide_eq_false c2
    clear c2
    simp only [Option.some.injEq, Prod.mk.injEq] at H
    obtain ⟨rfl, rfl, rfl⟩ := H
    go_wp2_with (first | ((with_reducible refine gd_ 31 ?_); refine bx_ 31 123 #[.slice A0 l0.length c0, .int .i64 0, .int .i64 x3_1] ?_; intro gb172 hg w6 hbox hb; refine sh5_ (below_step HBW.out hb) (below_step (bl_ HB) hb) hbox (ge_ hg (by repeat (first | (with_reducible first | exact HBW.out | apply below_alloc | apply pw_below_drewN | apply below_drew1) | exact HBW.out))) ((Nat.le_trans HW0.out (by rw [hg]; exact (below_size (by repeat (first | (with_reducible first | exact HBW.out | apply below_alloc | apply pw_below_drewN | apply below_drew1) | exact HBW.out))) : w.heap.size ≤ gb172) : w0.heap.size ≤ gb172)) ?_; clear HBW HB hb hbox hg; intro HBW HB BK172 GW172 GE172))
    go_ret
    exact ⟨_, rfl, (show IsS123 w0 _ gb172 l0 0 x3_1 from ⟨_, _, by (with_reducible repeat (first | refine blk_drewN ?_ _ | refine blk_drew ?_ | refine blk_alloc ?_ _)); exact BK172.out, GE172.out, HR0.out⟩), bl1_ HB GE172, by repeat (first | (with_reducible first | exact HBW.out | apply below_alloc | apply pw_below_drewN | apply below_drew1 | refine below_set ?_ GW172.out) | exact HBW.out)⟩

end Go.Proofs.Ytlljhblilicnfaa.PFnGraphs
