-- Written by a program of this session for this claim (the kit's printer with changes).
import Derived.Test.YtcjfalmhohcifaaQFnExactSpeakingSpansx0
import Derived.Test.YtcjfalmhohcifaaQFnExactSpeakingSpansx1
import Derived.Test.YtcjfalmhohcifaaQFnExactSpeakingSpansx3
namespace Go.Proofs.Ytcjfalmhohcifaa.PFnExactSpeakingSpans
open Go.RowKit Go.Proofs.YtcjfalmhohcifaaW.PrintWords Go.Proofs.YtcjfalmhohcifaaW.PrintLast Go.Proofs.YtcjfalmhohcifaaW.PrintMore
attribute [local go_sem] max2_int min2_int max_two min_two max_three min_three max_four min_four   -- for this text's walks alone
set_option linter.unusedVariables false
set_option linter.unusedSimpArgs false

/-! ### spec_InArc: function 116 -/
def spec_InArc.f (a0_0 : Int) (a0_1 : Int) (a1 : Int) : Option (Bool) := if a0_1 ≥ 0 then ((spec_AngleOf.f a1).bind fun t226 => ((spec_AngleOf.f a0_0).bind fun t227 => ((spec_AngleOf.f (wrap64 (t226 - t227))).bind fun t228 => (some (decide (t228 ≤ a0_1)))))) else (some false)
set_option maxHeartbeats 8000000 in
set_option maxRecDepth 100000 in
theorem spec_InArc.calls (a0_0 : Int) (a0_1 : Int) (a1 : Int) (r : Bool) (w : World) (h : spec_InArc.f a0_0 a0_1 a1 = some r) :
  Calls Try.prog 116 #[.agg #[.int .i64 a0_0, .int .i64 a0_1], .int .i64 a1] w fun e w' => e = .returned (.bool r) ∧ Below w.heap.size w w' := by
 have hu113 := Try.underlying113
 have HB := Aside0.mk (Below.refl w.heap.size w)
 have H := h
 clear h
 unfold spec_InArc.f at H
 by_cases c3 : a0_1 ≥ 0
 ·rw [if_pos c3] at H
  have c3b0 : decide (0 ≤ a0_1) = true := decide_eq_true c3
  clear c3
  replace H := bs_ H
  obtain ⟨t226, A4, H⟩ := H
  replace H := bs_ H
  obtain ⟨t227, A5, H⟩ := H
  obtain ⟨ji6, hji6⟩ : ∃ j_ : Int, (wrap64 (t226 - t227)) = j_ := ⟨_, rfl⟩
  replace H : ((spec_AngleOf.f (ji6)).bind fun t228 => (some (decide (t228 ≤ a0_1)))) = some r := by first | (rw [hji6] at H; exact H) | (simp only [hji6] at H ⊢; exact H)
  (try rw [hji6] at A4)
  (try rw [hji6] at A5)
  have hji6w : (IntKind.i64.wrap (t226 - t227)) = ji6 := (i64_w _).trans hji6
  replace H := bs_ H
  obtain ⟨t228, A7, H⟩ := H
  obtain rfl := Option.some.inj H
  go_enter Try.func116, Try.ntmps116
  go_wp2_with (first | ((with_reducible refine gd_ 2 ?_); refine bx_ 2 113 #[.int .i64 a0_0, .int .i64 a0_1] ?_; intro gb225 hg w8 hbox hb; refine sh3_ (below_step (bl_ HB) hb) hbox (ge_ hg (bl_ HB)) ?_; clear HB hb hbox hg; intro HB BK225 GE225; have hcz9 := cf2_ BK225) | (go_at_call 127; (with_reducible refine (spec_AngleOf.calls a1 t226 _ A4.out).mono ?_); rintro e w' ⟨rfl, ⟨nd, rfl⟩⟩; (try exact dd_)) | (go_at_call 127; (with_reducible refine (spec_AngleOf.calls a0_0 t227 _ A5.out).mono ?_); rintro e w' ⟨rfl, ⟨nd, rfl⟩⟩; (try exact dd_)) | (go_at_call 127; (with_reducible refine (spec_AngleOf.calls ji6 t228 _ A7.out).mono ?_); rintro e w' ⟨rfl, ⟨nd, rfl⟩⟩; (try exact dd_)))
  repeat (go_quiet (first | ((with_reducible refine gd_ 2 ?_); refine bx_ 2 113 #[.int .i64 a0_0, .int .i64 a0_1] ?_; intro gb225 hg w8 hbox hb; refine sh3_ (below_step (bl_ HB) hb) hbox (ge_ hg (bl_ HB)) ?_; clear HB hb hbox hg; intro HB BK225 GE225; have hcz9 := cf2_ BK225) | (go_at_call 127; (with_reducible refine (spec_AngleOf.calls a1 t226 _ A4.out).mono ?_); rintro e w' ⟨rfl, ⟨nd, rfl⟩⟩; (try exact dd_)) | (go_at_call 127; (with_reducible refine (spec_AngleOf.calls a0_0 t227 _ A5.out).mono ?_); rintro e w' ⟨rfl, ⟨nd, rfl⟩⟩; (try exact dd_)) | (go_at_call 127; (with_reducible refine (spec_AngleOf.calls ji6 t228 _ A7.out).mono ?_); rintro e w' ⟨rfl, ⟨nd, rfl⟩⟩; (try exact dd_))); try go_wp2_with (first | ((with_reducible refine gd_ 2 ?_); refine bx_ 2 113 #[.int .i64 a0_0, .int .i64 a0_1] ?_; intro gb225 hg w8 hbox hb; refine sh3_ (below_step (bl_ HB) hb) hbox (ge_ hg (bl_ HB)) ?_; clear HB hb hbox hg; intro HB BK225 GE225; have hcz9 := cf2_ BK225) | (go_at_call 127; (with_reducible refine (spec_AngleOf.calls a1 t226 _ A4.out).mono ?_); rintro e w' ⟨rfl, ⟨nd, rfl⟩⟩; (try exact dd_)) | (go_at_call 127; (with_reducible refine (spec_AngleOf.calls a0_0 t227 _ A5.out).mono ?_); rintro e w' ⟨rfl, ⟨nd, rfl⟩⟩; (try exact dd_)) | (go_at_call 127; (with_reducible refine (spec_AngleOf.calls ji6 t228 _ A7.out).mono ?_); rintro e w' ⟨rfl, ⟨nd, rfl⟩⟩; (try exact dd_))))
  go_ret
  exact ⟨by first | rfl | (simp [errW_none, errW_some] <;> rfl) | (simp only [← hji6]; first | rfl | (simp [errW_none, errW_some] <;> rfl)) | (simp [*, errW_none, errW_some] <;> rfl), bl1_ HB GE225⟩
 ·rw [if_neg c3] at H
  have c3b0 : decide (0 ≤ a0_1) = false := decide_eq_false c3
  clear c3
  obtain rfl := Option.some.inj H
  go_enter Try.func116, Try.ntmps116
  go_wp2_with (first | ((with_reducible refine gd_ 2 ?_); refine bx_ 2 113 #[.int .i64 a0_0, .int .i64 a0_1] ?_; intro gb225 hg w10 hbox hb; refine sh3_ (below_step (bl_ HB) hb) hbox (ge_ hg (bl_ HB)) ?_; clear HB hb hbox hg; intro HB BK225 GE225; have hcz11 := cf2_ BK225))
  repeat (go_quiet (first | ((with_reducible refine gd_ 2 ?_); refine bx_ 2 113 #[.int .i64 a0_0, .int .i64 a0_1] ?_; intro gb225 hg w10 hbox hb; refine sh3_ (below_step (bl_ HB) hb) hbox (ge_ hg (bl_ HB)) ?_; clear HB hb hbox hg; intro HB BK225 GE225; have hcz11 := cf2_ BK225)); try go_wp2_with (first | ((with_reducible refine gd_ 2 ?_); refine bx_ 2 113 #[.int .i64 a0_0, .int .i64 a0_1] ?_; intro gb225 hg w10 hbox hb; refine sh3_ (below_step (bl_ HB) hb) hbox (ge_ hg (bl_ HB)) ?_; clear HB hb hbox hg; intro HB BK225 GE225; have hcz11 := cf2_ BK225)))
  go_ret
  exact ⟨er_, bl1_ HB GE225⟩

/-! ### spec_ArcsMeet: function 102 -/
def spec_ArcsMeet.f (a0_0 : Int) (a0_1 : Int) (a1_0 : Int) (a1_1 : Int) : Option (Bool) := if a0_1 ≥ 0 then (if a1_1 ≥ 0 then ((spec_InArc.f a0_0 a0_1 a1_0).bind fun t231 => (if t231 = true then (some true) else ((spec_InArc.f a1_0 a1_1 a0_0).bind fun t232 => (some t232)))) else (some false)) else (some false)
set_option maxHeartbeats 8000000 in
set_option maxRecDepth 100000 in
theorem spec_ArcsMeet.calls (a0_0 : Int) (a0_1 : Int) (a1_0 : Int) (a1_1 : Int) (r : Bool) (w : World) (h : spec_ArcsMeet.f a0_0 a0_1 a1_0 a1_1 = some r) :
  Calls Try.prog 102 #[.agg #[.int .i64 a0_0, .int .i64 a0_1], .agg #[.int .i64 a1_0, .int .i64 a1_1]] w fun e w' => e = .returned (.bool r) ∧ Below w.heap.size w w' := by
 have hu113 := Try.underlying113
 have HB := Aside0.mk (Below.refl w.heap.size w)
 have H := h
 clear h
 unfold spec_ArcsMeet.f at H
 by_cases c3 : a0_1 ≥ 0
 ·rw [if_pos c3] at H
  have c3b0 : decide (0 ≤ a0_1) = true := decide_eq_true c3
  clear c3
  by_cases c4 : a1_1 ≥ 0
  ·rw [if_pos c4] at H
   have c4b0 : decide (0 ≤ a1_1) = true := decide_eq_true c4
   clear c4
   replace H := bs_ H
   obtain ⟨t231, A5, H⟩ := H
   by_cases c6 : t231 = true
   ·subst c6
    rw [if_pos rfl] at H
    obtain rfl := Option.some.inj H
    go_enter Try.func102, Try.ntmps102
    go_wp2_with (first | ((with_reducible refine gd_ 2 ?_); refine bx_ 2 113 #[.int .i64 a0_0, .int .i64 a0_1] ?_; intro gb229 hg w7 hbox hb; refine sh3_ (below_step (bl_ HB) hb) hbox (ge_ hg (bl_ HB)) ?_; clear HB hb hbox hg; intro HB BK229 GE229) | ((with_reducible refine gd_ 3 ?_); refine bx_ 3 113 #[.int .i64 a1_0, .int .i64 a1_1] ?_; intro gb230 hg w8 hbox hb; refine sh6_ (blk_below (bk_ BK229) hb) (below_step (bl1_ HB GE229) hb) hbox (ge_ hg (bl1_ HB GE229)) (nl_ hg (bk_ BK229)) (ng_ hg (bk_ BK229)) ?_; clear BK229 HB hb hbox hg; intro BK229 HB BK230 GE230 NB229_230 NB230_229; have hnb9 := NB229_230.out; have hnc9 := NB230_229.out; have hcz10 := cf2_ BK229; have hcz11 := cf2_ BK230) | (go_at_call 116; (with_reducible refine (spec_InArc.calls a0_0 a0_1 a1_0 true _ A5.out).mono ?_); rintro e w12 ⟨rfl, hb⟩; refine sh3_ (blk_below (bk_ BK229) hb) (blk_below (bk_ BK230) hb) (below_step (bl2_ HB GE229 GE230) hb) ?_; clear BK229 BK230 HB hb; intro BK229 BK230 HB))
    go_ret
    exact ⟨er_, bl2_ HB GE229 GE230⟩
   ·replace c6 := Bool.eq_false_iff.mpr c6
    subst c6
    have H1 : ((spec_InArc.f a1_0 a1_1 a0_0).bind fun t232 => (some t232)) = some r := by rw [if_neg (show ¬ (false = true) by decide)] at H; exact H
    clear H
    have H := H1
    clear H1
    replace H := bs_ H
    obtain ⟨t232, A13, H⟩ := H
    obtain rfl := Option.some.inj H
    go_enter Try.func102, Try.ntmps102
    go_wp2_with (first | ((with_reducible refine gd_ 2 ?_); refine bx_ 2 113 #[.int .i64 a0_0, .int .i64 a0_1] ?_; intro gb229 hg w14 hbox hb; refine sh3_ (below_step (bl_ HB) hb) hbox (ge_ hg (bl_ HB)) ?_; clear HB hb hbox hg; intro HB BK229 GE229) | ((with_reducible refine gd_ 3 ?_); refine bx_ 3 113 #[.int .i64 a1_0, .int .i64 a1_1] ?_; intro gb230 hg w15 hbox hb; refine sh6_ (blk_below (bk_ BK229) hb) (below_step (bl1_ HB GE229) hb) hbox (ge_ hg (bl1_ HB GE229)) (nl_ hg (bk_ BK229)) (ng_ hg (bk_ BK229)) ?_; clear BK229 HB hb hbox hg; intro BK229 HB BK230 GE230 NB229_230 NB230_229; have hnb16 := NB229_230.out; have hnc16 := NB230_229.out; have hcz17 := cf2_ BK229; have hcz18 := cf2_ BK230) | (go_at_call 116; (with_reducible refine (spec_InArc.calls a0_0 a0_1 a1_0 false _ A5.out).mono ?_); rintro e w19 ⟨rfl, hb⟩; refine sh3_ (blk_below (bk_ BK229) hb) (blk_below (bk_ BK230) hb) (below_step (bl2_ HB GE229 GE230) hb) ?_; clear BK229 BK230 HB hb; intro BK229 BK230 HB; have hcz20 := cf2_ BK230; have hcz21 := cf2_ BK229) | (go_at_call 116; (with_reducible refine (spec_InArc.calls a1_0 a1_1 a0_0 t232 _ A13.out).mono ?_); rintro e w22 ⟨rfl, hb⟩; refine sh3_ (blk_below (bk_ BK229) hb) (blk_below (bk_ BK230) hb) (below_step (bl2_ HB GE229 GE230) hb) ?_; clear BK229 BK230 HB hb; intro BK229 BK230 HB))
    go_ret
    exact ⟨er_, bl2_ HB GE229 GE230⟩
  ·rw [if_neg c4] at H
   have c4b0 : decide (0 ≤ a1_1) = false := decide_eq_false c4
   clear c4
   obtain rfl := Option.some.inj H
   go_enter Try.func102, Try.ntmps102
   go_wp2_with (first | ((with_reducible refine gd_ 2 ?_); refine bx_ 2 113 #[.int .i64 a0_0, .int .i64 a0_1] ?_; intro gb229 hg w23 hbox hb; refine sh3_ (below_step (bl_ HB) hb) hbox (ge_ hg (bl_ HB)) ?_; clear HB hb hbox hg; intro HB BK229 GE229) | ((with_reducible refine gd_ 3 ?_); refine bx_ 3 113 #[.int .i64 a1_0, .int .i64 a1_1] ?_; intro gb230 hg w24 hbox hb; refine sh6_ (blk_below (bk_ BK229) hb) (below_step (bl1_ HB GE229) hb) hbox (ge_ hg (bl1_ HB GE229)) (nl_ hg (bk_ BK229)) (ng_ hg (bk_ BK229)) ?_; clear BK229 HB hb hbox hg; intro BK229 HB BK230 GE230 NB229_230 NB230_229; have hnb25 := NB229_230.out; have hnc25 := NB230_229.out; have hcz26 := cf2_ BK229; have hcz27 := cf2_ BK230))
   go_ret
   exact ⟨er_, bl2_ HB GE229 GE230⟩
 ·rw [if_neg c3] at H
  have c3b0 : decide (0 ≤ a0_1) = false := decide_eq_false c3
  clear c3
  obtain rfl := Option.some.inj H
  go_enter Try.func102, Try.ntmps102
  go_wp2_with (first | ((with_reducible refine gd_ 2 ?_); refine bx_ 2 113 #[.int .i64 a0_0, .int .i64 a0_1] ?_; intro gb229 hg w28 hbox hb; refine sh3_ (below_step (bl_ HB) hb) hbox (ge_ hg (bl_ HB)) ?_; clear HB hb hbox hg; intro HB BK229 GE229) | ((with_reducible refine gd_ 3 ?_); refine bx_ 3 113 #[.int .i64 a1_0, .int .i64 a1_1] ?_; intro gb230 hg w29 hbox hb; refine sh6_ (blk_below (bk_ BK229) hb) (below_step (bl1_ HB GE229) hb) hbox (ge_ hg (bl1_ HB GE229)) (nl_ hg (bk_ BK229)) (ng_ hg (bk_ BK229)) ?_; clear BK229 HB hb hbox hg; intro BK229 HB BK230 GE230 NB229_230 NB230_229; have hnb30 := NB229_230.out; have hnc30 := NB230_229.out; have hcz31 := cf2_ BK229))
  go_ret
  exact ⟨er_, bl2_ HB GE229 GE230⟩

/-! ### spec_MayDisturb: function 81 -/
def spec_MayDisturb.l0 : Nat → Int → Int → Int → Int → List (S105) → List (S109) → Int → Int → Int → Int → Int → List (S115) → Int → Option (Bool)
 | 0, _, _, _, _, _, _, _, _, _, _, _, _, _ => none
 | k + 1, x1, x2, x7, x234000, x234001, x234002, x234003, x234004, x234005, x234006, x234007, x234008, x234009 => if x7 < (x234008.length : Int) then (if 0 ≤ x7 then (if 0 ≤ x1 then (if x1 < (x234001.length : Int) then (if ((rd_T115 x234008 x7).f0) = ((rd_T105 x234001 x1).f0) then ((spec_NodeAt.f k x234000 x234001 x234002 x234003 x234004 x234005 x234006 x234007 x234008 x234009 x1 x2).bind fun bt237 => ((spec_ArcsMeet.f bt237.1 bt237.2 ((rd_T115 x234008 x7).f1.f0) ((rd_T115 x234008 x7).f1.f1)).bind fun t240 => (if t240 = true then (some true) else (spec_MayDisturb.l0 k x1 x2 (wrap64 (x7 + 1)) x234000 x234001 x234002 x234003 x234004 x234005 x234006 x234007 x234008 x234009)))) else (spec_MayDisturb.l0 k x1 x2 (wrap64 (x7 + 1)) x234000 x234001 x234002 x234003 x234004 x234005 x234006 x234007 x234008 x234009)) else (none)) else (none)) else (none)) else (some false)
def spec_MayDisturb.f (k : Nat) (a0_0 : Int) (l0_1 : List (S105)) (l0_2 : List (S109)) (a0_3 : Int) (a0_4 : Int) (a0_5 : Int) (a0_6 : Int) (a0_7 : Int) (l0_8 : List (S115)) (a0_9 : Int) (a1 : Int) (a2 : Int) : Option (Bool) := (spec_l1In.f a1 0 (wrap64 ((l0_1.length : Int) - 1))).bind fun t234 => (if t234 = true then (spec_MayDisturb.l0 k a1 a2 0 a0_0 l0_1 l0_2 a0_3 a0_4 a0_5 a0_6 a0_7 l0_8 a0_9) else (some false))
theorem spec_MayDisturb.mono_l : ∀ k, (∀ y0 y1 y2 y3 y4 y5 y6 y7 y8 y9 y10 y11 y12, LeO (spec_MayDisturb.l0 k y0 y1 y2 y3 y4 y5 y6 y7 y8 y9 y10 y11 y12) (spec_MayDisturb.l0 (k + 1) y0 y1 y2 y3 y4 y5 y6 y7 y8 y9 y10 y11 y12))
 | 0 => fun _ _ _ _ _ _ _ _ _ _ _ _ _ r h => by simp [spec_MayDisturb.l0] at h
 | k + 1 => by
  have ih0 := spec_MayDisturb.mono_l k
  ·intro y0 y1 y2 y3 y4 y5 y6 y7 y8 y9 y10 y11 y12
   unfold spec_MayDisturb.l0
   repeat' first | (with_reducible first | exact ih0 _ _ _ _ _ _ _ _ _ _ _ _ _ | exact spec_NodeAt.mono _ _ _ _ _ _ _ _ _ _ _ _ _ | exact LeO.refl _ | exact LeO.none _ | refine LeO.ite ?_ ?_ | refine LeO.bind ?_ (fun _ => ?_)) | exact LeO.none _ | refine LeO.ite ?_ ?_ | refine LeO.bind ?_ (fun _ => ?_)
theorem spec_MayDisturb.mono : ∀ a0 a1 a2 a3 a4 a5 a6 a7 a8 a9 a10 a11 k, LeO (spec_MayDisturb.f k a0 a1 a2 a3 a4 a5 a6 a7 a8 a9 a10 a11) (spec_MayDisturb.f (k + 1) a0 a1 a2 a3 a4 a5 a6 a7 a8 a9 a10 a11) := by
 intro a0 a1 a2 a3 a4 a5 a6 a7 a8 a9 a10 a11 k
 have ih0 := spec_MayDisturb.mono_l k
 unfold spec_MayDisturb.f
 repeat' first | (with_reducible first | exact ih0 _ _ _ _ _ _ _ _ _ _ _ _ _ | exact spec_NodeAt.mono _ _ _ _ _ _ _ _ _ _ _ _ _ | exact LeO.refl _ | exact LeO.none _ | refine LeO.ite ?_ ?_ | refine LeO.bind ?_ (fun _ => ?_)) | exact LeO.none _ | refine LeO.ite ?_ ?_ | refine LeO.bind ?_ (fun _ => ?_)
def spec_MayDisturb.T6 : Bool × List (List Nat × List Nat) := (true, [([], []), ([0], [0]), ([], []), ([1, 2], [1, 2]), ([3], [3]), ([4], [4]), ([], []), ([6], [6]), ([], []), ([7, 8], [7, 8]), ([9], [9]), ([10], [10]), ([5, 11], [5, 11]), ([12], [12]), ([13], [13]), ([13], [13]), ([13], [13]), ([14, 15, 16, 13, 13], [13, 14, 15, 16]), ([13], [13]), ([18, 13], [13, 18]), ([13], [13]), ([19, 20, 13], [13, 19, 20]), ([21, 13], [13, 21]), ([22, 13], [13, 22]), ([17, 23, 17, 13], [13, 17, 23]), ([13, 24], [13, 24])])
def spec_MayDisturb.B6 : List Nat := [0, 1, 0, 7, 15, 31, 0, 64, 0, 448, 960, 1984, 4095, 8191, 16383, 16383, 16383, 131071, 16383, 278527, 16383, 1851391, 3948543, 8142847, 16777215, 33554431]
theorem spec_MayDisturb.tab6 : rtab .any (opsOf Try.f81 6) = spec_MayDisturb.T6 := by kernel_rfl
theorem spec_MayDisturb.bits6 : waitsOk spec_MayDisturb.T6.2 spec_MayDisturb.B6 = true := by kernel_rfl
set_option maxHeartbeats 8000000 in
set_option maxRecDepth 100000 in
theorem spec_MayDisturb.calls (k : Nat) (a0_0 : Int) (A0_1 : Option Addr) (c0_1 : Nat) (l0_1 : List (S105)) (A0_2 : Option Addr) (c0_2 : Nat) (l0_2 : List (S109)) (a0_3 : Int) (a0_4 : Int) (a0_5 : Int) (a0_6 : Int) (a0_7 : Int) (A0_8 : Option Addr) (c0_8 : Nat) (l0_8 : List (S115)) (a0_9 : Int) (a1 : Int) (a2 : Int) (r : Bool) (w : World) (hr0_1 : Kd.C k105 w A0_1 l0_1.length l0_1) (hc0_1 : l0_1.length ≤ c0_1) (hr0_2 : Kd.C k109 w A0_2 l0_2.length l0_2) (hc0_2 : l0_2.length ≤ c0_2) (hr0_8 : Kd.C k115 w A0_8 l0_8.length l0_8) (hc0_8 : l0_8.length ≤ c0_8) (h : spec_MayDisturb.f k a0_0 l0_1 l0_2 a0_3 a0_4 a0_5 a0_6 a0_7 l0_8 a0_9 a1 a2 = some r) :
  Calls Try.prog 81 #[.agg #[.int .i64 a0_0, .slice A0_1 l0_1.length c0_1, .slice A0_2 l0_2.length c0_2, .int .i64 a0_3, .int .i64 a0_4, .int .i64 a0_5, .int .i64 a0_6, .int .i64 a0_7, .slice A0_8 l0_8.length c0_8, .int .i64 a0_9], .int .i64 a1, .int .i64 a2] w fun e w' => e = .returned (.bool r) ∧ Below w.heap.size w w' := by
 have hu34 := Try.underlying34
 have hu113 := Try.underlying113
 have HR0_1 := Aside0.mk hr0_1
 have HC0_1 := Aside0.mk hc0_1
 clear hr0_1 hc0_1
 have HR0_2 := Aside0.mk hr0_2
 have HC0_2 := Aside0.mk hc0_2
 clear hr0_2 hc0_2
 have HR0_8 := Aside0.mk hr0_8
 have HC0_8 := Aside0.mk hc0_8
 clear hr0_8 hc0_8
 have HB := Aside0.mk (Below.refl w.heap.size w)
 have H := h
 clear h
 unfold spec_MayDisturb.f at H
 replace H := bs_ H
 obtain ⟨t234, A4, H⟩ := H
 by_cases c5 : t234 = true
 ·subst c5
  rw [if_pos rfl] at H
  have H' := Aside0.mk H
  clear H
  go_enter Try.func81, Try.ntmps81
  go_wp2_with (first | ((with_reducible refine gd_ 3 ?_); refine bx_ 3 34 #[.int .i64 a0_0, .slice A0_1 l0_1.length c0_1, .slice A0_2 l0_2.length c0_2, .int .i64 a0_3, .int .i64 a0_4, .int .i64 a0_5, .int .i64 a0_6, .int .i64 a0_7, .slice A0_8 l0_8.length c0_8, .int .i64 a0_9] ?_; intro gb233 hg w6 hbox hb; refine sh3_ (below_step (bl_ HB) hb) hbox (ge_ hg (bl_ HB)) ?_; clear HB hb hbox hg; intro HB BK233 GE233; have hcz7 := cf10_ BK233) | ((with_reducible refine gate_callee (f := 101) rfl ?_); refine gl_ 13 Try.func101 (spec_l1In.calls a1 0 (wrap64 ((l0_1.length : Int) - 1)) true _ A4.out) ?_; rintro e w' ⟨rfl, ⟨nd, rfl⟩⟩; refine ⟨_, rfl, ?_⟩))
  go_loopg [7] k (fun kq v7 w' => ∃ (x7_1 : Int), v7 = .int .i64 x7_1 ∧ Aside0 (spec_MayDisturb.l0 kq a1 a2 x7_1 a0_0 l0_1 l0_2 a0_3 a0_4 a0_5 a0_6 a0_7 l0_8 a0_9 = some r) ∧ Aside0 (kq ≤ k) ∧ Aside0 (w'.heap[gb233]? = some (.cells #[.int .i64 a0_0, (.slice A0_1 l0_1.length c0_1), (.slice A0_2 l0_2.length c0_2), .int .i64 a0_3, .int .i64 a0_4, .int .i64 a0_5, .int .i64 a0_6, .int .i64 a0_7, (.slice A0_8 l0_8.length c0_8), .int .i64 a0_9] 34 (0, 0))) ∧ Aside0 (Below w.heap.size w w'))
  case atStart => exact ⟨(0), (by first | rfl | (simp; done) | (simp [*]; done)), H', ⟨Nat.le_refl _⟩, ⟨by (with_reducible repeat (first | refine blk_drewN ?_ _ | refine blk_drew ?_ | refine blk_alloc ?_ _)); exact BK233.out⟩, ⟨bl1_ HB GE233⟩⟩
  case round =>
   clear H'
   try clear c1
   try clear p2
   try clear c5
   try clear p6
   try clear hcz7
   obtain ⟨x7_1, rfl, HA, HK1, BK233, HB⟩ := hrel
   cases gk with
   | zero => exact absurd HA.out (by simp [spec_MayDisturb.l0])
   | succ k1 =>
    have H := HA.out
    clear HA
    simp only [spec_MayDisturb.l0] at H
    by_cases c8 : x7_1 < (l0_8.length : Int)
    ·rw [if_pos c8] at H
     have c8b0 := decide_eq_true c8
     clear c8
     replace H := ifn_ H
     obtain ⟨c9, H⟩ := H
     have c9b0 := decide_eq_true c9
     clear c9
     replace H := ifn_ H
     obtain ⟨c10, H⟩ := H
     have c10b0 := decide_eq_true c10
     clear c10
     replace H := ifn_ H
     obtain ⟨c11, H⟩ := H
     have c11b0 := decide_eq_true c11
     clear c11
     by_cases c12 : ((rd_T115 l0_8 x7_1).f0) = ((rd_T105 l0_1 a1).f0)
     ·rw [if_pos c12] at H
      obtain ⟨c12b0, c12b1⟩ := bt_ c12
      clear c12
      replace H := bs_ H
      obtain ⟨⟨t237, t238⟩, A13, H⟩ := H
      dsimp only at H
      replace H := bs_ H
      obtain ⟨t240, A14, H⟩ := H
      by_cases c15 : t240 = true
      ·subst c15
       rw [if_pos rfl] at H
       obtain rfl := Option.some.inj H
       have hcz16 := cf10_ BK233
       try go_wp2
       refine sh2_ (blk_drew BK233.out) (below_drew1 HB.out) ?_
       clear BK233 HB
       intro BK233 HB
       have p235 : 0 ≤ (x7_1 : Int) := od_
       have q235 : x7_1 < (l0_8.length : Int) := od_
       obtain ⟨ad235, e235, hx235_0, hx235_1, hx235_2⟩ := at_T115 HR0_8.out x7_1 p235 q235
       have hw235_2 := hx235_2
       have hw235_1 := hx235_1
       have hw235_0 := hx235_0
       cases e235
       replace hx235_0 := hbc_ HB hx235_0
       replace hx235_1 := hbc_ HB hx235_1
       replace hx235_2 := hbc_ HB hx235_2
       replace p235 := eq_true p235
       replace q235 := eq_true q235
       have p236 : 0 ≤ (a1 : Int) := od_
       have q236 : a1 < (l0_1.length : Int) := od_
       obtain ⟨ad236, e236, hx236_0, hx236_1, hx236_2, hx236_3⟩ := at_T105 HR0_1.out a1 p236 q236
       have hw236_3 := hx236_3
       have hw236_2 := hx236_2
       have hw236_1 := hx236_1
       have hw236_0 := hx236_0
       cases e236
       replace hx236_0 := hbc_ HB hx236_0
       replace hx236_1 := hbc_ HB hx236_1
       replace hx236_2 := hbc_ HB hx236_2
       replace hx236_3 := hbc_ HB hx236_3
       replace p236 := eq_true p236
       replace q236 := eq_true q236
       have p239 : 0 ≤ (x7_1 : Int) := od_
       have q239 : x7_1 < (l0_8.length : Int) := od_
       obtain ⟨ad239, e239, hx239_0, hx239_1, hx239_2⟩ := at_T115 HR0_8.out x7_1 p239 q239
       have hw239_2 := hx239_2
       have hw239_1 := hx239_1
       have hw239_0 := hx239_0
       obtain rfl : ad235 = ad239 := (by injection e239)
       replace hx239_0 := hbc_ HB hx239_0
       replace hx239_1 := hbc_ HB hx239_1
       replace hx239_2 := hbc_ HB hx239_2
       replace p239 := eq_true p239
       replace q239 := eq_true q239
       refine start_ (n := 26) (S := fun w' => Ck10 w' gb233 (.int .i64 a0_0) (.slice (some ad236) l0_1.length c0_1) (.slice A0_2 l0_2.length c0_2) (.int .i64 a0_3) (.int .i64 a0_4) (.int .i64 a0_5) (.int .i64 a0_6) (.int .i64 a0_7) (.slice (some ad235) l0_8.length c0_8) (.int .i64 a0_9) (w'.cell? (ad235.add ((x7_1).toNat * 3)) = some (.int .i64 ((rd_T115 l0_8 x7_1).f0)) ∧ w'.cell? ⟨(ad235.add ((x7_1).toNat * 3)).block, (ad235.add ((x7_1).toNat * 3)).off + 1, none⟩ = some (.int .i64 ((rd_T115 l0_8 x7_1).f1.f0)) ∧ w'.cell? ⟨(ad235.add ((x7_1).toNat * 3)).block, (ad235.add ((x7_1).toNat * 3)).off + 2, none⟩ = some (.int .i64 ((rd_T115 l0_8 x7_1).f1.f1)) ∧ w'.cell? (ad236.add ((a1).toNat * 4)) = some (.int .i64 ((rd_T105 l0_1 a1).f0)) ∧ w'.cell? ⟨(ad236.add ((a1).toNat * 4)).block, (ad236.add ((a1).toNat * 4)).off + 1, none⟩ = some (.int .i64 ((rd_T105 l0_1 a1).f1)) ∧ w'.cell? ⟨(ad236.add ((a1).toNat * 4)).block, (ad236.add ((a1).toNat * 4)).off + 2, none⟩ = some (.int .i64 ((rd_T105 l0_1 a1).f2)) ∧ w'.cell? ⟨(ad236.add ((a1).toNat * 4)).block, (ad236.add ((a1).toNat * 4)).off + 3, none⟩ = some (.int .i64 ((rd_T105 l0_1 a1).f3)) ∧ w'.cell? (ad235.add ((x7_1).toNat * 3)) = some (.int .i64 ((rd_T115 l0_8 x7_1).f0)) ∧ w'.cell? ⟨(ad235.add ((x7_1).toNat * 3)).block, (ad235.add ((x7_1).toNat * 3)).off + 1, none⟩ = some (.int .i64 ((rd_T115 l0_8 x7_1).f1.f0)) ∧ w'.cell? ⟨(ad235.add ((x7_1).toNat * 3)).block, (ad235.add ((x7_1).toNat * 3)).off + 2, none⟩ = some (.int .i64 ((rd_T115 l0_8 x7_1).f1.f1)))) (ds := []) #[false, false, false, false, false, false, false, false, false, false, false, false, false, false, false, false, false, false, false, false, false, false, false, false, false, false] (by kernel_rfl) rfl rfl ⟨(bc_ BK233 0 rfl), (bc_ BK233 1 rfl), (bc_ BK233 2 rfl), (bc_ BK233 3 rfl), (bc_ BK233 4 rfl), (bc_ BK233 5 rfl), (bc_ BK233 6 rfl), (bc_ BK233 7 rfl), (bc_ BK233 8 rfl), (bc_ BK233 9 rfl), ((HB.out.cell (World.block_lt_of_cell? w _ hw235_0)).trans hw235_0), ((HB.out.cell (World.block_lt_of_cell? w _ hw235_1)).trans hw235_1), ((HB.out.cell (World.block_lt_of_cell? w _ hw235_2)).trans hw235_2), ((HB.out.cell (World.block_lt_of_cell? w _ hw236_0)).trans hw236_0), ((HB.out.cell (World.block_lt_of_cell? w _ hw236_1)).trans hw236_1), ((HB.out.cell (World.block_lt_of_cell? w _ hw236_2)).trans hw236_2), ((HB.out.cell (World.block_lt_of_cell? w _ hw236_3)).trans hw236_3), ((HB.out.cell (World.block_lt_of_cell? w _ hw239_0)).trans hw239_0), ((HB.out.cell (World.block_lt_of_cell? w _ hw239_1)).trans hw239_1), ((HB.out.cell (World.block_lt_of_cell? w _ hw239_2)).trans hw239_2)⟩ (fun hHeld => ?_); refine with_tabW spec_MayDisturb.tab6 spec_MayDisturb.bits6 (fun HT_ HW_ => ?_)
       generalize wr.drew = w17 at BK233 HB hx235_0 hx235_1 hx235_2 hx236_0 hx236_1 hx236_2 hx236_3 hx239_0 hx239_1 hx239_2 hHeld ⊢
       refine pur_ 0 #[true, false, false, false, false, false, false, false, false, false, false, false, false, false, false, false, false, false, false, false, false, false, false, false, false, false] (some 22) HT_ ?_
       refine pur_ 2 #[true, false, true, false, false, false, false, false, false, false, false, false, false, false, false, false, false, false, false, false, false, false, false, false, false, false] (some 24) HT_ ?_
       refine pur_ 6 #[true, false, true, false, false, false, true, false, false, false, false, false, false, false, false, false, false, false, false, false, false, false, false, false, false, false] (some 28) HT_ ?_
       refine pur_ 8 #[true, false, true, false, false, false, true, false, true, false, false, false, false, false, false, false, false, false, false, false, false, false, false, false, false, false] (some 30) HT_ ?_
       refine tak_ 1 #[true, true, true, false, false, false, true, false, true, false, false, false, false, false, false, false, false, false, false, false, false, false, false, false, false, false] (some 23) HT_ HW_ hHeld ?_
       refine pur_ 3 #[true, true, true, true, false, false, true, false, true, false, false, false, false, false, false, false, false, false, false, false, false, false, false, false, false, false] (some 25) HT_ ?_
       refine pur_ 4 #[true, true, true, true, true, false, true, false, true, false, false, false, false, false, false, false, false, false, false, false, false, false, false, false, false, false] (some 26) HT_ ?_
       refine tak_ 5 #[true, true, true, true, true, true, true, false, true, false, false, false, false, false, false, false, false, false, false, false, false, false, false, false, false, false] (some 27) HT_ HW_ hHeld ?_
       refine tak_ 7 #[true, true, true, true, true, true, true, true, true, false, false, false, false, false, false, false, false, false, false, false, false, false, false, false, false, false] (some 29) HT_ HW_ hHeld ?_
       refine pur_ 9 #[true, true, true, true, true, true, true, true, true, true, false, false, false, false, false, false, false, false, false, false, false, false, false, false, false, false] (some 31) HT_ ?_
       refine pur_ 10 #[true, true, true, true, true, true, true, true, true, true, true, false, false, false, false, false, false, false, false, false, false, false, false, false, false, false] (some 32) HT_ ?_
       refine tak_ 11 #[true, true, true, true, true, true, true, true, true, true, true, true, false, false, false, false, false, false, false, false, false, false, false, false, false, false] (some 33) HT_ HW_ hHeld ?_
       refine pur_ 12 #[true, true, true, true, true, true, true, true, true, true, true, true, true, false, false, false, false, false, false, false, false, false, false, false, false, false] (some 34) HT_ ?_
       refine pur_ 13 #[true, true, true, true, true, true, true, true, true, true, true, true, true, true, false, false, false, false, false, false, false, false, false, false, false, false] (some 35) HT_ ?_
       refine pur_ 15 #[true, true, true, true, true, true, true, true, true, true, true, true, true, true, false, true, false, false, false, false, false, false, false, false, false, false] (some 37) HT_ ?_
       refine pur_ 16 #[true, true, true, true, true, true, true, true, true, true, true, true, true, true, false, true, true, false, false, false, false, false, false, false, false, false] (some 38) HT_ ?_
       refine pur_ 18 #[true, true, true, true, true, true, true, true, true, true, true, true, true, true, false, true, true, false, true, false, false, false, false, false, false, false] (some 40) HT_ ?_
       refine pur_ 20 #[true, true, true, true, true, true, true, true, true, true, true, true, true, true, false, true, true, false, true, false, true, false, false, false, false, false] (some 42) HT_ ?_
       refine tak_ 14 #[true, true, true, true, true, true, true, true, true, true, true, true, true, true, true, true, true, false, true, false, true, false, false, false, false, false] (some 36) HT_ HW_ hHeld ?_
       refine tak_ 19 #[true, true, true, true, true, true, true, true, true, true, true, true, true, true, true, true, true, false, true, true, true, false, false, false, false, false] (some 41) HT_ HW_ hHeld ?_
       refine pur_ 21 #[true, true, true, true, true, true, true, true, true, true, true, true, true, true, true, true, true, false, true, true, true, true, false, false, false, false] (some 43) HT_ ?_
       refine pur_ 22 #[true, true, true, true, true, true, true, true, true, true, true, true, true, true, true, true, true, false, true, true, true, true, true, false, false, false] (some 44) HT_ ?_
       refine tak_ 23 #[true, true, true, true, true, true, true, true, true, true, true, true, true, true, true, true, true, false, true, true, true, true, true, true, false, false] (some 45) HT_ HW_ hHeld ?_
       refine onc_ 17 #[true, true, true, true, true, true, true, true, true, true, true, true, true, true, true, true, true, true, true, true, true, true, true, true, false, false] (some 39) HT_ Try.func103 (spec_NodeAt.calls k1 a0_0 _ _ l0_1 _ _ l0_2 a0_3 a0_4 a0_5 a0_6 a0_7 _ _ l0_8 a0_9 a1 a2 t237 t238 _ (ck_ HR0_1 HB) HC0_1.out (ck_ HR0_2 HB) HC0_2.out (ck_ HR0_8 HB) HC0_8.out A13.out) ?_
       rintro e w18 ⟨rfl, hb⟩
       refine sh2_ (blk_below (bk_ BK233) hb) (below_step (bl1_ HB GE233) hb) ?_
       clear BK233 HB hb
       intro BK233 HB
       refine ⟨_, _, rfl, ⟨(bc_ BK233 0 rfl), (bc_ BK233 1 rfl), (bc_ BK233 2 rfl), (bc_ BK233 3 rfl), (bc_ BK233 4 rfl), (bc_ BK233 5 rfl), (bc_ BK233 6 rfl), (bc_ BK233 7 rfl), (bc_ BK233 8 rfl), (bc_ BK233 9 rfl), ((HB.out.cell (World.block_lt_of_cell? w _ hw235_0)).trans hw235_0), ((HB.out.cell (World.block_lt_of_cell? w _ hw235_1)).trans hw235_1), ((HB.out.cell (World.block_lt_of_cell? w _ hw235_2)).trans hw235_2), ((HB.out.cell (World.block_lt_of_cell? w _ hw236_0)).trans hw236_0), ((HB.out.cell (World.block_lt_of_cell? w _ hw236_1)).trans hw236_1), ((HB.out.cell (World.block_lt_of_cell? w _ hw236_2)).trans hw236_2), ((HB.out.cell (World.block_lt_of_cell? w _ hw236_3)).trans hw236_3), ((HB.out.cell (World.block_lt_of_cell? w _ hw239_0)).trans hw239_0), ((HB.out.cell (World.block_lt_of_cell? w _ hw239_1)).trans hw239_1), ((HB.out.cell (World.block_lt_of_cell? w _ hw239_2)).trans hw239_2)⟩, pt_, fun hHeld => ?_⟩
       refine onc_ 24 #[true, true, true, true, true, true, true, true, true, true, true, true, true, true, true, true, true, true, true, true, true, true, true, true, true, false] (some 46) HT_ Try.func102 (spec_ArcsMeet.calls t237 t238 ((rd_T115 l0_8 x7_1).f1.f0) ((rd_T115 l0_8 x7_1).f1.f1) true _ A14.out) ?_
       rintro e w19 ⟨rfl, hb⟩
       refine sh2_ (blk_below (bk_ BK233) hb) (below_step (bl1_ HB GE233) hb) ?_
       clear BK233 HB hb
       intro BK233 HB
       refine ⟨_, _, rfl, ⟨(bc_ BK233 0 rfl), (bc_ BK233 1 rfl), (bc_ BK233 2 rfl), (bc_ BK233 3 rfl), (bc_ BK233 4 rfl), (bc_ BK233 5 rfl), (bc_ BK233 6 rfl), (bc_ BK233 7 rfl), (bc_ BK233 8 rfl), (bc_ BK233 9 rfl), ((HB.out.cell (World.block_lt_of_cell? w _ hw235_0)).trans hw235_0), ((HB.out.cell (World.block_lt_of_cell? w _ hw235_1)).trans hw235_1), ((HB.out.cell (World.block_lt_of_cell? w _ hw235_2)).trans hw235_2), ((HB.out.cell (World.block_lt_of_cell? w _ hw236_0)).trans hw236_0), ((HB.out.cell (World.block_lt_of_cell? w _ hw236_1)).trans hw236_1), ((HB.out.cell (World.block_lt_of_cell? w _ hw236_2)).trans hw236_2), ((HB.out.cell (World.block_lt_of_cell? w _ hw236_3)).trans hw236_3), ((HB.out.cell (World.block_lt_of_cell? w _ hw239_0)).trans hw239_0), ((HB.out.cell (World.block_lt_of_cell? w _ hw239_1)).trans hw239_1), ((HB.out.cell (World.block_lt_of_cell? w _ hw239_2)).trans hw239_2)⟩, pt_, fun hHeld => ?_⟩
       refine pur_ 25 #[true, true, true, true, true, true, true, true, true, true, true, true, true, true, true, true, true, true, true, true, true, true, true, true, true, true] (some 47) HT_ ?_
       refine done_ (done_of HT_.out (by kernel_rfl)) ?_
       try go_wp2
       go_ret
       exact ⟨er_, bl1_ HB GE233⟩
      ·replace c15 := Bool.eq_false_iff.mpr c15
       subst c15
       have H1 : (spec_MayDisturb.l0 k1 a1 a2 (wrap64 (x7_1 + 1)) a0_0 l0_1 l0_2 a0_3 a0_4 a0_5 a0_6 a0_7 l0_8 a0_9) = some r := by rw [if_neg (show ¬ (false = true) by decide)] at H; exact H
       clear H
       have H := H1
       clear H1
       have H' := Aside0.mk H
       clear H
       have hcz20 := cf10_ BK233
       try go_wp2
       refine sh2_ (blk_drew BK233.out) (below_drew1 HB.out) ?_
       clear BK233 HB
       intro BK233 HB
       have p235 : 0 ≤ (x7_1 : Int) := od_
       have q235 : x7_1 < (l0_8.length : Int) := od_
       obtain ⟨ad235, e235, hx235_0, hx235_1, hx235_2⟩ := at_T115 HR0_8.out x7_1 p235 q235
       have hw235_2 := hx235_2
       have hw235_1 := hx235_1
       have hw235_0 := hx235_0
       cases e235
       replace hx235_0 := hbc_ HB hx235_0
       replace hx235_1 := hbc_ HB hx235_1
       replace hx235_2 := hbc_ HB hx235_2
       replace p235 := eq_true p235
       replace q235 := eq_true q235
       have p236 : 0 ≤ (a1 : Int) := od_
       have q236 : a1 < (l0_1.length : Int) := od_
       obtain ⟨ad236, e236, hx236_0, hx236_1, hx236_2, hx236_3⟩ := at_T105 HR0_1.out a1 p236 q236
       have hw236_3 := hx236_3
       have hw236_2 := hx236_2
       have hw236_1 := hx236_1
       have hw236_0 := hx236_0
       cases e236
       replace hx236_0 := hbc_ HB hx236_0
       replace hx236_1 := hbc_ HB hx236_1
       replace hx236_2 := hbc_ HB hx236_2
       replace hx236_3 := hbc_ HB hx236_3
       replace p236 := eq_true p236
       replace q236 := eq_true q236
       have p239 : 0 ≤ (x7_1 : Int) := od_
       have q239 : x7_1 < (l0_8.length : Int) := od_
       obtain ⟨ad239, e239, hx239_0, hx239_1, hx239_2⟩ := at_T115 HR0_8.out x7_1 p239 q239
       have hw239_2 := hx239_2
       have hw239_1 := hx239_1
       have hw239_0 := hx239_0
       obtain rfl : ad235 = ad239 := (by injection e239)
       replace hx239_0 := hbc_ HB hx239_0
       replace hx239_1 := hbc_ HB hx239_1
       replace hx239_2 := hbc_ HB hx239_2
       replace p239 := eq_true p239
       replace q239 := eq_true q239
       refine start_ (n := 26) (S := fun w' => Ck10 w' gb233 (.int .i64 a0_0) (.slice (some ad236) l0_1.length c0_1) (.slice A0_2 l0_2.length c0_2) (.int .i64 a0_3) (.int .i64 a0_4) (.int .i64 a0_5) (.int .i64 a0_6) (.int .i64 a0_7) (.slice (some ad235) l0_8.length c0_8) (.int .i64 a0_9) (w'.cell? (ad235.add ((x7_1).toNat * 3)) = some (.int .i64 ((rd_T115 l0_8 x7_1).f0)) ∧ w'.cell? ⟨(ad235.add ((x7_1).toNat * 3)).block, (ad235.add ((x7_1).toNat * 3)).off + 1, none⟩ = some (.int .i64 ((rd_T115 l0_8 x7_1).f1.f0)) ∧ w'.cell? ⟨(ad235.add ((x7_1).toNat * 3)).block, (ad235.add ((x7_1).toNat * 3)).off + 2, none⟩ = some (.int .i64 ((rd_T115 l0_8 x7_1).f1.f1)) ∧ w'.cell? (ad236.add ((a1).toNat * 4)) = some (.int .i64 ((rd_T105 l0_1 a1).f0)) ∧ w'.cell? ⟨(ad236.add ((a1).toNat * 4)).block, (ad236.add ((a1).toNat * 4)).off + 1, none⟩ = some (.int .i64 ((rd_T105 l0_1 a1).f1)) ∧ w'.cell? ⟨(ad236.add ((a1).toNat * 4)).block, (ad236.add ((a1).toNat * 4)).off + 2, none⟩ = some (.int .i64 ((rd_T105 l0_1 a1).f2)) ∧ w'.cell? ⟨(ad236.add ((a1).toNat * 4)).block, (ad236.add ((a1).toNat * 4)).off + 3, none⟩ = some (.int .i64 ((rd_T105 l0_1 a1).f3)) ∧ w'.cell? (ad235.add ((x7_1).toNat * 3)) = some (.int .i64 ((rd_T115 l0_8 x7_1).f0)) ∧ w'.cell? ⟨(ad235.add ((x7_1).toNat * 3)).block, (ad235.add ((x7_1).toNat * 3)).off + 1, none⟩ = some (.int .i64 ((rd_T115 l0_8 x7_1).f1.f0)) ∧ w'.cell? ⟨(ad235.add ((x7_1).toNat * 3)).block, (ad235.add ((x7_1).toNat * 3)).off + 2, none⟩ = some (.int .i64 ((rd_T115 l0_8 x7_1).f1.f1)))) (ds := []) #[false, false, false, false, false, false, false, false, false, false, false, false, false, false, false, false, false, false, false, false, false, false, false, false, false, false] (by kernel_rfl) rfl rfl ⟨(bc_ BK233 0 rfl), (bc_ BK233 1 rfl), (bc_ BK233 2 rfl), (bc_ BK233 3 rfl), (bc_ BK233 4 rfl), (bc_ BK233 5 rfl), (bc_ BK233 6 rfl), (bc_ BK233 7 rfl), (bc_ BK233 8 rfl), (bc_ BK233 9 rfl), ((HB.out.cell (World.block_lt_of_cell? w _ hw235_0)).trans hw235_0), ((HB.out.cell (World.block_lt_of_cell? w _ hw235_1)).trans hw235_1), ((HB.out.cell (World.block_lt_of_cell? w _ hw235_2)).trans hw235_2), ((HB.out.cell (World.block_lt_of_cell? w _ hw236_0)).trans hw236_0), ((HB.out.cell (World.block_lt_of_cell? w _ hw236_1)).trans hw236_1), ((HB.out.cell (World.block_lt_of_cell? w _ hw236_2)).trans hw236_2), ((HB.out.cell (World.block_lt_of_cell? w _ hw236_3)).trans hw236_3), ((HB.out.cell (World.block_lt_of_cell? w _ hw239_0)).trans hw239_0), ((HB.out.cell (World.block_lt_of_cell? w _ hw239_1)).trans hw239_1), ((HB.out.cell (World.block_lt_of_cell? w _ hw239_2)).trans hw239_2)⟩ (fun hHeld => ?_); refine with_tabW spec_MayDisturb.tab6 spec_MayDisturb.bits6 (fun HT_ HW_ => ?_)
       generalize wr.drew = w21 at BK233 HB hx235_0 hx235_1 hx235_2 hx236_0 hx236_1 hx236_2 hx236_3 hx239_0 hx239_1 hx239_2 hHeld ⊢
       refine pur_ 0 #[true, false, false, false, false, false, false, false, false, false, false, false, false, false, false, false, false, false, false, false, false, false, false, false, false, false] (some 22) HT_ ?_
       refine pur_ 2 #[true, false, true, false, false, false, false, false, false, false, false, false, false, false, false, false, false, false, false, false, false, false, false, false, false, false] (some 24) HT_ ?_
       refine pur_ 6 #[true, false, true, false, false, false, true, false, false, false, false, false, false, false, false, false, false, false, false, false, false, false, false, false, false, false] (some 28) HT_ ?_
       refine pur_ 8 #[true, false, true, false, false, false, true, false, true, false, false, false, false, false, false, false, false, false, false, false, false, false, false, false, false, false] (some 30) HT_ ?_
       refine tak_ 1 #[true, true, true, false, false, false, true, false, true, false, false, false, false, false, false, false, false, false, false, false, false, false, false, false, false, false] (some 23) HT_ HW_ hHeld ?_
       refine pur_ 3 #[true, true, true, true, false, false, true, false, true, false, false, false, false, false, false, false, false, false, false, false, false, false, false, false, false, false] (some 25) HT_ ?_
       refine pur_ 4 #[true, true, true, true, true, false, true, false, true, false, false, false, false, false, false, false, false, false, false, false, false, false, false, false, false, false] (some 26) HT_ ?_
       refine tak_ 5 #[true, true, true, true, true, true, true, false, true, false, false, false, false, false, false, false, false, false, false, false, false, false, false, false, false, false] (some 27) HT_ HW_ hHeld ?_
       refine tak_ 7 #[true, true, true, true, true, true, true, true, true, false, false, false, false, false, false, false, false, false, false, false, false, false, false, false, false, false] (some 29) HT_ HW_ hHeld ?_
       refine pur_ 9 #[true, true, true, true, true, true, true, true, true, true, false, false, false, false, false, false, false, false, false, false, false, false, false, false, false, false] (some 31) HT_ ?_
       refine pur_ 10 #[true, true, true, true, true, true, true, true, true, true, true, false, false, false, false, false, false, false, false, false, false, false, false, false, false, false] (some 32) HT_ ?_
       refine tak_ 11 #[true, true, true, true, true, true, true, true, true, true, true, true, false, false, false, false, false, false, false, false, false, false, false, false, false, false] (some 33) HT_ HW_ hHeld ?_
       refine pur_ 12 #[true, true, true, true, true, true, true, true, true, true, true, true, true, false, false, false, false, false, false, false, false, false, false, false, false, false] (some 34) HT_ ?_
       refine pur_ 13 #[true, true, true, true, true, true, true, true, true, true, true, true, true, true, false, false, false, false, false, false, false, false, false, false, false, false] (some 35) HT_ ?_
       refine pur_ 15 #[true, true, true, true, true, true, true, true, true, true, true, true, true, true, false, true, false, false, false, false, false, false, false, false, false, false] (some 37) HT_ ?_
       refine pur_ 16 #[true, true, true, true, true, true, true, true, true, true, true, true, true, true, false, true, true, false, false, false, false, false, false, false, false, false] (some 38) HT_ ?_
       refine pur_ 18 #[true, true, true, true, true, true, true, true, true, true, true, true, true, true, false, true, true, false, true, false, false, false, false, false, false, false] (some 40) HT_ ?_
       refine pur_ 20 #[true, true, true, true, true, true, true, true, true, true, true, true, true, true, false, true, true, false, true, false, true, false, false, false, false, false] (some 42) HT_ ?_
       refine tak_ 14 #[true, true, true, true, true, true, true, true, true, true, true, true, true, true, true, true, true, false, true, false, true, false, false, false, false, false] (some 36) HT_ HW_ hHeld ?_
       refine tak_ 19 #[true, true, true, true, true, true, true, true, true, true, true, true, true, true, true, true, true, false, true, true, true, false, false, false, false, false] (some 41) HT_ HW_ hHeld ?_
       refine pur_ 21 #[true, true, true, true, true, true, true, true, true, true, true, true, true, true, true, true, true, false, true, true, true, true, false, false, false, false] (some 43) HT_ ?_
       refine pur_ 22 #[true, true, true, true, true, true, true, true, true, true, true, true, true, true, true, true, true, false, true, true, true, true, true, false, false, false] (some 44) HT_ ?_
       refine tak_ 23 #[true, true, true, true, true, true, true, true, true, true, true, true, true, true, true, true, true, false, true, true, true, true, true, true, false, false] (some 45) HT_ HW_ hHeld ?_
       refine onc_ 17 #[true, true, true, true, true, true, true, true, true, true, true, true, true, true, true, true, true, true, true, true, true, true, true, true, false, false] (some 39) HT_ Try.func103 (spec_NodeAt.calls k1 a0_0 _ _ l0_1 _ _ l0_2 a0_3 a0_4 a0_5 a0_6 a0_7 _ _ l0_8 a0_9 a1 a2 t237 t238 _ (ck_ HR0_1 HB) HC0_1.out (ck_ HR0_2 HB) HC0_2.out (ck_ HR0_8 HB) HC0_8.out A13.out) ?_
       rintro e w22 ⟨rfl, hb⟩
       refine sh2_ (blk_below (bk_ BK233) hb) (below_step (bl1_ HB GE233) hb) ?_
       clear BK233 HB hb
       intro BK233 HB
       refine ⟨_, _, rfl, ⟨(bc_ BK233 0 rfl), (bc_ BK233 1 rfl), (bc_ BK233 2 rfl), (bc_ BK233 3 rfl), (bc_ BK233 4 rfl), (bc_ BK233 5 rfl), (bc_ BK233 6 rfl), (bc_ BK233 7 rfl), (bc_ BK233 8 rfl), (bc_ BK233 9 rfl), ((HB.out.cell (World.block_lt_of_cell? w _ hw235_0)).trans hw235_0), ((HB.out.cell (World.block_lt_of_cell? w _ hw235_1)).trans hw235_1), ((HB.out.cell (World.block_lt_of_cell? w _ hw235_2)).trans hw235_2), ((HB.out.cell (World.block_lt_of_cell? w _ hw236_0)).trans hw236_0), ((HB.out.cell (World.block_lt_of_cell? w _ hw236_1)).trans hw236_1), ((HB.out.cell (World.block_lt_of_cell? w _ hw236_2)).trans hw236_2), ((HB.out.cell (World.block_lt_of_cell? w _ hw236_3)).trans hw236_3), ((HB.out.cell (World.block_lt_of_cell? w _ hw239_0)).trans hw239_0), ((HB.out.cell (World.block_lt_of_cell? w _ hw239_1)).trans hw239_1), ((HB.out.cell (World.block_lt_of_cell? w _ hw239_2)).trans hw239_2)⟩, pt_, fun hHeld => ?_⟩
       refine onc_ 24 #[true, true, true, true, true, true, true, true, true, true, true, true, true, true, true, true, true, true, true, true, true, true, true, true, true, false] (some 46) HT_ Try.func102 (spec_ArcsMeet.calls t237 t238 ((rd_T115 l0_8 x7_1).f1.f0) ((rd_T115 l0_8 x7_1).f1.f1) false _ A14.out) ?_
       rintro e w23 ⟨rfl, hb⟩
       refine sh2_ (blk_below (bk_ BK233) hb) (below_step (bl1_ HB GE233) hb) ?_
       clear BK233 HB hb
       intro BK233 HB
       refine ⟨_, _, rfl, ⟨(bc_ BK233 0 rfl), (bc_ BK233 1 rfl), (bc_ BK233 2 rfl), (bc_ BK233 3 rfl), (bc_ BK233 4 rfl), (bc_ BK233 5 rfl), (bc_ BK233 6 rfl), (bc_ BK233 7 rfl), (bc_ BK233 8 rfl), (bc_ BK233 9 rfl), ((HB.out.cell (World.block_lt_of_cell? w _ hw235_0)).trans hw235_0), ((HB.out.cell (World.block_lt_of_cell? w _ hw235_1)).trans hw235_1), ((HB.out.cell (World.block_lt_of_cell? w _ hw235_2)).trans hw235_2), ((HB.out.cell (World.block_lt_of_cell? w _ hw236_0)).trans hw236_0), ((HB.out.cell (World.block_lt_of_cell? w _ hw236_1)).trans hw236_1), ((HB.out.cell (World.block_lt_of_cell? w _ hw236_2)).trans hw236_2), ((HB.out.cell (World.block_lt_of_cell? w _ hw236_3)).trans hw236_3), ((HB.out.cell (World.block_lt_of_cell? w _ hw239_0)).trans hw239_0), ((HB.out.cell (World.block_lt_of_cell? w _ hw239_1)).trans hw239_1), ((HB.out.cell (World.block_lt_of_cell? w _ hw239_2)).trans hw239_2)⟩, pt_, fun hHeld => ?_⟩
       refine pur_ 25 #[true, true, true, true, true, true, true, true, true, true, true, true, true, true, true, true, true, true, true, true, true, true, true, true, true, true] (some 47) HT_ ?_
       refine done_ (done_of HT_.out (by kernel_rfl)) ?_
       try go_wp2
       go_roundg k1
       case measure => have := HK1.out; omega
       case rel => exact ⟨(wrap64 (x7_1 + 1)), (by first | rfl | (simp; done) | (simp [*]; done)), H', ⟨by have := HK1.out; omega⟩, ⟨by (with_reducible repeat (first | refine blk_drewN ?_ _ | refine blk_drew ?_ | refine blk_alloc ?_ _)); exact BK233.out⟩, ⟨bl1_ HB GE233⟩⟩
     ·rw [if_neg c12] at H
      obtain ⟨c12b0, c12b1⟩ := bn_ c12
      have H' := Aside0.mk H
      clear H
      have hcz24 := cf10_ BK233
      try go_wp2
      refine sh2_ (blk_drew BK233.out) (below_drew1 HB.out) ?_
      clear BK233 HB
      intro BK233 HB
      have p235 : 0 ≤ (x7_1 : Int) := od_
      have q235 : x7_1 < (l0_8.length : Int) := od_
      obtain ⟨ad235, e235, hx235_0, hx235_1, hx235_2⟩ := at_T115 HR0_8.out x7_1 p235 q235
      have hw235_2 := hx235_2
      have hw235_1 := hx235_1
      have hw235_0 := hx235_0
      cases e235
      replace hx235_0 := hbc_ HB hx235_0
      replace hx235_1 := hbc_ HB hx235_1
      replace hx235_2 := hbc_ HB hx235_2
      replace p235 := eq_true p235
      replace q235 := eq_true q235
      have p236 : 0 ≤ (a1 : Int) := od_
      have q236 : a1 < (l0_1.length : Int) := od_
      obtain ⟨ad236, e236, hx236_0, hx236_1, hx236_2, hx236_3⟩ := at_T105 HR0_1.out a1 p236 q236
      have hw236_3 := hx236_3
      have hw236_2 := hx236_2
      have hw236_1 := hx236_1
      have hw236_0 := hx236_0
      cases e236
      replace hx236_0 := hbc_ HB hx236_0
      replace hx236_1 := hbc_ HB hx236_1
      replace hx236_2 := hbc_ HB hx236_2
      replace hx236_3 := hbc_ HB hx236_3
      replace p236 := eq_true p236
      replace q236 := eq_true q236
      refine start_ (n := 26) (S := fun w' => Ck10 w' gb233 (.int .i64 a0_0) (.slice (some ad236) l0_1.length c0_1) (.slice A0_2 l0_2.length c0_2) (.int .i64 a0_3) (.int .i64 a0_4) (.int .i64 a0_5) (.int .i64 a0_6) (.int .i64 a0_7) (.slice (some ad235) l0_8.length c0_8) (.int .i64 a0_9) (w'.cell? (ad235.add ((x7_1).toNat * 3)) = some (.int .i64 ((rd_T115 l0_8 x7_1).f0)) ∧ w'.cell? ⟨(ad235.add ((x7_1).toNat * 3)).block, (ad235.add ((x7_1).toNat * 3)).off + 1, none⟩ = some (.int .i64 ((rd_T115 l0_8 x7_1).f1.f0)) ∧ w'.cell? ⟨(ad235.add ((x7_1).toNat * 3)).block, (ad235.add ((x7_1).toNat * 3)).off + 2, none⟩ = some (.int .i64 ((rd_T115 l0_8 x7_1).f1.f1)) ∧ w'.cell? (ad236.add ((a1).toNat * 4)) = some (.int .i64 ((rd_T105 l0_1 a1).f0)) ∧ w'.cell? ⟨(ad236.add ((a1).toNat * 4)).block, (ad236.add ((a1).toNat * 4)).off + 1, none⟩ = some (.int .i64 ((rd_T105 l0_1 a1).f1)) ∧ w'.cell? ⟨(ad236.add ((a1).toNat * 4)).block, (ad236.add ((a1).toNat * 4)).off + 2, none⟩ = some (.int .i64 ((rd_T105 l0_1 a1).f2)) ∧ w'.cell? ⟨(ad236.add ((a1).toNat * 4)).block, (ad236.add ((a1).toNat * 4)).off + 3, none⟩ = some (.int .i64 ((rd_T105 l0_1 a1).f3)))) (ds := []) #[false, false, false, false, false, false, false, false, false, false, false, false, false, false, false, false, false, false, false, false, false, false, false, false, false, false] (by kernel_rfl) rfl rfl ⟨(bc_ BK233 0 rfl), (bc_ BK233 1 rfl), (bc_ BK233 2 rfl), (bc_ BK233 3 rfl), (bc_ BK233 4 rfl), (bc_ BK233 5 rfl), (bc_ BK233 6 rfl), (bc_ BK233 7 rfl), (bc_ BK233 8 rfl), (bc_ BK233 9 rfl), ((HB.out.cell (World.block_lt_of_cell? w _ hw235_0)).trans hw235_0), ((HB.out.cell (World.block_lt_of_cell? w _ hw235_1)).trans hw235_1), ((HB.out.cell (World.block_lt_of_cell? w _ hw235_2)).trans hw235_2), ((HB.out.cell (World.block_lt_of_cell? w _ hw236_0)).trans hw236_0), ((HB.out.cell (World.block_lt_of_cell? w _ hw236_1)).trans hw236_1), ((HB.out.cell (World.block_lt_of_cell? w _ hw236_2)).trans hw236_2), ((HB.out.cell (World.block_lt_of_cell? w _ hw236_3)).trans hw236_3)⟩ (fun hHeld => ?_); refine with_tabW spec_MayDisturb.tab6 spec_MayDisturb.bits6 (fun HT_ HW_ => ?_)
      generalize wr.drew = w25 at BK233 HB hx235_0 hx235_1 hx235_2 hx236_0 hx236_1 hx236_2 hx236_3 hHeld ⊢
      refine pur_ 0 #[true, false, false, false, false, false, false, false, false, false, false, false, false, false, false, false, false, false, false, false, false, false, false, false, false, false] (some 22) HT_ ?_
      refine pur_ 2 #[true, false, true, false, false, false, false, false, false, false, false, false, false, false, false, false, false, false, false, false, false, false, false, false, false, false] (some 24) HT_ ?_
      refine pur_ 6 #[true, false, true, false, false, false, true, false, false, false, false, false, false, false, false, false, false, false, false, false, false, false, false, false, false, false] (some 28) HT_ ?_
      refine pur_ 8 #[true, false, true, false, false, false, true, false, true, false, false, false, false, false, false, false, false, false, false, false, false, false, false, false, false, false] (some 30) HT_ ?_
      refine tak_ 1 #[true, true, true, false, false, false, true, false, true, false, false, false, false, false, false, false, false, false, false, false, false, false, false, false, false, false] (some 23) HT_ HW_ hHeld ?_
      refine pur_ 3 #[true, true, true, true, false, false, true, false, true, false, false, false, false, false, false, false, false, false, false, false, false, false, false, false, false, false] (some 25) HT_ ?_
      refine pur_ 4 #[true, true, true, true, true, false, true, false, true, false, false, false, false, false, false, false, false, false, false, false, false, false, false, false, false, false] (some 26) HT_ ?_
      refine tak_ 5 #[true, true, true, true, true, true, true, false, true, false, false, false, false, false, false, false, false, false, false, false, false, false, false, false, false, false] (some 27) HT_ HW_ hHeld ?_
      refine tak_ 7 #[true, true, true, true, true, true, true, true, true, false, false, false, false, false, false, false, false, false, false, false, false, false, false, false, false, false] (some 29) HT_ HW_ hHeld ?_
      refine pur_ 9 #[true, true, true, true, true, true, true, true, true, true, false, false, false, false, false, false, false, false, false, false, false, false, false, false, false, false] (some 31) HT_ ?_
      refine pur_ 10 #[true, true, true, true, true, true, true, true, true, true, true, false, false, false, false, false, false, false, false, false, false, false, false, false, false, false] (some 32) HT_ ?_
      refine tak_ 11 #[true, true, true, true, true, true, true, true, true, true, true, true, false, false, false, false, false, false, false, false, false, false, false, false, false, false] (some 33) HT_ HW_ hHeld ?_
      refine pur_ 12 #[true, true, true, true, true, true, true, true, true, true, true, true, true, false, false, false, false, false, false, false, false, false, false, false, false, false] (some 34) HT_ ?_
      refine pur_ 13 #[true, true, true, true, true, true, true, true, true, true, true, true, true, true, false, false, false, false, false, false, false, false, false, false, false, false] (some 35) HT_ ?_
      refine pure_ (i := 14) (N := some 36) (v := undef) (a' := ?_) #[true, true, true, true, true, true, true, true, true, true, true, true, true, true, true, false, false, false, false, false, false, false, false, false, false, false] rfl rfl (any_of HT_.out (by kernel_rfl)) (fun _ _ _ h => h) (Or.inr ⟨by rfl, rfl⟩) ?_ ?_
      rotate_left
      ·simp only [Act.put, List.setIfInBounds_toArray, List.set_cons_zero, List.set_cons_succ, i64_w, i32_w]
       rfl
      refine pure_ (i := 15) (N := some 37) (v := undef) (a' := ?_) #[true, true, true, true, true, true, true, true, true, true, true, true, true, true, true, true, false, false, false, false, false, false, false, false, false, false] rfl rfl (any_of HT_.out (by kernel_rfl)) (fun _ _ _ h => h) (Or.inr ⟨by rfl, rfl⟩) ?_ ?_
      rotate_left
      ·simp only [Act.put, List.setIfInBounds_toArray, List.set_cons_zero, List.set_cons_succ, i64_w, i32_w]
       rfl
      refine pure_ (i := 16) (N := some 38) (v := undef) (a' := ?_) #[true, true, true, true, true, true, true, true, true, true, true, true, true, true, true, true, true, false, false, false, false, false, false, false, false, false] rfl rfl (any_of HT_.out (by kernel_rfl)) (fun _ _ _ h => h) (Or.inr ⟨by rfl, rfl⟩) ?_ ?_
      rotate_left
      ·simp only [Act.put, List.setIfInBounds_toArray, List.set_cons_zero, List.set_cons_succ, i64_w, i32_w]
       rfl
      refine pure_ (i := 17) (N := some 39) (v := undef) (a' := ?_) #[true, true, true, true, true, true, true, true, true, true, true, true, true, true, true, true, true, true, false, false, false, false, false, false, false, false] rfl rfl (any_of HT_.out (by kernel_rfl)) (fun _ _ _ h => h) (Or.inr ⟨by rfl, rfl⟩) ?_ ?_
      rotate_left
      ·simp only [Act.put, List.setIfInBounds_toArray, List.set_cons_zero, List.set_cons_succ, i64_w, i32_w]
       rfl
      refine pure_ (i := 18) (N := some 40) (v := undef) (a' := ?_) #[true, true, true, true, true, true, true, true, true, true, true, true, true, true, true, true, true, true, true, false, false, false, false, false, false, false] rfl rfl (any_of HT_.out (by kernel_rfl)) (fun _ _ _ h => h) (Or.inr ⟨by rfl, rfl⟩) ?_ ?_
      rotate_left
      ·simp only [Act.put, List.setIfInBounds_toArray, List.set_cons_zero, List.set_cons_succ, i64_w, i32_w]
       rfl
      refine pure_ (i := 19) (N := some 41) (v := undef) (a' := ?_) #[true, true, true, true, true, true, true, true, true, true, true, true, true, true, true, true, true, true, true, true, false, false, false, false, false, false] rfl rfl (any_of HT_.out (by kernel_rfl)) (fun _ _ _ h => h) (Or.inr ⟨by rfl, rfl⟩) ?_ ?_
      rotate_left
      ·simp only [Act.put, List.setIfInBounds_toArray, List.set_cons_zero, List.set_cons_succ, i64_w, i32_w]
       rfl
      refine pure_ (i := 20) (N := some 42) (v := undef) (a' := ?_) #[true, true, true, true, true, true, true, true, true, true, true, true, true, true, true, true, true, true, true, true, true, false, false, false, false, false] rfl rfl (any_of HT_.out (by kernel_rfl)) (fun _ _ _ h => h) (Or.inr ⟨by rfl, rfl⟩) ?_ ?_
      rotate_left
      ·simp only [Act.put, List.setIfInBounds_toArray, List.set_cons_zero, List.set_cons_succ, i64_w, i32_w]
       rfl
      refine pure_ (i := 21) (N := some 43) (v := undef) (a' := ?_) #[true, true, true, true, true, true, true, true, true, true, true, true, true, true, true, true, true, true, true, true, true, true, false, false, false, false] rfl rfl (any_of HT_.out (by kernel_rfl)) (fun _ _ _ h => h) (Or.inr ⟨by rfl, rfl⟩) ?_ ?_
      rotate_left
      ·simp only [Act.put, List.setIfInBounds_toArray, List.set_cons_zero, List.set_cons_succ, i64_w, i32_w]
       rfl
      refine pure_ (i := 22) (N := some 44) (v := undef) (a' := ?_) #[true, true, true, true, true, true, true, true, true, true, true, true, true, true, true, true, true, true, true, true, true, true, true, false, false, false] rfl rfl (any_of HT_.out (by kernel_rfl)) (fun _ _ _ h => h) (Or.inr ⟨by rfl, rfl⟩) ?_ ?_
      rotate_left
      ·simp only [Act.put, List.setIfInBounds_toArray, List.set_cons_zero, List.set_cons_succ, i64_w, i32_w]
       rfl
      refine pure_ (i := 23) (N := some 45) (v := undef) (a' := ?_) #[true, true, true, true, true, true, true, true, true, true, true, true, true, true, true, true, true, true, true, true, true, true, true, true, false, false] rfl rfl (any_of HT_.out (by kernel_rfl)) (fun _ _ _ h => h) (Or.inr ⟨by rfl, rfl⟩) ?_ ?_
      rotate_left
      ·simp only [Act.put, List.setIfInBounds_toArray, List.set_cons_zero, List.set_cons_succ, i64_w, i32_w]
       rfl
      refine pure_ (i := 24) (N := some 46) (v := undef) (a' := ?_) #[true, true, true, true, true, true, true, true, true, true, true, true, true, true, true, true, true, true, true, true, true, true, true, true, true, false] rfl rfl (any_of HT_.out (by kernel_rfl)) (fun _ _ _ h => h) (Or.inr ⟨by rfl, rfl⟩) ?_ ?_
      rotate_left
      ·simp only [Act.put, List.setIfInBounds_toArray, List.set_cons_zero, List.set_cons_succ, i64_w, i32_w]
       rfl
      refine pur_ 25 #[true, true, true, true, true, true, true, true, true, true, true, true, true, true, true, true, true, true, true, true, true, true, true, true, true, true] (some 47) HT_ ?_
      refine done_ (done_of HT_.out (by kernel_rfl)) ?_
      try go_wp2
      go_roundg k1
      case measure => have := HK1.out; omega
      case rel => exact ⟨(wrap64 (x7_1 + 1)), (by first | rfl | (simp; done) | (simp [*]; done)), H', ⟨by have := HK1.out; omega⟩, ⟨by (with_reducible repeat (first | refine blk_drewN ?_ _ | refine blk_drew ?_ | refine blk_alloc ?_ _)); exact BK233.out⟩, ⟨bl1_ HB GE233⟩⟩
    ·rw [if_neg c8] at H
     have c8b0 : decide (x7_1 < (l0_8.length : Int)) = false := decide_eq_false c8
     clear c8
     obtain rfl := Option.some.inj H
     have hcz26 := cf10_ BK233
     go_wp2
     go_ret
     exact ⟨er_, bl1_ HB GE233⟩
 ·replace c5 := Bool.eq_false_iff.mpr c5
  subst c5
  have H1 : (some false) = some r := by rw [if_neg (show ¬ (false = true) by decide)] at H; exact H
  clear H
  have H := H1
  clear H1
  obtain rfl := Option.some.inj H
  go_enter Try.func81, Try.ntmps81
  go_wp2_with (first | ((with_reducible refine gd_ 3 ?_); refine bx_ 3 34 #[.int .i64 a0_0, .slice A0_1 l0_1.length c0_1, .slice A0_2 l0_2.length c0_2, .int .i64 a0_3, .int .i64 a0_4, .int .i64 a0_5, .int .i64 a0_6, .int .i64 a0_7, .slice A0_8 l0_8.length c0_8, .int .i64 a0_9] ?_; intro gb233 hg w27 hbox hb; refine sh3_ (below_step (bl_ HB) hb) hbox (ge_ hg (bl_ HB)) ?_; clear HB hb hbox hg; intro HB BK233 GE233; have hcz28 := cf10_ BK233) | ((with_reducible refine gate_callee (f := 101) rfl ?_); refine gl_ 13 Try.func101 (spec_l1In.calls a1 0 (wrap64 ((l0_1.length : Int) - 1)) false _ A4.out) ?_; rintro e w' ⟨rfl, ⟨nd, rfl⟩⟩; refine ⟨_, rfl, ?_⟩))
  go_ret
  exact ⟨er_, bl1_ HB GE233⟩

/-! ### spec_QuietSpans: function 44 -/
def spec_QuietSpans.l0 : Nat → Int → List (S73) → Int → Int → Int → List (S105) → List (S109) → Int → Int → Int → Int → Int → List (S115) → Int → Option ((List (S73)))
 | 0, _, _, _, _, _, _, _, _, _, _, _, _, _, _ => none
 | k + 1, x1, x9, x11, x12, x242000, x242001, x242002, x242003, x242004, x242005, x242006, x242007, x242008, x242009 => if x12 < x11 then ((spec_MayDisturb.f k x242000 x242001 x242002 x242003 x242004 x242005 x242006 x242007 x242008 x242009 x1 x12).bind fun t247 => (if t247 = true then ((spec_l4Put.f x9 x12).bind fun t248 => (spec_QuietSpans.l0 k x1 t248 x11 (wrap64 (x12 + 1)) x242000 x242001 x242002 x242003 x242004 x242005 x242006 x242007 x242008 x242009)) else (spec_QuietSpans.l0 k x1 x9 x11 (wrap64 (x12 + 1)) x242000 x242001 x242002 x242003 x242004 x242005 x242006 x242007 x242008 x242009))) else (some x9)
def spec_QuietSpans.f (k : Nat) (a0_0 : Int) (l0_1 : List (S105)) (l0_2 : List (S109)) (a0_3 : Int) (a0_4 : Int) (a0_5 : Int) (a0_6 : Int) (a0_7 : Int) (l0_8 : List (S115)) (a0_9 : Int) (a1 : Int) (a2 : Int) (a3 : Int) : Option ((List (S73))) := (spec_l8Ticks.f a2 a3).bind fun bt245 => (spec_QuietSpans.l0 k a1 (([] : List (S73))) bt245.2 bt245.1 a0_0 l0_1 l0_2 a0_3 a0_4 a0_5 a0_6 a0_7 l0_8 a0_9)
theorem spec_QuietSpans.mono_l : ∀ k, (∀ y0 y1 y2 y3 y4 y5 y6 y7 y8 y9 y10 y11 y12 y13, LeO (spec_QuietSpans.l0 k y0 y1 y2 y3 y4 y5 y6 y7 y8 y9 y10 y11 y12 y13) (spec_QuietSpans.l0 (k + 1) y0 y1 y2 y3 y4 y5 y6 y7 y8 y9 y10 y11 y12 y13))
 | 0 => fun _ _ _ _ _ _ _ _ _ _ _ _ _ _ r h => by simp [spec_QuietSpans.l0] at h
 | k + 1 => by
  have ih0 := spec_QuietSpans.mono_l k
  ·intro y0 y1 y2 y3 y4 y5 y6 y7 y8 y9 y10 y11 y12 y13
   unfold spec_QuietSpans.l0
   repeat' first | (with_reducible first | exact ih0 _ _ _ _ _ _ _ _ _ _ _ _ _ _ | exact spec_MayDisturb.mono _ _ _ _ _ _ _ _ _ _ _ _ _ | exact LeO.refl _ | exact LeO.none _ | refine LeO.ite ?_ ?_ | refine LeO.bind ?_ (fun _ => ?_)) | exact LeO.none _ | refine LeO.ite ?_ ?_ | refine LeO.bind ?_ (fun _ => ?_)
theorem spec_QuietSpans.mono : ∀ a0 a1 a2 a3 a4 a5 a6 a7 a8 a9 a10 a11 a12 k, LeO (spec_QuietSpans.f k a0 a1 a2 a3 a4 a5 a6 a7 a8 a9 a10 a11 a12) (spec_QuietSpans.f (k + 1) a0 a1 a2 a3 a4 a5 a6 a7 a8 a9 a10 a11 a12) := by
 intro a0 a1 a2 a3 a4 a5 a6 a7 a8 a9 a10 a11 a12 k
 have ih0 := spec_QuietSpans.mono_l k
 unfold spec_QuietSpans.f
 repeat' first | (with_reducible first | exact ih0 _ _ _ _ _ _ _ _ _ _ _ _ _ _ | exact spec_MayDisturb.mono _ _ _ _ _ _ _ _ _ _ _ _ _ | exact LeO.refl _ | exact LeO.none _ | refine LeO.ite ?_ ?_ | refine LeO.bind ?_ (fun _ => ?_)) | exact LeO.none _ | refine LeO.ite ?_ ?_ | refine LeO.bind ?_ (fun _ => ?_)
set_option maxHeartbeats 8000000 in
set_option maxRecDepth 100000 in
theorem spec_QuietSpans.calls (k : Nat) (a0_0 : Int) (A0_1 : Option Addr) (c0_1 : Nat) (l0_1 : List (S105)) (A0_2 : Option Addr) (c0_2 : Nat) (l0_2 : List (S109)) (a0_3 : Int) (a0_4 : Int) (a0_5 : Int) (a0_6 : Int) (a0_7 : Int) (A0_8 : Option Addr) (c0_8 : Nat) (l0_8 : List (S115)) (a0_9 : Int) (a1 : Int) (a2 : Int) (a3 : Int) (r : List (S73)) (w : World) (hr0_1 : Kd.C k105 w A0_1 l0_1.length l0_1) (hc0_1 : l0_1.length ≤ c0_1) (hr0_2 : Kd.C k109 w A0_2 l0_2.length l0_2) (hc0_2 : l0_2.length ≤ c0_2) (hr0_8 : Kd.C k115 w A0_8 l0_8.length l0_8) (hc0_8 : l0_8.length ≤ c0_8) (h : spec_QuietSpans.f k a0_0 l0_1 l0_2 a0_3 a0_4 a0_5 a0_6 a0_7 l0_8 a0_9 a1 a2 a3 = some r) :
  Calls Try.prog 44 #[.agg #[.int .i64 a0_0, .slice A0_1 l0_1.length c0_1, .slice A0_2 l0_2.length c0_2, .int .i64 a0_3, .int .i64 a0_4, .int .i64 a0_5, .int .i64 a0_6, .int .i64 a0_7, .slice A0_8 l0_8.length c0_8, .int .i64 a0_9], .int .i64 a1, .int .i64 a2, .int .i64 a3] w fun e w' => ∃ v0_ : Value, e = .returned (v0_) ∧ Kd.R k73 73 w' w.heap.size (fun _ => True) v0_ r ∧ Below w.heap.size w w' := by
 have hu34 := Try.underlying34
 have HR0_1 := Aside0.mk hr0_1
 have HC0_1 := Aside0.mk hc0_1
 clear hr0_1 hc0_1
 have HR0_2 := Aside0.mk hr0_2
 have HC0_2 := Aside0.mk hc0_2
 clear hr0_2 hc0_2
 have HR0_8 := Aside0.mk hr0_8
 have HC0_8 := Aside0.mk hc0_8
 clear hr0_8 hc0_8
 have HB := Aside0.mk (Below.refl w.heap.size w)
 have H := h
 clear h
 unfold spec_QuietSpans.f at H
 replace H : ∃ y_ : List (S73), Aside0 (y_ = (([] : List (S73)))) ∧ ((spec_l8Ticks.f a2 a3).bind fun bt245 => (spec_QuietSpans.l0 k a1 y_ bt245.2 bt245.1 a0_0 l0_1 l0_2 a0_3 a0_4 a0_5 a0_6 a0_7 l0_8 a0_9)) = some r := ⟨_, ⟨rfl⟩, yh_ H⟩
 obtain ⟨y242, Ny242, H⟩ := H
 replace H := bs_ H
 obtain ⟨⟨t245, t246⟩, A5, H⟩ := H
 dsimp only at H
 have H' := Aside0.mk H
 clear H
 go_enter Try.func44, Try.ntmps44
 go_wp2_with (first | ((with_reducible refine gd_ 4 ?_); refine bx_ 4 34 #[.int .i64 a0_0, .slice A0_1 l0_1.length c0_1, .slice A0_2 l0_2.length c0_2, .int .i64 a0_3, .int .i64 a0_4, .int .i64 a0_5, .int .i64 a0_6, .int .i64 a0_7, .slice A0_8 l0_8.length c0_8, .int .i64 a0_9] ?_; intro gb241 hg w6 hbox hb; refine sh3_ (below_step (bl_ HB) hb) hbox (ge_ hg (bl_ HB)) ?_; clear HB hb hbox hg; intro HB BK241 GE241) | ((with_reducible refine gate_dst (N := 13) rfl ?_); refine Kd.R_lit k73 _ 73 ?hg (N := 13) ?hd (xs := ([] : List (S73))) (inner := []) (ok := fun _ => True) (okp := fun _ => True) ?hr ?hp (fun _ hk => hk) trivial (Below.refl _ _) (Nat.le_refl _) (by simp) ?_; (case hd => rfl); (case hg => rfl); (case hr => first | (go_simp; done) | (go_simp; rfl)); (case hp => exact (Reps.none _ _)); intro v243 w7 ho8 hb hg_ hnew_; clear hg_ hnew_; (first | rw [← Ny242.out] at ho8 | (simp only [Int.reduceToNat] at ho8; rw [← Ny242.out] at ho8)); refine sh3_ (Kd.R_lower ho8 (below_size (bl1_ HB GE241))) (blk_below (bk_ BK241) hb) (below_step (bl1_ HB GE241) hb) ?_; clear BK241 HB hb ho8; intro HO244 BK241 HB) | ((with_reducible refine gate_callee (f := 71) rfl ?_); refine gl_ 17 Try.func71 (spec_l8Ticks.calls a2 a3 t245 t246 _ A5.out) ?_; rintro e w' ⟨rfl, ⟨nd, rfl⟩⟩; refine ⟨_, rfl, ?_⟩))
 go_loopg [9, 12] k (fun kq v9 v12 w' => ∃ (x9_1 : List (S73)) (x12_1 : Int), v12 = .int .i64 x12_1 ∧ Aside0 (spec_QuietSpans.l0 kq a1 x9_1 t246 x12_1 a0_0 l0_1 l0_2 a0_3 a0_4 a0_5 a0_6 a0_7 l0_8 a0_9 = some r) ∧ Aside0 (kq ≤ k) ∧ Aside0 (Kd.R k73 73 w' w.heap.size (fun _ => True) v9 x9_1) ∧ Aside0 (w'.heap[gb241]? = some (.cells #[.int .i64 a0_0, (.slice A0_1 l0_1.length c0_1), (.slice A0_2 l0_2.length c0_2), .int .i64 a0_3, .int .i64 a0_4, .int .i64 a0_5, .int .i64 a0_6, .int .i64 a0_7, (.slice A0_8 l0_8.length c0_8), .int .i64 a0_9] 34 (0, 0))) ∧ Aside0 (Below w.heap.size w w'))
 case atStart => exact ⟨(y242), (t245), (by first | rfl | (simp; done) | (simp [*]; done)), H', ⟨Nat.le_refl _⟩, ⟨ra_ HO244⟩, ⟨by (with_reducible repeat (first | refine blk_drewN ?_ _ | refine blk_drew ?_ | refine blk_alloc ?_ _)); exact BK241.out⟩, ⟨bl1_ HB GE241⟩⟩
 case round =>
  clear H'
  try clear p2
  try clear c4
  try clear c7
  obtain ⟨x9_1, x12_1, rfl, HA, HK1, HO_9, BK241, HB⟩ := hrel
  cases gk with
  | zero => exact absurd HA.out (by simp [spec_QuietSpans.l0])
  | succ k1 =>
   have H := HA.out
   clear HA
   simp only [spec_QuietSpans.l0] at H
   by_cases c9 : x12_1 < t246
   ·rw [if_pos c9] at H
    have c9b0 := decide_eq_true c9
    clear c9
    replace H := bs_ H
    obtain ⟨t247, A10, H⟩ := H
    by_cases c11 : t247 = true
    ·subst c11
     rw [if_pos rfl] at H
     replace H := bs_ H
     obtain ⟨t248, A12, H⟩ := H
     have H' := Aside0.mk H
     clear H
     have hcz13 := cf10_ BK241
     go_wp2_with (first | ((with_reducible refine gate_callee (f := 81) rfl ?_); refine gl_ 29 Try.func81 (spec_MayDisturb.calls k1 a0_0 _ _ l0_1 _ _ l0_2 a0_3 a0_4 a0_5 a0_6 a0_7 _ _ l0_8 a0_9 a1 x12_1 true _ (ck_ HR0_1 HB) HC0_1.out (ck_ HR0_2 HB) HC0_2.out (ck_ HR0_8 HB) HC0_8.out A10.out) ?_; rintro e w14 ⟨rfl, hb⟩; refine ⟨_, rfl, sh3_ (Kd.R_below (ra_ HO_9) hb) (blk_below (bk_ BK241) hb) (below_step (bl1_ HB GE241) hb) ?_⟩; clear HO_9 BK241 HB hb; intro HO_9 BK241 HB; obtain ⟨Ao15, co15, eo15⟩ := Kd.R_slice HO_9.out; subst eo15) | ((with_reducible refine gate_callee (f := 77) rfl ?_); refine goesL_ (some 32) rfl rfl Try.func77 (by kernel_rfl) rfl #[.slice Ao15 x9_1.length co15, .int .i64 x12_1] rfl mp_ ?_; (with_reducible refine (spec_l4Put.calls (fun k_ => some k_ = (.slice Ao15 x9_1.length co15 : Value).ownBlock) (.slice Ao15 x9_1.length co15) x9_1 x12_1 t248 w _ ?side1 ?side2 A12.out).mono ?_); (case side1 => repeat (first | (with_reducible first | exact HB.out | apply below_alloc | apply pw_below_drewN | apply below_drew1 | refine below_set ?_ GE241.out) | exact HB.out)); (case side2 => exact Kd.R_tight rfl HO_9.out); rintro e w16 ⟨v249, rfl, ho0, hb, hkp⟩; refine ⟨_, rfl, sh3_ (blk_kept (bk_ BK241) hkp (fun hs_ => (fun e_ => (Kd.R_ne HO_9.out BK241.out (by decide)) e_) hs_)) (Kd.R_mono (ok' := fun k_ => True) ho0 (fun k_ hk_ => trivial)) hb ?_⟩; clear BK241 HB HO_9 hb hkp ho0; intro BK241 HO250 HB))
     go_roundg k1
     case measure => have := HK1.out; omega
     case rel => exact ⟨(t248), (wrap64 (x12_1 + 1)), (by first | rfl | (simp; done) | (simp [*]; done)), H', ⟨by have := HK1.out; omega⟩, ⟨ra_ HO250⟩, ⟨by (with_reducible repeat (first | refine blk_drewN ?_ _ | refine blk_drew ?_ | refine blk_alloc ?_ _)); exact BK241.out⟩, ⟨bl1_ HB GE241⟩⟩
    ·replace c11 := Bool.eq_false_iff.mpr c11
     subst c11
     have H1 : (spec_QuietSpans.l0 k1 a1 x9_1 t246 (wrap64 (x12_1 + 1)) a0_0 l0_1 l0_2 a0_3 a0_4 a0_5 a0_6 a0_7 l0_8 a0_9) = some r := by rw [if_neg (show ¬ (false = true) by decide)] at H; exact H
     clear H
     have H := H1
     clear H1
     have H' := Aside0.mk H
     clear H
     have hcz17 := cf10_ BK241
     go_wp2_with (first | ((with_reducible refine gate_callee (f := 81) rfl ?_); refine gl_ 29 Try.func81 (spec_MayDisturb.calls k1 a0_0 _ _ l0_1 _ _ l0_2 a0_3 a0_4 a0_5 a0_6 a0_7 _ _ l0_8 a0_9 a1 x12_1 false _ (ck_ HR0_1 HB) HC0_1.out (ck_ HR0_2 HB) HC0_2.out (ck_ HR0_8 HB) HC0_8.out A10.out) ?_; rintro e w18 ⟨rfl, hb⟩; refine ⟨_, rfl, sh3_ (Kd.R_below (ra_ HO_9) hb) (blk_below (bk_ BK241) hb) (below_step (bl1_ HB GE241) hb) ?_⟩; clear HO_9 BK241 HB hb; intro HO_9 BK241 HB))
     go_roundg k1
     case measure => have := HK1.out; omega
     case rel => exact ⟨(x9_1), (wrap64 (x12_1 + 1)), (by first | rfl | (simp; done) | (simp [*]; done)), H', ⟨by have := HK1.out; omega⟩, ⟨ra_ HO_9⟩, ⟨by (with_reducible repeat (first | refine blk_drewN ?_ _ | refine blk_drew ?_ | refine blk_alloc ?_ _)); exact BK241.out⟩, ⟨bl1_ HB GE241⟩⟩
   ·rw [if_neg c9] at H
    have c9b0 := decide_eq_false c9
    clear c9
    obtain rfl := Option.some.inj H
    go_wp2
    go_ret
    exact ⟨_, er_, ra_ HO_9, bl1_ HB GE241⟩

end Go.Proofs.Ytcjfalmhohcifaa.PFnExactSpeakingSpans
