-- Written by a program of this session for this claim (the kit's printer with changes).
import Derived.Test.YtcjfalmhohcifaaQFnExactSureNeighborsx0
import Derived.Test.YtcjfalmhohcifaaQFnExactSureNeighborsx2
import Derived.Test.YtcjfalmhohcifaaQFnExactSureNeighborsx3
namespace Go.Proofs.Ytcjfalmhohcifaa.PFnExactSureNeighbors
open Go.RowKit Go.Proofs.YtcjfalmhohcifaaW.PrintWords Go.Proofs.YtcjfalmhohcifaaW.PrintLast Go.Proofs.YtcjfalmhohcifaaW.PrintMore
attribute [local go_sem] max2_int min2_int max_two min_two max_three min_three max_four min_four   -- for this text's walks alone
set_option linter.unusedVariables false
set_option linter.unusedSimpArgs false

/-! ### spec_LimitOf: function 110 -/
mutual
def spec_LimitOf.j0 : Nat → Int → Int → Bool → Int → List (S105) → List (S109) → Int → Int → Int → Int → Int → List (S115) → Int → Option (Int)
 | 0, _, _, _, _, _, _, _, _, _, _, _, _, _ => none
 | k + 1, x1, x2, x38, x243000, x243001, x243002, x243003, x243004, x243005, x243006, x243007, x243008, x243009 => if x38 = true then (some (-1)) else ((spec_PlaneOf.f x243000 x243001 x243002 x243003 x243004 x243005 x243006 x243007 x243008 x243009 x1).bind fun t248 => ((spec_PlaneOf.f x243000 x243001 x243002 x243003 x243004 x243005 x243006 x243007 x243008 x243009 x2).bind fun t249 => ((spec_IsSite.f x243000 x243001 x243002 x243003 x243004 x243005 x243006 x243007 x243008 x243009 x1).bind fun t250 => (if t250 = true then (spec_LimitOf.j1 k t248 t249 true x243000 x243001 x243002 x243003 x243004 x243005 x243006 x243007 x243008 x243009) else ((spec_IsSite.f x243000 x243001 x243002 x243003 x243004 x243005 x243006 x243007 x243008 x243009 x2).bind fun t251 => (spec_LimitOf.j1 k t248 t249 t251 x243000 x243001 x243002 x243003 x243004 x243005 x243006 x243007 x243008 x243009))))))
def spec_LimitOf.j1 : Nat → Int → Int → Bool → Int → List (S105) → List (S109) → Int → Int → Int → Int → Int → List (S115) → Int → Option (Int)
 | 0, _, _, _, _, _, _, _, _, _, _, _, _, _ => none
 | k + 1, x8, x9, x45, x243000, x243001, x243002, x243003, x243004, x243005, x243006, x243007, x243008, x243009 => if x45 = true then (if x8 = x9 then (some x243005) else ((spec_l7Near.f x243000 x243001 x243002 x243003 x243004 x243005 x243006 x243007 x243008 x243009 x8 x9).bind fun t252 => (if t252 = true then (some x243005) else (some (-1))))) else (if x8 = x9 then (some x243003) else ((spec_l7Near.f x243000 x243001 x243002 x243003 x243004 x243005 x243006 x243007 x243008 x243009 x8 x9).bind fun t253 => (if t253 = true then (some x243004) else (some (-1)))))
end
def spec_LimitOf.f (k : Nat) (a0_0 : Int) (l0_1 : List (S105)) (l0_2 : List (S109)) (a0_3 : Int) (a0_4 : Int) (a0_5 : Int) (a0_6 : Int) (a0_7 : Int) (l0_8 : List (S115)) (a0_9 : Int) (a1 : Int) (a2 : Int) : Option (Int) := (spec_NodesOf.f a0_0 l0_1 l0_2 a0_3 a0_4 a0_5 a0_6 a0_7 l0_8 a0_9).bind fun t243 => ((spec_l1In.f a1 0 (wrap64 (t243 - 1))).bind fun t244 => (if t244 = true then ((spec_l1In.f a2 0 (wrap64 (t243 - 1))).bind fun t245 => (if t245 = true then (if a1 = a2 then (spec_LimitOf.j0 k a1 a2 true a0_0 l0_1 l0_2 a0_3 a0_4 a0_5 a0_6 a0_7 l0_8 a0_9) else ((spec_IsSite.f a0_0 l0_1 l0_2 a0_3 a0_4 a0_5 a0_6 a0_7 l0_8 a0_9 a1).bind fun t246 => (if t246 = true then ((spec_IsSite.f a0_0 l0_1 l0_2 a0_3 a0_4 a0_5 a0_6 a0_7 l0_8 a0_9 a2).bind fun t247 => (spec_LimitOf.j0 k a1 a2 t247 a0_0 l0_1 l0_2 a0_3 a0_4 a0_5 a0_6 a0_7 l0_8 a0_9)) else (spec_LimitOf.j0 k a1 a2 false a0_0 l0_1 l0_2 a0_3 a0_4 a0_5 a0_6 a0_7 l0_8 a0_9)))) else (spec_LimitOf.j0 k a1 a2 true a0_0 l0_1 l0_2 a0_3 a0_4 a0_5 a0_6 a0_7 l0_8 a0_9))) else (spec_LimitOf.j0 k a1 a2 true a0_0 l0_1 l0_2 a0_3 a0_4 a0_5 a0_6 a0_7 l0_8 a0_9)))
theorem spec_LimitOf.mono_l : ∀ k, (∀ y0 y1 y2 y3 y4 y5 y6 y7 y8 y9 y10 y11 y12, LeO (spec_LimitOf.j0 k y0 y1 y2 y3 y4 y5 y6 y7 y8 y9 y10 y11 y12) (spec_LimitOf.j0 (k + 1) y0 y1 y2 y3 y4 y5 y6 y7 y8 y9 y10 y11 y12)) ∧ (∀ y0 y1 y2 y3 y4 y5 y6 y7 y8 y9 y10 y11 y12, LeO (spec_LimitOf.j1 k y0 y1 y2 y3 y4 y5 y6 y7 y8 y9 y10 y11 y12) (spec_LimitOf.j1 (k + 1) y0 y1 y2 y3 y4 y5 y6 y7 y8 y9 y10 y11 y12))
 | 0 => ⟨fun _ _ _ _ _ _ _ _ _ _ _ _ _ r h => by simp [spec_LimitOf.j0] at h, fun _ _ _ _ _ _ _ _ _ _ _ _ _ r h => by simp [spec_LimitOf.j1] at h⟩
 | k + 1 => by
  obtain ⟨ih0, ih1⟩ := spec_LimitOf.mono_l k
  refine ⟨?_, ?_⟩
  ·intro y0 y1 y2 y3 y4 y5 y6 y7 y8 y9 y10 y11 y12
   unfold spec_LimitOf.j0
   repeat' first | (with_reducible first | exact ih0 _ _ _ _ _ _ _ _ _ _ _ _ _ | exact ih1 _ _ _ _ _ _ _ _ _ _ _ _ _ | exact LeO.refl _ | exact LeO.none _ | refine LeO.ite ?_ ?_ | refine LeO.bind ?_ (fun _ => ?_)) | exact LeO.none _ | refine LeO.ite ?_ ?_ | refine LeO.bind ?_ (fun _ => ?_)
  ·intro y0 y1 y2 y3 y4 y5 y6 y7 y8 y9 y10 y11 y12
   unfold spec_LimitOf.j1
   repeat' first | (with_reducible first | exact ih0 _ _ _ _ _ _ _ _ _ _ _ _ _ | exact ih1 _ _ _ _ _ _ _ _ _ _ _ _ _ | exact LeO.refl _ | exact LeO.none _ | refine LeO.ite ?_ ?_ | refine LeO.bind ?_ (fun _ => ?_)) | exact LeO.none _ | refine LeO.ite ?_ ?_ | refine LeO.bind ?_ (fun _ => ?_)
theorem spec_LimitOf.mono : ∀ a0 a1 a2 a3 a4 a5 a6 a7 a8 a9 a10 a11 k, LeO (spec_LimitOf.f k a0 a1 a2 a3 a4 a5 a6 a7 a8 a9 a10 a11) (spec_LimitOf.f (k + 1) a0 a1 a2 a3 a4 a5 a6 a7 a8 a9 a10 a11) := by
 intro a0 a1 a2 a3 a4 a5 a6 a7 a8 a9 a10 a11 k
 obtain ⟨ih0, ih1⟩ := spec_LimitOf.mono_l k
 unfold spec_LimitOf.f
 repeat' first | (with_reducible first | exact ih0 _ _ _ _ _ _ _ _ _ _ _ _ _ | exact ih1 _ _ _ _ _ _ _ _ _ _ _ _ _ | exact LeO.refl _ | exact LeO.none _ | refine LeO.ite ?_ ?_ | refine LeO.bind ?_ (fun _ => ?_)) | exact LeO.none _ | refine LeO.ite ?_ ?_ | refine LeO.bind ?_ (fun _ => ?_)
set_option maxHeartbeats 8000000 in
set_option maxRecDepth 100000 in
theorem spec_LimitOf.calls (k : Nat) (a0_0 : Int) (A0_1 : Option Addr) (c0_1 : Nat) (l0_1 : List (S105)) (A0_2 : Option Addr) (c0_2 : Nat) (l0_2 : List (S109)) (a0_3 : Int) (a0_4 : Int) (a0_5 : Int) (a0_6 : Int) (a0_7 : Int) (A0_8 : Option Addr) (c0_8 : Nat) (l0_8 : List (S115)) (a0_9 : Int) (a1 : Int) (a2 : Int) (r : Int) (w : World) (hr0_1 : Kd.C k105 w A0_1 l0_1.length l0_1) (hc0_1 : l0_1.length ≤ c0_1) (hr0_2 : Kd.C k109 w A0_2 l0_2.length l0_2) (hc0_2 : l0_2.length ≤ c0_2) (hr0_8 : Kd.C k115 w A0_8 l0_8.length l0_8) (hc0_8 : l0_8.length ≤ c0_8) (h : spec_LimitOf.f k a0_0 l0_1 l0_2 a0_3 a0_4 a0_5 a0_6 a0_7 l0_8 a0_9 a1 a2 = some r) :
  Calls Try.prog 110 #[.agg #[.int .i64 a0_0, .slice A0_1 l0_1.length c0_1, .slice A0_2 l0_2.length c0_2, .int .i64 a0_3, .int .i64 a0_4, .int .i64 a0_5, .int .i64 a0_6, .int .i64 a0_7, .slice A0_8 l0_8.length c0_8, .int .i64 a0_9], .int .i64 a1, .int .i64 a2] w fun e w' => e = .returned (.int .i64 r) ∧ Below w.heap.size w w' := by
 have hu34 := Try.underlying34
 have HR0_1 := Aside0.mk hr0_1
 have HC0_1 := Aside0.mk hc0_1
 clear hr0_1 hc0_1
 have HR0_2 := Aside0.mk hr0_2
 have HC0_2 := Aside0.mk hc0_2
 clear hr0_2 hc0_2
 have HR0_8 := Aside0.mk hr0_8
 have HC0_8 := Aside0.mk hc0_8
 clear hr0_8 hc0_8
 have HB := Aside0.mk (Below.refl w.heap.size w)
 have H := h
 clear h
 unfold spec_LimitOf.f at H
 replace H := bs_ H
 obtain ⟨t243, A4, H⟩ := H
 have HC5 := Aside0.mk H
 clear H
 go_enter Try.func110, Try.ntmps110
 go_upto_region 2 with (first | ((with_reducible refine gd_ 3 ?_); refine bx_ 3 34 #[.int .i64 a0_0, .slice A0_1 l0_1.length c0_1, .slice A0_2 l0_2.length c0_2, .int .i64 a0_3, .int .i64 a0_4, .int .i64 a0_5, .int .i64 a0_6, .int .i64 a0_7, .slice A0_8 l0_8.length c0_8, .int .i64 a0_9] ?_; intro gb242 hg w6 hbox hb; refine sh4_ (below_step (bl_ HB) hb) hbox (ge_ hg (bl_ HB)) (ge_ hg (bl_ HB)) ?_; clear HB hb hbox hg; intro HB BK242 GW242 GE242; have hcz7 := cf10_ BK242) | ((with_reducible refine gate_callee (f := 67) rfl ?_); refine gl_ 11 Try.func67 (spec_NodesOf.calls a0_0 _ _ l0_1 _ _ l0_2 a0_3 a0_4 a0_5 a0_6 a0_7 _ _ l0_8 a0_9 t243 _ (ck_ HR0_1 HB) HC0_1.out (ck_ HR0_2 HB) HC0_2.out (ck_ HR0_8 HB) HC0_8.out A4.out) ?_; rintro e w8 ⟨rfl, hb⟩; refine ⟨_, rfl, sh2_ (blk_below (bk_ BK242) hb) (below_step (bl1_ HB GE242) hb) ?_⟩; clear BK242 HB hb; intro BK242 HB))
 (try simp only [Act.put, List.setIfInBounds_toArray, List.set_cons_zero, List.set_cons_succ])
 go_cut [38] (fun v38 wc => ∃ (kq : Nat) (x38_4 : Bool), v38 = .bool x38_4 ∧ Aside0 (spec_LimitOf.j0 kq a1 a2 x38_4 a0_0 l0_1 l0_2 a0_3 a0_4 a0_5 a0_6 a0_7 l0_8 a0_9 = some r) ∧ Aside0 (kq ≤ k) ∧ Aside0 (wc.heap[gb242]? = some (.cells #[.int .i64 a0_0, (.slice A0_1 l0_1.length c0_1), (.slice A0_2 l0_2.length c0_2), .int .i64 a0_3, .int .i64 a0_4, .int .i64 a0_5, .int .i64 a0_6, .int .i64 a0_7, (.slice A0_8 l0_8.length c0_8), .int .i64 a0_9] 34 (0, 0))) ∧ Aside0 (Below w.heap.size w wc))
 case first =>
  have H := HC5.out
  clear HC5
  replace H := bs_ H
  obtain ⟨t244, A9, H⟩ := H
  by_cases c10 : t244 = true
  ·subst c10
   rw [if_pos rfl] at H
   replace H := bs_ H
   obtain ⟨t245, A11, H⟩ := H
   by_cases c12 : t245 = true
   ·subst c12
    rw [if_pos rfl] at H
    by_cases c13 : a1 = a2
    ·rw [if_pos c13] at H
     obtain ⟨c13b0, c13b1⟩ := bt_ c13
     clear c13
     (first | rw [c13b0] | (simp only [i64_w, i32_w]; rw [c13b0]) | skip)
     have H' := Aside0.mk H
     clear H
     go_wp2_with (first | ((with_reducible refine gate_callee (f := 101) rfl ?_); refine gl_ 15 Try.func101 (spec_l1In.calls a1 0 (wrap64 (t243 - 1)) true _ A9.out) ?_; rintro e w' ⟨rfl, ⟨nd, rfl⟩⟩; refine ⟨_, rfl, ?_⟩) | (go_at_call 101; (with_reducible refine (spec_l1In.calls a2 0 (wrap64 (t243 - 1)) true _ A11.out).mono ?_); rintro e w' ⟨rfl, ⟨nd, rfl⟩⟩))
     go_meet
     case rel => exact ⟨_, (true), (by first | rfl | (simp; done) | (simp [*]; done)), H', ⟨by first | omega | exact Nat.le_refl _⟩, ⟨by (with_reducible repeat (first | refine blk_drewN ?_ _ | refine blk_drew ?_ | refine blk_alloc ?_ _)); exact BK242.out⟩, ⟨bl1_ HB GE242⟩⟩
    ·rw [if_neg c13] at H
     obtain ⟨c13b0, c13b1⟩ := bn_ c13
     (first | rw [c13b0] | (simp only [i64_w, i32_w]; rw [c13b0]) | skip)
     replace H := bs_ H
     obtain ⟨t246, A14, H⟩ := H
     by_cases c15 : t246 = true
     ·subst c15
      rw [if_pos rfl] at H
      replace H := bs_ H
      obtain ⟨t247, A16, H⟩ := H
      have H' := Aside0.mk H
      clear H
      go_wp2_with (first | ((with_reducible refine gate_callee (f := 101) rfl ?_); refine gl_ 15 Try.func101 (spec_l1In.calls a1 0 (wrap64 (t243 - 1)) true _ A9.out) ?_; rintro e w' ⟨rfl, ⟨nd, rfl⟩⟩; refine ⟨_, rfl, ?_⟩) | (go_at_call 101; (with_reducible refine (spec_l1In.calls a2 0 (wrap64 (t243 - 1)) true _ A11.out).mono ?_); rintro e w' ⟨rfl, ⟨nd, rfl⟩⟩; have hcz17 := cf10_ BK242) | (go_at_call 118; (with_reducible refine (spec_IsSite.calls a0_0 _ _ l0_1 _ _ l0_2 a0_3 a0_4 a0_5 a0_6 a0_7 _ _ l0_8 a0_9 a1 true _ ?side1 ?side2 ?side3 ?side4 ?side5 ?side6 A14.out).mono ?_); (case side1 => repeat (first | exact (Kd.C_below HR0_1.out (bl1_ HB GE242)) | (with_reducible refine Kd.C_alloc ?_ _) | (with_reducible refine Kd.C_drewN ?_ _) | (with_reducible refine Kd.C_drew ?_))); (case side2 => exact HC0_1.out); (case side3 => repeat (first | exact (Kd.C_below HR0_2.out (bl1_ HB GE242)) | (with_reducible refine Kd.C_alloc ?_ _) | (with_reducible refine Kd.C_drewN ?_ _) | (with_reducible refine Kd.C_drew ?_))); (case side4 => exact HC0_2.out); (case side5 => repeat (first | exact (Kd.C_below HR0_8.out (bl1_ HB GE242)) | (with_reducible refine Kd.C_alloc ?_ _) | (with_reducible refine Kd.C_drewN ?_ _) | (with_reducible refine Kd.C_drew ?_))); (case side6 => exact HC0_8.out); rintro e w18 ⟨rfl, hb⟩; refine sh2_ (blk_below (bk_ BK242) hb) (below_step (bl1_ HB GE242) hb) ?_; clear BK242 HB hb; intro BK242 HB; have hcz19 := cf10_ BK242) | (go_at_call 118; (with_reducible refine (spec_IsSite.calls a0_0 _ _ l0_1 _ _ l0_2 a0_3 a0_4 a0_5 a0_6 a0_7 _ _ l0_8 a0_9 a2 t247 _ ?side1 ?side2 ?side3 ?side4 ?side5 ?side6 A16.out).mono ?_); (case side1 => exact ck_ HR0_1 HB); (case side2 => exact HC0_1.out); (case side3 => exact ck_ HR0_2 HB); (case side4 => exact HC0_2.out); (case side5 => exact ck_ HR0_8 HB); (case side6 => exact HC0_8.out); rintro e w20 ⟨rfl, hb⟩; refine sh2_ (blk_below (bk_ BK242) hb) (below_step (bl1_ HB GE242) hb) ?_; clear BK242 HB hb; intro BK242 HB))
      go_meet
      case rel => exact ⟨_, (t247), (by first | rfl | (simp; done) | (simp [*]; done)), H', ⟨by first | omega | exact Nat.le_refl _⟩, ⟨by (with_reducible repeat (first | refine blk_drewN ?_ _ | refine blk_drew ?_ | refine blk_alloc ?_ _)); exact BK242.out⟩, ⟨bl1_ HB GE242⟩⟩
     ·replace c15 := Bool.eq_false_iff.mpr c15
      subst c15
      have H1 : (spec_LimitOf.j0 k a1 a2 false a0_0 l0_1 l0_2 a0_3 a0_4 a0_5 a0_6 a0_7 l0_8 a0_9) = some r := by rw [if_neg (show ¬ (false = true) by decide)] at H; exact H
      clear H
      have H := H1
      clear H1
      have H' := Aside0.mk H
      clear H
      go_wp2_with (first | ((with_reducible refine gate_callee (f := 101) rfl ?_); refine gl_ 15 Try.func101 (spec_l1In.calls a1 0 (wrap64 (t243 - 1)) true _ A9.out) ?_; rintro e w' ⟨rfl, ⟨nd, rfl⟩⟩; refine ⟨_, rfl, ?_⟩) | (go_at_call 101; (with_reducible refine (spec_l1In.calls a2 0 (wrap64 (t243 - 1)) true _ A11.out).mono ?_); rintro e w' ⟨rfl, ⟨nd, rfl⟩⟩; have hcz21 := cf10_ BK242) | (go_at_call 118; (with_reducible refine (spec_IsSite.calls a0_0 _ _ l0_1 _ _ l0_2 a0_3 a0_4 a0_5 a0_6 a0_7 _ _ l0_8 a0_9 a1 false _ ?side1 ?side2 ?side3 ?side4 ?side5 ?side6 A14.out).mono ?_); (case side1 => repeat (first | exact (Kd.C_below HR0_1.out (bl1_ HB GE242)) | (with_reducible refine Kd.C_alloc ?_ _) | (with_reducible refine Kd.C_drewN ?_ _) | (with_reducible refine Kd.C_drew ?_))); (case side2 => exact HC0_1.out); (case side3 => repeat (first | exact (Kd.C_below HR0_2.out (bl1_ HB GE242)) | (with_reducible refine Kd.C_alloc ?_ _) | (with_reducible refine Kd.C_drewN ?_ _) | (with_reducible refine Kd.C_drew ?_))); (case side4 => exact HC0_2.out); (case side5 => repeat (first | exact (Kd.C_below HR0_8.out (bl1_ HB GE242)) | (with_reducible refine Kd.C_alloc ?_ _) | (with_reducible refine Kd.C_drewN ?_ _) | (with_reducible refine Kd.C_drew ?_))); (case side6 => exact HC0_8.out); rintro e w22 ⟨rfl, hb⟩; refine sh2_ (blk_below (bk_ BK242) hb) (below_step (bl1_ HB GE242) hb) ?_; clear BK242 HB hb; intro BK242 HB))
      go_meet
      case rel => exact ⟨_, (false), (by first | rfl | (simp; done) | (simp [*]; done)), H', ⟨by first | omega | exact Nat.le_refl _⟩, ⟨by (with_reducible repeat (first | refine blk_drewN ?_ _ | refine blk_drew ?_ | refine blk_alloc ?_ _)); exact BK242.out⟩, ⟨bl1_ HB GE242⟩⟩
   ·replace c12 := Bool.eq_false_iff.mpr c12
    subst c12
    have H1 : (spec_LimitOf.j0 k a1 a2 true a0_0 l0_1 l0_2 a0_3 a0_4 a0_5 a0_6 a0_7 l0_8 a0_9) = some r := by rw [if_neg (show ¬ (false = true) by decide)] at H; exact H
    clear H
    have H := H1
    clear H1
    have H' := Aside0.mk H
    clear H
    go_wp2_with (first | ((with_reducible refine gate_callee (f := 101) rfl ?_); refine gl_ 15 Try.func101 (spec_l1In.calls a1 0 (wrap64 (t243 - 1)) true _ A9.out) ?_; rintro e w' ⟨rfl, ⟨nd, rfl⟩⟩; refine ⟨_, rfl, ?_⟩) | (go_at_call 101; (with_reducible refine (spec_l1In.calls a2 0 (wrap64 (t243 - 1)) false _ A11.out).mono ?_); rintro e w' ⟨rfl, ⟨nd, rfl⟩⟩))
    go_meet
    case rel => exact ⟨_, (true), (by first | rfl | (simp; done) | (simp [*]; done)), H', ⟨by first | omega | exact Nat.le_refl _⟩, ⟨by (with_reducible repeat (first | refine blk_drewN ?_ _ | refine blk_drew ?_ | refine blk_alloc ?_ _)); exact BK242.out⟩, ⟨bl1_ HB GE242⟩⟩
  ·replace c10 := Bool.eq_false_iff.mpr c10
   subst c10
   have H1 : (spec_LimitOf.j0 k a1 a2 true a0_0 l0_1 l0_2 a0_3 a0_4 a0_5 a0_6 a0_7 l0_8 a0_9) = some r := by rw [if_neg (show ¬ (false = true) by decide)] at H; exact H
   clear H
   have H := H1
   clear H1
   have H' := Aside0.mk H
   clear H
   go_wp2_with (first | ((with_reducible refine gate_callee (f := 101) rfl ?_); refine gl_ 15 Try.func101 (spec_l1In.calls a1 0 (wrap64 (t243 - 1)) false _ A9.out) ?_; rintro e w' ⟨rfl, ⟨nd, rfl⟩⟩; refine ⟨_, rfl, ?_⟩))
   go_meet
   case rel => exact ⟨_, (true), (by first | rfl | (simp; done) | (simp [*]; done)), H', ⟨by first | omega | exact Nat.le_refl _⟩, ⟨by (with_reducible repeat (first | refine blk_drewN ?_ _ | refine blk_drew ?_ | refine blk_alloc ?_ _)); exact BK242.out⟩, ⟨bl1_ HB GE242⟩⟩
 case rest =>
  clear HC5
  try clear c1
  try clear p2
  try clear c6
  try clear p6
  try clear c10
  try clear c11
  try clear c12
  try clear c13
  try clear c13b0
  try clear c13b1
  try clear c15
  try clear hcz17
  try clear hcz19
  try clear hcz21
  try clear hcz7
  obtain ⟨kq, x38_4, rfl, HA, HJ4, BK242, HB⟩ := hcut
  cases kq with
  | zero => exact absurd HA.out (by simp [spec_LimitOf.j0])
  | succ kj4 =>
   have H := HA.out
   clear HA
   simp only [spec_LimitOf.j0] at H
   by_cases c23 : x38_4 = true
   ·subst c23
    rw [if_pos rfl] at H
    obtain rfl := Option.some.inj H
    go_wp2
    go_ret
    exact ⟨er_, bl1_ HB GE242⟩
   ·replace c23 := Bool.eq_false_iff.mpr c23
    subst c23
    have H1 : ((spec_PlaneOf.f a0_0 l0_1 l0_2 a0_3 a0_4 a0_5 a0_6 a0_7 l0_8 a0_9 a1).bind fun t248 => ((spec_PlaneOf.f a0_0 l0_1 l0_2 a0_3 a0_4 a0_5 a0_6 a0_7 l0_8 a0_9 a2).bind fun t249 => ((spec_IsSite.f a0_0 l0_1 l0_2 a0_3 a0_4 a0_5 a0_6 a0_7 l0_8 a0_9 a1).bind fun t250 => (if t250 = true then (spec_LimitOf.j1 kj4 t248 t249 true a0_0 l0_1 l0_2 a0_3 a0_4 a0_5 a0_6 a0_7 l0_8 a0_9) else ((spec_IsSite.f a0_0 l0_1 l0_2 a0_3 a0_4 a0_5 a0_6 a0_7 l0_8 a0_9 a2).bind fun t251 => (spec_LimitOf.j1 kj4 t248 t249 t251 a0_0 l0_1 l0_2 a0_3 a0_4 a0_5 a0_6 a0_7 l0_8 a0_9)))))) = some r := by rw [if_neg (show ¬ (false = true) by decide)] at H; exact H
    clear H
    have H := H1
    clear H1
    replace H := bs_ H
    obtain ⟨t248, A24, H⟩ := H
    replace H := bs_ H
    obtain ⟨t249, A25, H⟩ := H
    have HC26 := Aside0.mk H
    clear H
    have hcz27 := cf10_ BK242
    go_upto_region 6 with (first | ((with_reducible refine gate_callee (f := 125) rfl ?_); refine gl_ 41 Try.func125 (spec_PlaneOf.calls a0_0 _ _ l0_1 _ _ l0_2 a0_3 a0_4 a0_5 a0_6 a0_7 _ _ l0_8 a0_9 a1 t248 _ (ck_ HR0_1 HB) HC0_1.out (ck_ HR0_2 HB) HC0_2.out (ck_ HR0_8 HB) HC0_8.out A24.out) ?_; rintro e w28 ⟨rfl, hb⟩; refine ⟨_, rfl, sh2_ (blk_below (bk_ BK242) hb) (below_step (bl1_ HB GE242) hb) ?_⟩; clear BK242 HB hb; intro BK242 HB; have hcz29 := cf10_ BK242) | ((with_reducible refine gate_callee (f := 125) rfl ?_); refine gl_ 44 Try.func125 (spec_PlaneOf.calls a0_0 _ _ l0_1 _ _ l0_2 a0_3 a0_4 a0_5 a0_6 a0_7 _ _ l0_8 a0_9 a2 t249 _ (ck_ HR0_1 HB) HC0_1.out (ck_ HR0_2 HB) HC0_2.out (ck_ HR0_8 HB) HC0_8.out A25.out) ?_; rintro e w30 ⟨rfl, hb⟩; refine ⟨_, rfl, sh2_ (blk_below (bk_ BK242) hb) (below_step (bl1_ HB GE242) hb) ?_⟩; clear BK242 HB hb; intro BK242 HB))
    (try simp only [Act.put, List.setIfInBounds_toArray, List.set_cons_zero, List.set_cons_succ])
    go_cut [45] (fun v45 wc => ∃ (kq : Nat) (x45_25 : Bool), v45 = .bool x45_25 ∧ Aside0 (spec_LimitOf.j1 kq t248 t249 x45_25 a0_0 l0_1 l0_2 a0_3 a0_4 a0_5 a0_6 a0_7 l0_8 a0_9 = some r) ∧ Aside0 (kq ≤ kj4) ∧ Aside0 (wc.heap[gb242]? = some (.cells #[.int .i64 a0_0, (.slice A0_1 l0_1.length c0_1), (.slice A0_2 l0_2.length c0_2), .int .i64 a0_3, .int .i64 a0_4, .int .i64 a0_5, .int .i64 a0_6, .int .i64 a0_7, (.slice A0_8 l0_8.length c0_8), .int .i64 a0_9] 34 (0, 0))) ∧ Aside0 (Below w.heap.size w wc))
    case first =>
     have H := HC26.out
     clear HC26
     replace H := bs_ H
     obtain ⟨t250, A31, H⟩ := H
     by_cases c32 : t250 = true
     ·subst c32
      rw [if_pos rfl] at H
      have H' := Aside0.mk H
      clear H
      have hcz33 := cf10_ BK242
      go_wp2_with (first | ((with_reducible refine gate_callee (f := 118) rfl ?_); refine gl_ 48 Try.func118 (spec_IsSite.calls a0_0 _ _ l0_1 _ _ l0_2 a0_3 a0_4 a0_5 a0_6 a0_7 _ _ l0_8 a0_9 a1 true _ (ck_ HR0_1 HB) HC0_1.out (ck_ HR0_2 HB) HC0_2.out (ck_ HR0_8 HB) HC0_8.out A31.out) ?_; rintro e w34 ⟨rfl, hb⟩; refine ⟨_, rfl, sh2_ (blk_below (bk_ BK242) hb) (below_step (bl1_ HB GE242) hb) ?_⟩; clear BK242 HB hb; intro BK242 HB))
      go_meet
      case rel => exact ⟨_, (true), (by first | rfl | (simp; done) | (simp [*]; done)), H', ⟨by have := HJ4.out; first | omega | exact Nat.le_refl _⟩, ⟨by (with_reducible repeat (first | refine blk_drewN ?_ _ | refine blk_drew ?_ | refine blk_alloc ?_ _)); exact BK242.out⟩, ⟨bl1_ HB GE242⟩⟩
     ·replace c32 := Bool.eq_false_iff.mpr c32
      subst c32
      have H1 : ((spec_IsSite.f a0_0 l0_1 l0_2 a0_3 a0_4 a0_5 a0_6 a0_7 l0_8 a0_9 a2).bind fun t251 => (spec_LimitOf.j1 kj4 t248 t249 t251 a0_0 l0_1 l0_2 a0_3 a0_4 a0_5 a0_6 a0_7 l0_8 a0_9)) = some r := by rw [if_neg (show ¬ (false = true) by decide)] at H; exact H
      clear H
      have H := H1
      clear H1
      replace H := bs_ H
      obtain ⟨t251, A35, H⟩ := H
      have H' := Aside0.mk H
      clear H
      have hcz36 := cf10_ BK242
      go_wp2_with (first | ((with_reducible refine gate_callee (f := 118) rfl ?_); refine gl_ 48 Try.func118 (spec_IsSite.calls a0_0 _ _ l0_1 _ _ l0_2 a0_3 a0_4 a0_5 a0_6 a0_7 _ _ l0_8 a0_9 a1 false _ (ck_ HR0_1 HB) HC0_1.out (ck_ HR0_2 HB) HC0_2.out (ck_ HR0_8 HB) HC0_8.out A31.out) ?_; rintro e w37 ⟨rfl, hb⟩; refine ⟨_, rfl, sh2_ (blk_below (bk_ BK242) hb) (below_step (bl1_ HB GE242) hb) ?_⟩; clear BK242 HB hb; intro BK242 HB; have hcz38 := cf10_ BK242) | (go_at_call 118; (with_reducible refine (spec_IsSite.calls a0_0 _ _ l0_1 _ _ l0_2 a0_3 a0_4 a0_5 a0_6 a0_7 _ _ l0_8 a0_9 a2 t251 _ ?side1 ?side2 ?side3 ?side4 ?side5 ?side6 A35.out).mono ?_); (case side1 => exact ck_ HR0_1 HB); (case side2 => exact HC0_1.out); (case side3 => exact ck_ HR0_2 HB); (case side4 => exact HC0_2.out); (case side5 => exact ck_ HR0_8 HB); (case side6 => exact HC0_8.out); rintro e w39 ⟨rfl, hb⟩; refine sh2_ (blk_below (bk_ BK242) hb) (below_step (bl1_ HB GE242) hb) ?_; clear BK242 HB hb; intro BK242 HB))
      go_meet
      case rel => exact ⟨_, (t251), (by first | rfl | (simp; done) | (simp [*]; done)), H', ⟨by have := HJ4.out; first | omega | exact Nat.le_refl _⟩, ⟨by (with_reducible repeat (first | refine blk_drewN ?_ _ | refine blk_drew ?_ | refine blk_alloc ?_ _)); exact BK242.out⟩, ⟨bl1_ HB GE242⟩⟩
    case rest =>
     clear HC26
     try clear c1
     try clear c2
     try clear p2
     try clear c3
     try clear c6
     try clear p6
     try clear c10
     try clear c11
     try clear c12
     try clear c13
     try clear c13b0
     try clear c13b1
     try clear c15
     try clear c23
     try clear c32
     try clear hcz17
     try clear hcz19
     try clear hcz21
     try clear hcz27
     try clear hcz29
     try clear hcz33
     try clear hcz36
     try clear hcz38
     try clear hcz7
     try clear p2
     try clear p6
     obtain ⟨kq, x45_25, rfl, HA, HJ25, BK242, HB⟩ := hcut
     cases kq with
     | zero => exact absurd HA.out (by simp [spec_LimitOf.j1])
     | succ kj25 =>
      have H := HA.out
      clear HA
      simp only [spec_LimitOf.j1] at H
      by_cases c40 : x45_25 = true
      ·subst c40
       rw [if_pos rfl] at H
       by_cases c41 : t248 = t249
       ·rw [if_pos c41] at H
        obtain ⟨c41b0, c41b1⟩ := bt_ c41
        clear c41
        obtain rfl := Option.some.inj H
        have hcz42 := cf10_ BK242
        go_wp2
        go_ret
        exact ⟨er_, bl1_ HB GE242⟩
       ·rw [if_neg c41] at H
        obtain ⟨c41b0, c41b1⟩ := bn_ c41
        replace H := bs_ H
        obtain ⟨t252, A43, H⟩ := H
        by_cases c44 : t252 = true
        ·subst c44
         rw [if_pos rfl] at H
         obtain rfl := Option.some.inj H
         have hcz45 := cf10_ BK242
         go_wp2_with (first | (go_at_call 126; (with_reducible refine (spec_l7Near.calls a0_0 _ _ l0_1 _ _ l0_2 a0_3 a0_4 a0_5 a0_6 a0_7 _ _ l0_8 a0_9 t248 t249 true _ ?side1 ?side2 ?side3 ?side4 ?side5 ?side6 A43.out).mono ?_); (case side1 => exact ck_ HR0_1 HB); (case side2 => exact HC0_1.out); (case side3 => exact ck_ HR0_2 HB); (case side4 => exact HC0_2.out); (case side5 => exact ck_ HR0_8 HB); (case side6 => exact HC0_8.out); rintro e w46 ⟨rfl, hb⟩; refine sh2_ (blk_below (bk_ BK242) hb) (below_step (bl1_ HB GE242) hb) ?_; clear BK242 HB hb; intro BK242 HB; have hcz47 := cf10_ BK242))
         go_ret
         exact ⟨er_, bl1_ HB GE242⟩
        ·replace c44 := Bool.eq_false_iff.mpr c44
         subst c44
         have H1 : (some (-1)) = some r := by rw [if_neg (show ¬ (false = true) by decide)] at H; exact H
         clear H
         have H := H1
         clear H1
         obtain rfl := Option.some.inj H
         have hcz48 := cf10_ BK242
         go_wp2_with (first | (go_at_call 126; (with_reducible refine (spec_l7Near.calls a0_0 _ _ l0_1 _ _ l0_2 a0_3 a0_4 a0_5 a0_6 a0_7 _ _ l0_8 a0_9 t248 t249 false _ ?side1 ?side2 ?side3 ?side4 ?side5 ?side6 A43.out).mono ?_); (case side1 => exact ck_ HR0_1 HB); (case side2 => exact HC0_1.out); (case side3 => exact ck_ HR0_2 HB); (case side4 => exact HC0_2.out); (case side5 => exact ck_ HR0_8 HB); (case side6 => exact HC0_8.out); rintro e w49 ⟨rfl, hb⟩; refine sh2_ (blk_below (bk_ BK242) hb) (below_step (bl1_ HB GE242) hb) ?_; clear BK242 HB hb; intro BK242 HB))
         go_ret
         exact ⟨er_, bl1_ HB GE242⟩
      ·replace c40 := Bool.eq_false_iff.mpr c40
       subst c40
       have H1 : (if t248 = t249 then (some a0_3) else ((spec_l7Near.f a0_0 l0_1 l0_2 a0_3 a0_4 a0_5 a0_6 a0_7 l0_8 a0_9 t248 t249).bind fun t253 => (if t253 = true then (some a0_4) else (some (-1))))) = some r := by rw [if_neg (show ¬ (false = true) by decide)] at H; exact H
       clear H
       have H := H1
       clear H1
       by_cases c50 : t248 = t249
       ·rw [if_pos c50] at H
        obtain ⟨c50b0, c50b1⟩ := bt_ c50
        clear c50
        obtain rfl := Option.some.inj H
        have hcz51 := cf10_ BK242
        go_wp2
        go_ret
        exact ⟨er_, bl1_ HB GE242⟩
       ·rw [if_neg c50] at H
        obtain ⟨c50b0, c50b1⟩ := bn_ c50
        replace H := bs_ H
        obtain ⟨t253, A52, H⟩ := H
        by_cases c53 : t253 = true
        ·subst c53
         rw [if_pos rfl] at H
         obtain rfl := Option.some.inj H
         have hcz54 := cf10_ BK242
         go_wp2_with (first | ((with_reducible refine gate_callee (f := 126) rfl ?_); refine gl_ 75 Try.func126 (spec_l7Near.calls a0_0 _ _ l0_1 _ _ l0_2 a0_3 a0_4 a0_5 a0_6 a0_7 _ _ l0_8 a0_9 t248 t249 true _ (ck_ HR0_1 HB) HC0_1.out (ck_ HR0_2 HB) HC0_2.out (ck_ HR0_8 HB) HC0_8.out A52.out) ?_; rintro e w55 ⟨rfl, hb⟩; refine ⟨_, rfl, sh2_ (blk_below (bk_ BK242) hb) (below_step (bl1_ HB GE242) hb) ?_⟩; clear BK242 HB hb; intro BK242 HB; have hcz56 := cf10_ BK242))
         go_ret
         exact ⟨er_, bl1_ HB GE242⟩
        ·replace c53 := Bool.eq_false_iff.mpr c53
         subst c53
         have H1 : (some (-1)) = some r := by rw [if_neg (show ¬ (false = true) by decide)] at H; exact H
         clear H
         have H := H1
         clear H1
         obtain rfl := Option.some.inj H
         have hcz57 := cf10_ BK242
         go_wp2_with (first | ((with_reducible refine gate_callee (f := 126) rfl ?_); refine gl_ 75 Try.func126 (spec_l7Near.calls a0_0 _ _ l0_1 _ _ l0_2 a0_3 a0_4 a0_5 a0_6 a0_7 _ _ l0_8 a0_9 t248 t249 false _ (ck_ HR0_1 HB) HC0_1.out (ck_ HR0_2 HB) HC0_2.out (ck_ HR0_8 HB) HC0_8.out A52.out) ?_; rintro e w58 ⟨rfl, hb⟩; refine ⟨_, rfl, sh2_ (blk_below (bk_ BK242) hb) (below_step (bl1_ HB GE242) hb) ?_⟩; clear BK242 HB hb; intro BK242 HB))
         go_ret
         exact ⟨er_, bl1_ HB GE242⟩

/-! ### spec_GapOf: function 111 -/
def spec_GapOf.f (a0 : Int) (a1 : Int) : Option (Int) := (spec_AngleOf.f a0).bind fun t254 => ((spec_AngleOf.f a1).bind fun t255 => ((spec_AngleOf.f (wrap64 (t254 - t255))).bind fun t256 => ((spec_Min.f t256 (wrap64 (360 - t256))).bind fun t257 => (some t257))))
set_option maxHeartbeats 8000000 in
set_option maxRecDepth 100000 in
theorem spec_GapOf.calls (a0 : Int) (a1 : Int) (r : Int) (w : World) (h : spec_GapOf.f a0 a1 = some r) :
  Calls Try.prog 111 #[.int .i64 a0, .int .i64 a1] w fun e w' => e = .returned (.int .i64 r) ∧ Drawn0 w w' := by
 have H := h
 clear h
 unfold spec_GapOf.f at H
 replace H := bs_ H
 obtain ⟨t254, A3, H⟩ := H
 replace H := bs_ H
 obtain ⟨t255, A4, H⟩ := H
 replace H := bs_ H
 obtain ⟨t256, A5, H⟩ := H
 replace H := bs_ H
 obtain ⟨t257, A6, H⟩ := H
 obtain rfl := Option.some.inj H
 go_enter Try.func111, Try.ntmps111
 go_wp2_with (first | ((with_reducible refine gate_callee (f := 127) rfl ?_); refine gl_ 7 Try.func127 (spec_AngleOf.calls a0 t254 _ A3.out) ?_; rintro e w' ⟨rfl, ⟨nd, rfl⟩⟩; refine ⟨_, rfl, ?_⟩) | ((with_reducible refine gate_callee (f := 127) rfl ?_); refine gl_ 9 Try.func127 (spec_AngleOf.calls a1 t255 _ A4.out) ?_; rintro e w' ⟨rfl, ⟨nd, rfl⟩⟩; refine ⟨_, rfl, ?_⟩) | ((with_reducible refine gate_callee (f := 127) rfl ?_); refine gl_ 11 Try.func127 (spec_AngleOf.calls (wrap64 (t254 - t255)) t256 _ A5.out) ?_; rintro e w' ⟨rfl, ⟨nd, rfl⟩⟩; refine ⟨_, rfl, ?_⟩) | ((with_reducible refine gate_callee (f := 99) rfl ?_); refine gl_ 15 Try.func99 (spec_Min.calls t256 (wrap64 (360 - t256)) t257 _ A6.out) ?_; rintro e w' ⟨rfl, ⟨nd, rfl⟩⟩; refine ⟨_, rfl, ?_⟩))
 go_ret
 exact ⟨by first | rfl | (simp; done) | (simp [*]; done), by repeat (first | exact Drawn0.refl _ | apply Drawn0.step)⟩

/-! ### spec_MiddleOf: function 112 -/
def spec_MiddleOf.f (a0_0 : Int) (a0_1 : Int) : Option (Int) := (spec_l1In.f a0_1 0 359).bind fun t259 => (if t259 = true then ((spec_AngleOf.f a0_0).bind fun t260 => ((spec_AngleOf.f (wrap64 (t260 + (wrap64 (Int.tdiv a0_1 2))))).bind fun t261 => (some t261))) else ((spec_AngleOf.f a0_0).bind fun t262 => (some t262)))
set_option maxHeartbeats 8000000 in
set_option maxRecDepth 100000 in
theorem spec_MiddleOf.calls (a0_0 : Int) (a0_1 : Int) (r : Int) (w : World) (h : spec_MiddleOf.f a0_0 a0_1 = some r) :
  Calls Try.prog 112 #[.agg #[.int .i64 a0_0, .int .i64 a0_1]] w fun e w' => e = .returned (.int .i64 r) ∧ Below w.heap.size w w' := by
 have hu113 := Try.underlying113
 have HB := Aside0.mk (Below.refl w.heap.size w)
 have H := h
 clear h
 unfold spec_MiddleOf.f at H
 replace H := bs_ H
 obtain ⟨t259, A2, H⟩ := H
 by_cases c3 : t259 = true
 ·subst c3
  rw [if_pos rfl] at H
  replace H := bs_ H
  obtain ⟨t260, A4, H⟩ := H
  replace H := bs_ H
  obtain ⟨t261, A5, H⟩ := H
  obtain rfl := Option.some.inj H
  go_enter Try.func112, Try.ntmps112
  go_wp2_with (first | ((with_reducible refine gd_ 1 ?_); refine bx_ 1 113 #[.int .i64 a0_0, .int .i64 a0_1] ?_; intro gb258 hg w6 hbox hb; refine sh4_ (below_step (bl_ HB) hb) hbox (ge_ hg (bl_ HB)) (ge_ hg (bl_ HB)) ?_; clear HB hb hbox hg; intro HB BK258 GW258 GE258; have hcz7 := cf2_ BK258) | (go_at_call 101; (with_reducible refine (spec_l1In.calls a0_1 0 359 true _ A2.out).mono ?_); rintro e w' ⟨rfl, ⟨nd, rfl⟩⟩; (try first | exact ⟨rfl, _, World.drewN_drewN _ _ _⟩ | exact ⟨rfl, _, Eq.trans (World.drewN_drewN _ _ _) (congrArg (World.drewN _) (Nat.add_assoc _ _ _))⟩)) | (go_at_call 127; (with_reducible refine (spec_AngleOf.calls a0_0 t260 _ A4.out).mono ?_); rintro e w' ⟨rfl, ⟨nd, rfl⟩⟩; (try first | exact ⟨rfl, _, World.drewN_drewN _ _ _⟩ | exact ⟨rfl, _, Eq.trans (World.drewN_drewN _ _ _) (congrArg (World.drewN _) (Nat.add_assoc _ _ _))⟩)) | (go_at_call 127; (with_reducible refine (spec_AngleOf.calls (wrap64 (t260 + (wrap64 (Int.tdiv a0_1 2)))) t261 _ A5.out).mono ?_); rintro e w' ⟨rfl, ⟨nd, rfl⟩⟩; (try first | exact ⟨rfl, _, World.drewN_drewN _ _ _⟩ | exact ⟨rfl, _, Eq.trans (World.drewN_drewN _ _ _) (congrArg (World.drewN _) (Nat.add_assoc _ _ _))⟩)))
  repeat (go_quiet (first | ((with_reducible refine gd_ 1 ?_); refine bx_ 1 113 #[.int .i64 a0_0, .int .i64 a0_1] ?_; intro gb258 hg w6 hbox hb; refine sh4_ (below_step (bl_ HB) hb) hbox (ge_ hg (bl_ HB)) (ge_ hg (bl_ HB)) ?_; clear HB hb hbox hg; intro HB BK258 GW258 GE258; have hcz7 := cf2_ BK258) | (go_at_call 101; (with_reducible refine (spec_l1In.calls a0_1 0 359 true _ A2.out).mono ?_); rintro e w' ⟨rfl, ⟨nd, rfl⟩⟩; (try first | exact ⟨rfl, _, World.drewN_drewN _ _ _⟩ | exact ⟨rfl, _, Eq.trans (World.drewN_drewN _ _ _) (congrArg (World.drewN _) (Nat.add_assoc _ _ _))⟩)) | (go_at_call 127; (with_reducible refine (spec_AngleOf.calls a0_0 t260 _ A4.out).mono ?_); rintro e w' ⟨rfl, ⟨nd, rfl⟩⟩; (try first | exact ⟨rfl, _, World.drewN_drewN _ _ _⟩ | exact ⟨rfl, _, Eq.trans (World.drewN_drewN _ _ _) (congrArg (World.drewN _) (Nat.add_assoc _ _ _))⟩)) | (go_at_call 127; (with_reducible refine (spec_AngleOf.calls (wrap64 (t260 + (wrap64 (Int.tdiv a0_1 2)))) t261 _ A5.out).mono ?_); rintro e w' ⟨rfl, ⟨nd, rfl⟩⟩; (try first | exact ⟨rfl, _, World.drewN_drewN _ _ _⟩ | exact ⟨rfl, _, Eq.trans (World.drewN_drewN _ _ _) (congrArg (World.drewN _) (Nat.add_assoc _ _ _))⟩))); try go_wp2_with (first | ((with_reducible refine gd_ 1 ?_); refine bx_ 1 113 #[.int .i64 a0_0, .int .i64 a0_1] ?_; intro gb258 hg w6 hbox hb; refine sh4_ (below_step (bl_ HB) hb) hbox (ge_ hg (bl_ HB)) (ge_ hg (bl_ HB)) ?_; clear HB hb hbox hg; intro HB BK258 GW258 GE258; have hcz7 := cf2_ BK258) | (go_at_call 101; (with_reducible refine (spec_l1In.calls a0_1 0 359 true _ A2.out).mono ?_); rintro e w' ⟨rfl, ⟨nd, rfl⟩⟩; (try first | exact ⟨rfl, _, World.drewN_drewN _ _ _⟩ | exact ⟨rfl, _, Eq.trans (World.drewN_drewN _ _ _) (congrArg (World.drewN _) (Nat.add_assoc _ _ _))⟩)) | (go_at_call 127; (with_reducible refine (spec_AngleOf.calls a0_0 t260 _ A4.out).mono ?_); rintro e w' ⟨rfl, ⟨nd, rfl⟩⟩; (try first | exact ⟨rfl, _, World.drewN_drewN _ _ _⟩ | exact ⟨rfl, _, Eq.trans (World.drewN_drewN _ _ _) (congrArg (World.drewN _) (Nat.add_assoc _ _ _))⟩)) | (go_at_call 127; (with_reducible refine (spec_AngleOf.calls (wrap64 (t260 + (wrap64 (Int.tdiv a0_1 2)))) t261 _ A5.out).mono ?_); rintro e w' ⟨rfl, ⟨nd, rfl⟩⟩; (try first | exact ⟨rfl, _, World.drewN_drewN _ _ _⟩ | exact ⟨rfl, _, Eq.trans (World.drewN_drewN _ _ _) (congrArg (World.drewN _) (Nat.add_assoc _ _ _))⟩))))
  go_ret
  exact ⟨er_, bl1_ HB GE258⟩
 ·replace c3 := Bool.eq_false_iff.mpr c3
  subst c3
  have H1 : ((spec_AngleOf.f a0_0).bind fun t262 => (some t262)) = some r := by rw [if_neg (show ¬ (false = true) by decide)] at H; exact H
  clear H
  have H := H1
  clear H1
  replace H := bs_ H
  obtain ⟨t262, A8, H⟩ := H
  obtain rfl := Option.some.inj H
  go_enter Try.func112, Try.ntmps112
  go_wp2_with (first | ((with_reducible refine gd_ 1 ?_); refine bx_ 1 113 #[.int .i64 a0_0, .int .i64 a0_1] ?_; intro gb258 hg w9 hbox hb; refine sh4_ (below_step (bl_ HB) hb) hbox (ge_ hg (bl_ HB)) (ge_ hg (bl_ HB)) ?_; clear HB hb hbox hg; intro HB BK258 GW258 GE258; have hcz10 := cf2_ BK258) | (go_at_call 101; (with_reducible refine (spec_l1In.calls a0_1 0 359 false _ A2.out).mono ?_); rintro e w' ⟨rfl, ⟨nd, rfl⟩⟩; (try first | exact ⟨rfl, _, World.drewN_drewN _ _ _⟩ | exact ⟨rfl, _, Eq.trans (World.drewN_drewN _ _ _) (congrArg (World.drewN _) (Nat.add_assoc _ _ _))⟩)) | (go_at_call 127; (with_reducible refine (spec_AngleOf.calls a0_0 t262 _ A8.out).mono ?_); rintro e w' ⟨rfl, ⟨nd, rfl⟩⟩; (try first | exact ⟨rfl, _, World.drewN_drewN _ _ _⟩ | exact ⟨rfl, _, Eq.trans (World.drewN_drewN _ _ _) (congrArg (World.drewN _) (Nat.add_assoc _ _ _))⟩)))
  repeat (go_quiet (first | ((with_reducible refine gd_ 1 ?_); refine bx_ 1 113 #[.int .i64 a0_0, .int .i64 a0_1] ?_; intro gb258 hg w9 hbox hb; refine sh4_ (below_step (bl_ HB) hb) hbox (ge_ hg (bl_ HB)) (ge_ hg (bl_ HB)) ?_; clear HB hb hbox hg; intro HB BK258 GW258 GE258; have hcz10 := cf2_ BK258) | (go_at_call 101; (with_reducible refine (spec_l1In.calls a0_1 0 359 false _ A2.out).mono ?_); rintro e w' ⟨rfl, ⟨nd, rfl⟩⟩; (try first | exact ⟨rfl, _, World.drewN_drewN _ _ _⟩ | exact ⟨rfl, _, Eq.trans (World.drewN_drewN _ _ _) (congrArg (World.drewN _) (Nat.add_assoc _ _ _))⟩)) | (go_at_call 127; (with_reducible refine (spec_AngleOf.calls a0_0 t262 _ A8.out).mono ?_); rintro e w' ⟨rfl, ⟨nd, rfl⟩⟩; (try first | exact ⟨rfl, _, World.drewN_drewN _ _ _⟩ | exact ⟨rfl, _, Eq.trans (World.drewN_drewN _ _ _) (congrArg (World.drewN _) (Nat.add_assoc _ _ _))⟩))); try go_wp2_with (first | ((with_reducible refine gd_ 1 ?_); refine bx_ 1 113 #[.int .i64 a0_0, .int .i64 a0_1] ?_; intro gb258 hg w9 hbox hb; refine sh4_ (below_step (bl_ HB) hb) hbox (ge_ hg (bl_ HB)) (ge_ hg (bl_ HB)) ?_; clear HB hb hbox hg; intro HB BK258 GW258 GE258; have hcz10 := cf2_ BK258) | (go_at_call 101; (with_reducible refine (spec_l1In.calls a0_1 0 359 false _ A2.out).mono ?_); rintro e w' ⟨rfl, ⟨nd, rfl⟩⟩; (try first | exact ⟨rfl, _, World.drewN_drewN _ _ _⟩ | exact ⟨rfl, _, Eq.trans (World.drewN_drewN _ _ _) (congrArg (World.drewN _) (Nat.add_assoc _ _ _))⟩)) | (go_at_call 127; (with_reducible refine (spec_AngleOf.calls a0_0 t262 _ A8.out).mono ?_); rintro e w' ⟨rfl, ⟨nd, rfl⟩⟩; (try first | exact ⟨rfl, _, World.drewN_drewN _ _ _⟩ | exact ⟨rfl, _, Eq.trans (World.drewN_drewN _ _ _) (congrArg (World.drewN _) (Nat.add_assoc _ _ _))⟩))))
  go_ret
  exact ⟨er_, bl1_ HB GE258⟩

/-! ### spec_SightAt: function 97 -/
def spec_SightAt.f (k : Nat) (a0_0 : Int) (l0_1 : List (S105)) (l0_2 : List (S109)) (a0_3 : Int) (a0_4 : Int) (a0_5 : Int) (a0_6 : Int) (a0_7 : Int) (l0_8 : List (S115)) (a0_9 : Int) (a1 : Int) (a2 : Int) (a3 : Int) : Option (Int) := (spec_LimitOf.f k a0_0 l0_1 l0_2 a0_3 a0_4 a0_5 a0_6 a0_7 l0_8 a0_9 a1 a2).bind fun t264 => (if t264 < 0 then (some 0) else ((spec_NodeAt.f k a0_0 l0_1 l0_2 a0_3 a0_4 a0_5 a0_6 a0_7 l0_8 a0_9 a1 a3).bind fun bt265 => ((spec_NodeAt.f k a0_0 l0_1 l0_2 a0_3 a0_4 a0_5 a0_6 a0_7 l0_8 a0_9 a2 a3).bind fun bt268 => ((spec_MiddleOf.f bt265.1 bt265.2).bind fun t271 => ((spec_MiddleOf.f bt268.1 bt268.2).bind fun t272 => ((spec_GapOf.f t271 t272).bind fun t273 => (if (wrap64 (t273 - (wrap64 ((wrap64 ((wrap64 (Int.tdiv bt265.2 2)) + (wrap64 (Int.tdiv bt268.2 2)))) + (wrap64 (Int.tdiv (wrap64 ((Int.tmod bt265.2 2) + (Int.tmod bt268.2 2))) 2)))))) > t264 then (some 0) else (if (wrap64 (t273 + (wrap64 ((wrap64 ((wrap64 (Int.tdiv bt265.2 2)) + (wrap64 (Int.tdiv bt268.2 2)))) + (wrap64 (Int.tdiv (wrap64 ((Int.tmod bt265.2 2) + (Int.tmod bt268.2 2))) 2)))))) ≤ t264 then (some 2) else (some 1)))))))))
theorem spec_SightAt.mono : ∀ a0 a1 a2 a3 a4 a5 a6 a7 a8 a9 a10 a11 a12 k, LeO (spec_SightAt.f k a0 a1 a2 a3 a4 a5 a6 a7 a8 a9 a10 a11 a12) (spec_SightAt.f (k + 1) a0 a1 a2 a3 a4 a5 a6 a7 a8 a9 a10 a11 a12) := by
 intro a0 a1 a2 a3 a4 a5 a6 a7 a8 a9 a10 a11 a12 k
 unfold spec_SightAt.f
 repeat' first | (with_reducible first | exact spec_LimitOf.mono _ _ _ _ _ _ _ _ _ _ _ _ _ | exact spec_NodeAt.mono _ _ _ _ _ _ _ _ _ _ _ _ _ | exact LeO.refl _ | exact LeO.none _ | refine LeO.ite ?_ ?_ | refine LeO.bind ?_ (fun _ => ?_)) | exact LeO.none _ | refine LeO.ite ?_ ?_ | refine LeO.bind ?_ (fun _ => ?_)
set_option maxHeartbeats 8000000 in
set_option maxRecDepth 100000 in
theorem spec_SightAt.calls (k : Nat) (a0_0 : Int) (A0_1 : Option Addr) (c0_1 : Nat) (l0_1 : List (S105)) (A0_2 : Option Addr) (c0_2 : Nat) (l0_2 : List (S109)) (a0_3 : Int) (a0_4 : Int) (a0_5 : Int) (a0_6 : Int) (a0_7 : Int) (A0_8 : Option Addr) (c0_8 : Nat) (l0_8 : List (S115)) (a0_9 : Int) (a1 : Int) (a2 : Int) (a3 : Int) (r : Int) (w : World) (hr0_1 : Kd.C k105 w A0_1 l0_1.length l0_1) (hc0_1 : l0_1.length ≤ c0_1) (hr0_2 : Kd.C k109 w A0_2 l0_2.length l0_2) (hc0_2 : l0_2.length ≤ c0_2) (hr0_8 : Kd.C k115 w A0_8 l0_8.length l0_8) (hc0_8 : l0_8.length ≤ c0_8) (h : spec_SightAt.f k a0_0 l0_1 l0_2 a0_3 a0_4 a0_5 a0_6 a0_7 l0_8 a0_9 a1 a2 a3 = some r) :
  Calls Try.prog 97 #[.agg #[.int .i64 a0_0, .slice A0_1 l0_1.length c0_1, .slice A0_2 l0_2.length c0_2, .int .i64 a0_3, .int .i64 a0_4, .int .i64 a0_5, .int .i64 a0_6, .int .i64 a0_7, .slice A0_8 l0_8.length c0_8, .int .i64 a0_9], .int .i64 a1, .int .i64 a2, .int .i64 a3] w fun e w' => e = .returned (.int .i64 r) ∧ Below w.heap.size w w' := by
 have hu34 := Try.underlying34
 have hu113 := Try.underlying113
 have HR0_1 := Aside0.mk hr0_1
 have HC0_1 := Aside0.mk hc0_1
 clear hr0_1 hc0_1
 have HR0_2 := Aside0.mk hr0_2
 have HC0_2 := Aside0.mk hc0_2
 clear hr0_2 hc0_2
 have HR0_8 := Aside0.mk hr0_8
 have HC0_8 := Aside0.mk hc0_8
 clear hr0_8 hc0_8
 have HB := Aside0.mk (Below.refl w.heap.size w)
 have H := h
 clear h
 unfold spec_SightAt.f at H
 replace H := bs_ H
 obtain ⟨t264, A5, H⟩ := H
 by_cases c6 : t264 < 0
 ·rw [if_pos c6] at H
  have c6b0 := decide_eq_true c6
  clear c6
  obtain rfl := Option.some.inj H
  go_enter Try.func97, Try.ntmps97
  go_wp2_with (first | ((with_reducible refine gd_ 4 ?_); refine bx_ 4 34 #[.int .i64 a0_0, .slice A0_1 l0_1.length c0_1, .slice A0_2 l0_2.length c0_2, .int .i64 a0_3, .int .i64 a0_4, .int .i64 a0_5, .int .i64 a0_6, .int .i64 a0_7, .slice A0_8 l0_8.length c0_8, .int .i64 a0_9] ?_; intro gb263 hg w7 hbox hb; refine sh4_ (below_step (bl_ HB) hb) hbox (ge_ hg (bl_ HB)) (ge_ hg (bl_ HB)) ?_; clear HB hb hbox hg; intro HB BK263 GW263 GE263; have hcz8 := cf10_ BK263) | ((with_reducible refine gate_callee (f := 110) rfl ?_); refine gl_ 17 Try.func110 (spec_LimitOf.calls k a0_0 _ _ l0_1 _ _ l0_2 a0_3 a0_4 a0_5 a0_6 a0_7 _ _ l0_8 a0_9 a1 a2 t264 _ (ck_ HR0_1 HB) HC0_1.out (ck_ HR0_2 HB) HC0_2.out (ck_ HR0_8 HB) HC0_8.out A5.out) ?_; rintro e w9 ⟨rfl, hb⟩; refine ⟨_, rfl, sh2_ (blk_below (bk_ BK263) hb) (below_step (bl1_ HB GE263) hb) ?_⟩; clear BK263 HB hb; intro BK263 HB))
  go_ret
  exact ⟨er_, bl1_ HB GE263⟩
 ·rw [if_neg c6] at H
  have c6b0 := decide_eq_false c6
  clear c6
  replace H := bs_ H
  obtain ⟨⟨t265, t266⟩, A10, H⟩ := H
  dsimp only at H
  replace H := bs_ H
  obtain ⟨⟨t268, t269⟩, A11, H⟩ := H
  dsimp only at H
  replace H := bs_ H
  obtain ⟨t271, A12, H⟩ := H
  replace H := bs_ H
  obtain ⟨t272, A13, H⟩ := H
  replace H := bs_ H
  obtain ⟨t273, A14, H⟩ := H
  by_cases c15 : (wrap64 (t273 - (wrap64 ((wrap64 ((wrap64 (Int.tdiv t266 2)) + (wrap64 (Int.tdiv t269 2)))) + (wrap64 (Int.tdiv (wrap64 ((Int.tmod t266 2) + (Int.tmod t269 2))) 2)))))) > t264
  ·rw [if_pos c15] at H
   have c15b0 : decide (t264 < (wrap64 (t273 - (wrap64 ((wrap64 ((wrap64 (Int.tdiv t266 2)) + (wrap64 (Int.tdiv t269 2)))) + (wrap64 (Int.tdiv (wrap64 ((Int.tmod t266 2) + (Int.tmod t269 2))) 2))))))) = true := decide_eq_true c15
   clear c15
   obtain rfl := Option.some.inj H
   go_enter Try.func97, Try.ntmps97
   try go_wp2_with (first | ((with_reducible refine gd_ 4 ?_); refine bx_ 4 34 #[.int .i64 a0_0, .slice A0_1 l0_1.length c0_1, .slice A0_2 l0_2.length c0_2, .int .i64 a0_3, .int .i64 a0_4, .int .i64 a0_5, .int .i64 a0_6, .int .i64 a0_7, .slice A0_8 l0_8.length c0_8, .int .i64 a0_9] ?_; intro gb263 hg w16 hbox hb; refine sh4_ (below_step (bl_ HB) hb) hbox (ge_ hg (bl_ HB)) (ge_ hg (bl_ HB)) ?_; clear HB hb hbox hg; intro HB BK263 GW263 GE263; have hcz17 := cf10_ BK263) | ((with_reducible refine gate_callee (f := 110) rfl ?_); refine gl_ 17 Try.func110 (spec_LimitOf.calls k a0_0 _ _ l0_1 _ _ l0_2 a0_3 a0_4 a0_5 a0_6 a0_7 _ _ l0_8 a0_9 a1 a2 t264 _ (ck_ HR0_1 HB) HC0_1.out (ck_ HR0_2 HB) HC0_2.out (ck_ HR0_8 HB) HC0_8.out A5.out) ?_; rintro e w18 ⟨rfl, hb⟩; refine ⟨_, rfl, sh2_ (blk_below (bk_ BK263) hb) (below_step (bl1_ HB GE263) hb) ?_⟩; clear BK263 HB hb; intro BK263 HB; have hcz19 := cf10_ BK263) | ((with_reducible refine gate_callee (f := 103) rfl ?_); refine gl_ 23 Try.func103 (spec_NodeAt.calls k a0_0 _ _ l0_1 _ _ l0_2 a0_3 a0_4 a0_5 a0_6 a0_7 _ _ l0_8 a0_9 a1 a3 t265 t266 _ (ck_ HR0_1 HB) HC0_1.out (ck_ HR0_2 HB) HC0_2.out (ck_ HR0_8 HB) HC0_8.out A10.out) ?_; rintro e w20 ⟨rfl, hb⟩; refine ⟨_, rfl, sh2_ (blk_below (bk_ BK263) hb) (below_step (bl1_ HB GE263) hb) ?_⟩; clear BK263 HB hb; intro BK263 HB) | ((with_reducible refine gd_ 10 ?_); refine bx_ 10 113 #[.int .i64 0, .int .i64 0] ?_; intro gb267 hg w21 hbox hb; refine sh7_ (blk_below (bk_ BK263) hb) (below_step (bl1_ HB GE263) hb) hbox (ge_ hg (bl1_ HB GE263)) (ge_ hg (bl1_ HB GE263)) (nl_ hg (bk_ BK263)) (ng_ hg (bk_ BK263)) ?_; clear BK263 HB hb hbox hg; intro BK263 HB BK267 GW267 GE267 NB263_267 NB267_263; have hnb22 := NB267_263.out; have hnc22 := NB263_267.out; have hcz23 := cf2_ BK267; have hcz24 := cf10_ BK263) | ((with_reducible refine gate_callee (f := 103) rfl ?_); refine goesL_ (some 27) rfl rfl Try.func103 (by kernel_rfl) rfl #[.agg #[.int .i64 a0_0, .slice A0_1 l0_1.length c0_1, .slice A0_2 l0_2.length c0_2, .int .i64 a0_3, .int .i64 a0_4, .int .i64 a0_5, .int .i64 a0_6, .int .i64 a0_7, .slice A0_8 l0_8.length c0_8, .int .i64 a0_9], .int .i64 a2, .int .i64 a3] rfl mp_ ?_; (with_reducible refine (spec_NodeAt.calls k a0_0 _ _ l0_1 _ _ l0_2 a0_3 a0_4 a0_5 a0_6 a0_7 _ _ l0_8 a0_9 a2 a3 t268 t269 _ ?side1 ?side2 ?side3 ?side4 ?side5 ?side6 A11.out).mono ?_); (case side1 => exact Kd.C_below HR0_1.out (bl2_ HB GE263 GE267)); (case side2 => exact HC0_1.out); (case side3 => exact Kd.C_below HR0_2.out (bl2_ HB GE263 GE267)); (case side4 => exact HC0_2.out); (case side5 => exact Kd.C_below HR0_8.out (bl2_ HB GE263 GE267)); (case side6 => exact HC0_8.out); rintro e w25 ⟨rfl, hb⟩; refine ⟨_, rfl, sh3_ (blk_below (g := gb263) (o := .cells #[.int .i64 a0_0, .slice A0_1 l0_1.length c0_1, .slice A0_2 l0_2.length c0_2, .int .i64 a0_3, .int .i64 a0_4, .int .i64 a0_5, .int .i64 a0_6, .int .i64 a0_7, .slice A0_8 l0_8.length c0_8, .int .i64 a0_9] 34 (0, 0)) (by (with_reducible repeat (first | refine blk_drewN ?_ _ | refine blk_drew ?_ | refine blk_alloc ?_ _)); refine blk_far ?_ NB263_267.out _; (with_reducible repeat (first | refine blk_drewN ?_ _ | refine blk_drew ?_ | refine blk_alloc ?_ _)); refine blk_far ?_ NB263_267.out _; (with_reducible repeat (first | refine blk_drewN ?_ _ | refine blk_drew ?_ | refine blk_alloc ?_ _)); exact BK263.out) hb) (blk_below (g := gb267) (o := .cells #[.int .i64 t265, .int .i64 t266] 113 (0, 0)) (by (with_reducible repeat (first | refine blk_drewN ?_ _ | refine blk_drew ?_ | refine blk_alloc ?_ _)); refine blk_put (cs := #[.int .i64 t265, .int .i64 0]) ?_ 1 _ rfl; (with_reducible repeat (first | refine blk_drewN ?_ _ | refine blk_drew ?_ | refine blk_alloc ?_ _)); refine blk_put (cs := #[.int .i64 0, .int .i64 0]) ?_ 0 _ rfl; (with_reducible repeat (first | refine blk_drewN ?_ _ | refine blk_drew ?_ | refine blk_alloc ?_ _)); exact BK267.out) hb) (below_step (bl2_ HB GE263 GE267) hb) ?_⟩; clear BK263 BK267 HB hb; intro BK263 BK267 HB) | ((with_reducible refine gd_ 11 ?_); refine bx_ 11 113 #[.int .i64 0, .int .i64 0] ?_; intro gb270 hg w26 hbox hb; refine sh10_ (blk_below (bk_ BK263) hb) (blk_below (bk_ BK267) hb) (below_step (bl2_ HB GE263 GE267) hb) hbox (ge_ hg (bl2_ HB GE263 GE267)) (ge_ hg (bl2_ HB GE263 GE267)) (nl_ hg (bk_ BK263)) (ng_ hg (bk_ BK263)) (nl_ hg (bk_ BK267)) (ng_ hg (bk_ BK267)) ?_; clear BK263 BK267 HB hb hbox hg; intro BK263 BK267 HB BK270 GW270 GE270 NB263_270 NB270_263 NB267_270 NB270_267; have hnb27 := NB270_263.out; have hnc27 := NB263_270.out; have hnb28 := NB270_267.out; have hnc28 := NB267_270.out; have hcz29 := cf2_ BK270))
   have n0_ : Aside0 (((w26.setCell ⟨gb270, 0, none⟩ (.int .i64 t268)).setCell ⟨gb270, 1, none⟩ (.int .i64 t269)).heap[gb263]? = some (.cells #[.int .i64 a0_0, .slice A0_1 l0_1.length c0_1, .slice A0_2 l0_2.length c0_2, .int .i64 a0_3, .int .i64 a0_4, .int .i64 a0_5, .int .i64 a0_6, .int .i64 a0_7, .slice A0_8 l0_8.length c0_8, .int .i64 a0_9] 34 (0, 0))) := ⟨by (with_reducible repeat (first | refine blk_drewN ?_ _ | refine blk_drew ?_ | refine blk_alloc ?_ _)); refine blk_far ?_ NB263_270.out _; (with_reducible repeat (first | refine blk_drewN ?_ _ | refine blk_drew ?_ | refine blk_alloc ?_ _)); refine blk_far ?_ NB263_270.out _; (with_reducible repeat (first | refine blk_drewN ?_ _ | refine blk_drew ?_ | refine blk_alloc ?_ _)); exact BK263.out⟩
   have n1_ : Aside0 (((w26.setCell ⟨gb270, 0, none⟩ (.int .i64 t268)).setCell ⟨gb270, 1, none⟩ (.int .i64 t269)).heap[gb267]? = some (.cells #[.int .i64 t265, .int .i64 t266] 113 (0, 0))) := ⟨by (with_reducible repeat (first | refine blk_drewN ?_ _ | refine blk_drew ?_ | refine blk_alloc ?_ _)); refine blk_far ?_ NB267_270.out _; (with_reducible repeat (first | refine blk_drewN ?_ _ | refine blk_drew ?_ | refine blk_alloc ?_ _)); refine blk_far ?_ NB267_270.out _; (with_reducible repeat (first | refine blk_drewN ?_ _ | refine blk_drew ?_ | refine blk_alloc ?_ _)); exact BK267.out⟩
   have n2_ : Aside0 (((w26.setCell ⟨gb270, 0, none⟩ (.int .i64 t268)).setCell ⟨gb270, 1, none⟩ (.int .i64 t269)).heap[gb270]? = some (.cells #[.int .i64 t268, .int .i64 t269] 113 (0, 0))) := ⟨by (with_reducible repeat (first | refine blk_drewN ?_ _ | refine blk_drew ?_ | refine blk_alloc ?_ _)); refine blk_put (cs := #[.int .i64 t268, .int .i64 0]) ?_ 1 _ rfl; (with_reducible repeat (first | refine blk_drewN ?_ _ | refine blk_drew ?_ | refine blk_alloc ?_ _)); refine blk_put (cs := #[.int .i64 0, .int .i64 0]) ?_ 0 _ rfl; (with_reducible repeat (first | refine blk_drewN ?_ _ | refine blk_drew ?_ | refine blk_alloc ?_ _)); exact BK270.out⟩
   have n3_ : Aside0 (Below w.heap.size w ((w26.setCell ⟨gb270, 0, none⟩ (.int .i64 t268)).setCell ⟨gb270, 1, none⟩ (.int .i64 t269))) := ⟨bl3_ HB GE263 GE267 GE270⟩
   (try clear BK263)
   (try clear BK267)
   (try clear BK270)
   (try clear HB)
   generalize ((w26.setCell ⟨gb270, 0, none⟩ (.int .i64 t268)).setCell ⟨gb270, 1, none⟩ (.int .i64 t269)) = w30 at n0_ n1_ n2_ n3_ ⊢
   have BK263 := n0_
   have BK267 := n1_
   have BK270 := n2_
   have HB := n3_
   clear n0_ n1_ n2_ n3_
   refine sh4_ (blk_drew BK263.out) (blk_drew BK267.out) (blk_drew BK270.out) (below_drew1 HB.out) ?_
   clear BK263 BK267 BK270 HB
   intro BK263 BK267 BK270 HB
   refine start_ (n := 6) (S := fun w' => w'.cell? ⟨gb267, 0, none⟩ = some (.int .i64 t265) ∧ w'.cell? ⟨gb267, 1, none⟩ = some (.int .i64 t266) ∧ w'.cell? ⟨gb270, 0, none⟩ = some (.int .i64 t268) ∧ w'.cell? ⟨gb270, 1, none⟩ = some (.int .i64 t269)) (ds := []) #[false, false, false, false, false, false] (by kernel_rfl) rfl rfl ⟨(bc_ BK267 0 rfl), (bc_ BK267 1 rfl), (bc_ BK270 0 rfl), (bc_ BK270 1 rfl)⟩ (fun hHeld => ?_)
   generalize w30.drew = w31 at BK263 BK267 BK270 HB hHeld ⊢
   refine take_ (i := 0) (N := some 28) (v := ?_) (a' := ?_) #[true, false, false, false, false, false] rfl rfl (by kernel_rfl) (fun _ _ _ h => h) (Or.inl ⟨by rfl, ?_⟩) hHeld ?_ ?_
   rotate_left
   ·rintro w' ⟨s0, s1, s2, s3⟩
    go_simp
    with_reducible rfl
   rotate_left
   ·simp only [Act.put, List.setIfInBounds_toArray, List.set_cons_zero, List.set_cons_succ, i64_w, i32_w]
    rfl
   refine take_ (i := 2) (N := some 30) (v := ?_) (a' := ?_) #[true, false, true, false, false, false] rfl rfl (by kernel_rfl) (fun _ _ _ h => h) (Or.inl ⟨by rfl, ?_⟩) hHeld ?_ ?_
   rotate_left
   ·rintro w' ⟨s0, s1, s2, s3⟩
    go_simp
    with_reducible rfl
   rotate_left
   ·simp only [Act.put, List.setIfInBounds_toArray, List.set_cons_zero, List.set_cons_succ, i64_w, i32_w]
    rfl
   refine one_ (i := 1) (N := some 29) #[true, true, true, false, false, false] rfl rfl (by kernel_rfl) (by decide) (fun K hK => ?_)
   refine goes_ Try.func112 (by kernel_rfl) rfl #[.agg #[.int .i64 t265, .int .i64 t266]] (by rfl) rfl rfl mp_ ?_
   with_reducible refine (spec_MiddleOf.calls t265 t266 t271 _ A12.out).mono ?_
   rintro e w32 ⟨rfl, hb⟩
   refine ⟨_, rfl, sh4_ (blk_below (bk_ BK263) hb) (blk_below (bk_ BK267) hb) (blk_below (bk_ BK270) hb) (below_step (bl3_ HB GE263 GE267 GE270) hb) ?_⟩
   clear BK263 BK267 BK270 HB hb
   intro BK263 BK267 BK270 HB
   refine hK.out _ _ ⟨(bc_ BK267 0 rfl), (bc_ BK267 1 rfl), (bc_ BK270 0 rfl), (bc_ BK270 1 rfl)⟩ (fun hHeld => ?_)
   clear hK K
   refine norm_ (a' := ?_) ?_ ?_
   rotate_left
   ·show Act.put _ (some 29) _ = _
    simp only [Act.put, List.setIfInBounds_toArray, List.set_cons_zero, List.set_cons_succ, i64_w, i32_w]
    rfl
   refine one_ (i := 3) (N := some 31) #[true, true, true, true, false, false] rfl rfl (by kernel_rfl) (by decide) (fun K hK => ?_)
   refine goes_ Try.func112 (by kernel_rfl) rfl #[.agg #[.int .i64 t268, .int .i64 t269]] (by rfl) rfl rfl mp_ ?_
   with_reducible refine (spec_MiddleOf.calls t268 t269 t272 _ A13.out).mono ?_
   rintro e w33 ⟨rfl, hb⟩
   refine ⟨_, rfl, sh4_ (blk_below (bk_ BK263) hb) (blk_below (bk_ BK267) hb) (blk_below (bk_ BK270) hb) (below_step (bl3_ HB GE263 GE267 GE270) hb) ?_⟩
   clear BK263 BK267 BK270 HB hb
   intro BK263 BK267 BK270 HB
   refine hK.out _ _ ⟨(bc_ BK267 0 rfl), (bc_ BK267 1 rfl), (bc_ BK270 0 rfl), (bc_ BK270 1 rfl)⟩ (fun hHeld => ?_)
   clear hK K
   refine norm_ (a' := ?_) ?_ ?_
   rotate_left
   ·show Act.put _ (some 31) _ = _
    simp only [Act.put, List.setIfInBounds_toArray, List.set_cons_zero, List.set_cons_succ, i64_w, i32_w]
    rfl
   refine one_ (i := 4) (N := some 32) #[true, true, true, true, true, false] rfl rfl (by kernel_rfl) (by decide) (fun K hK => ?_)
   refine goes_ Try.func111 (by kernel_rfl) rfl #[.int .i64 t271, .int .i64 t272] (by rfl) rfl rfl mp_ ?_
   with_reducible refine (spec_GapOf.calls t271 t272 t273 _ A14.out).mono ?_
   rintro e w' ⟨rfl, ⟨nd, rfl⟩⟩
   refine ⟨_, rfl, ?_⟩
   refine hK.out _ _ ⟨(bc_ BK267 0 rfl), (bc_ BK267 1 rfl), (bc_ BK270 0 rfl), (bc_ BK270 1 rfl)⟩ (fun hHeld => ?_)
   clear hK K
   refine norm_ (a' := ?_) ?_ ?_
   rotate_left
   ·show Act.put _ (some 32) _ = _
    simp only [Act.put, List.setIfInBounds_toArray, List.set_cons_zero, List.set_cons_succ, i64_w, i32_w]
    rfl
   refine pure_ (i := 5) (N := some 12) (v := ?_) (a' := ?_) #[true, true, true, true, true, true] rfl rfl (by kernel_rfl) (fun _ _ _ h => h) (Or.inl ⟨by rfl, ?_⟩) ?_ ?_
   rotate_left
   ·intro w'
    go_simp
    with_reducible rfl
   rotate_left
   ·simp only [Act.put, List.setIfInBounds_toArray, List.set_cons_zero, List.set_cons_succ, i64_w, i32_w]
    rfl
   refine done_ (by kernel_rfl) ?_
   have hcz34 := cf2_ BK267
   have hcz35 := cf2_ BK270
   try go_wp2
   go_ret
   exact ⟨er_, bl3_ HB GE263 GE267 GE270⟩
  ·rw [if_neg c15] at H
   have c15b0 : decide (t264 < (wrap64 (t273 - (wrap64 ((wrap64 ((wrap64 (Int.tdiv t266 2)) + (wrap64 (Int.tdiv t269 2)))) + (wrap64 (Int.tdiv (wrap64 ((Int.tmod t266 2) + (Int.tmod t269 2))) 2))))))) = false := decide_eq_false c15
   clear c15
   by_cases c36 : (wrap64 (t273 + (wrap64 ((wrap64 ((wrap64 (Int.tdiv t266 2)) + (wrap64 (Int.tdiv t269 2)))) + (wrap64 (Int.tdiv (wrap64 ((Int.tmod t266 2) + (Int.tmod t269 2))) 2)))))) ≤ t264
   ·rw [if_pos c36] at H
    have c36b0 := decide_eq_true c36
    clear c36
    obtain rfl := Option.some.inj H
    go_enter Try.func97, Try.ntmps97
    try go_wp2_with (first | ((with_reducible refine gd_ 4 ?_); refine bx_ 4 34 #[.int .i64 a0_0, .slice A0_1 l0_1.length c0_1, .slice A0_2 l0_2.length c0_2, .int .i64 a0_3, .int .i64 a0_4, .int .i64 a0_5, .int .i64 a0_6, .int .i64 a0_7, .slice A0_8 l0_8.length c0_8, .int .i64 a0_9] ?_; intro gb263 hg w37 hbox hb; refine sh4_ (below_step (bl_ HB) hb) hbox (ge_ hg (bl_ HB)) (ge_ hg (bl_ HB)) ?_; clear HB hb hbox hg; intro HB BK263 GW263 GE263; have hcz38 := cf10_ BK263) | ((with_reducible refine gate_callee (f := 110) rfl ?_); refine gl_ 17 Try.func110 (spec_LimitOf.calls k a0_0 _ _ l0_1 _ _ l0_2 a0_3 a0_4 a0_5 a0_6 a0_7 _ _ l0_8 a0_9 a1 a2 t264 _ (ck_ HR0_1 HB) HC0_1.out (ck_ HR0_2 HB) HC0_2.out (ck_ HR0_8 HB) HC0_8.out A5.out) ?_; rintro e w39 ⟨rfl, hb⟩; refine ⟨_, rfl, sh2_ (blk_below (bk_ BK263) hb) (below_step (bl1_ HB GE263) hb) ?_⟩; clear BK263 HB hb; intro BK263 HB; have hcz40 := cf10_ BK263) | ((with_reducible refine gate_callee (f := 103) rfl ?_); refine gl_ 23 Try.func103 (spec_NodeAt.calls k a0_0 _ _ l0_1 _ _ l0_2 a0_3 a0_4 a0_5 a0_6 a0_7 _ _ l0_8 a0_9 a1 a3 t265 t266 _ (ck_ HR0_1 HB) HC0_1.out (ck_ HR0_2 HB) HC0_2.out (ck_ HR0_8 HB) HC0_8.out A10.out) ?_; rintro e w41 ⟨rfl, hb⟩; refine ⟨_, rfl, sh2_ (blk_below (bk_ BK263) hb) (below_step (bl1_ HB GE263) hb) ?_⟩; clear BK263 HB hb; intro BK263 HB) | ((with_reducible refine gd_ 10 ?_); refine bx_ 10 113 #[.int .i64 0, .int .i64 0] ?_; intro gb267 hg w42 hbox hb; refine sh7_ (blk_below (bk_ BK263) hb) (below_step (bl1_ HB GE263) hb) hbox (ge_ hg (bl1_ HB GE263)) (ge_ hg (bl1_ HB GE263)) (nl_ hg (bk_ BK263)) (ng_ hg (bk_ BK263)) ?_; clear BK263 HB hb hbox hg; intro BK263 HB BK267 GW267 GE267 NB263_267 NB267_263; have hnb43 := NB267_263.out; have hnc43 := NB263_267.out; have hcz44 := cf2_ BK267; have hcz45 := cf10_ BK263) | ((with_reducible refine gate_callee (f := 103) rfl ?_); refine goesL_ (some 27) rfl rfl Try.func103 (by kernel_rfl) rfl #[.agg #[.int .i64 a0_0, .slice A0_1 l0_1.length c0_1, .slice A0_2 l0_2.length c0_2, .int .i64 a0_3, .int .i64 a0_4, .int .i64 a0_5, .int .i64 a0_6, .int .i64 a0_7, .slice A0_8 l0_8.length c0_8, .int .i64 a0_9], .int .i64 a2, .int .i64 a3] rfl mp_ ?_; (with_reducible refine (spec_NodeAt.calls k a0_0 _ _ l0_1 _ _ l0_2 a0_3 a0_4 a0_5 a0_6 a0_7 _ _ l0_8 a0_9 a2 a3 t268 t269 _ ?side1 ?side2 ?side3 ?side4 ?side5 ?side6 A11.out).mono ?_); (case side1 => exact Kd.C_below HR0_1.out (bl2_ HB GE263 GE267)); (case side2 => exact HC0_1.out); (case side3 => exact Kd.C_below HR0_2.out (bl2_ HB GE263 GE267)); (case side4 => exact HC0_2.out); (case side5 => exact Kd.C_below HR0_8.out (bl2_ HB GE263 GE267)); (case side6 => exact HC0_8.out); rintro e w46 ⟨rfl, hb⟩; refine ⟨_, rfl, sh3_ (blk_below (g := gb263) (o := .cells #[.int .i64 a0_0, .slice A0_1 l0_1.length c0_1, .slice A0_2 l0_2.length c0_2, .int .i64 a0_3, .int .i64 a0_4, .int .i64 a0_5, .int .i64 a0_6, .int .i64 a0_7, .slice A0_8 l0_8.length c0_8, .int .i64 a0_9] 34 (0, 0)) (by (with_reducible repeat (first | refine blk_drewN ?_ _ | refine blk_drew ?_ | refine blk_alloc ?_ _)); refine blk_far ?_ NB263_267.out _; (with_reducible repeat (first | refine blk_drewN ?_ _ | refine blk_drew ?_ | refine blk_alloc ?_ _)); refine blk_far ?_ NB263_267.out _; (with_reducible repeat (first | refine blk_drewN ?_ _ | refine blk_drew ?_ | refine blk_alloc ?_ _)); exact BK263.out) hb) (blk_below (g := gb267) (o := .cells #[.int .i64 t265, .int .i64 t266] 113 (0, 0)) (by (with_reducible repeat (first | refine blk_drewN ?_ _ | refine blk_drew ?_ | refine blk_alloc ?_ _)); refine blk_put (cs := #[.int .i64 t265, .int .i64 0]) ?_ 1 _ rfl; (with_reducible repeat (first | refine blk_drewN ?_ _ | refine blk_drew ?_ | refine blk_alloc ?_ _)); refine blk_put (cs := #[.int .i64 0, .int .i64 0]) ?_ 0 _ rfl; (with_reducible repeat (first | refine blk_drewN ?_ _ | refine blk_drew ?_ | refine blk_alloc ?_ _)); exact BK267.out) hb) (below_step (bl2_ HB GE263 GE267) hb) ?_⟩; clear BK263 BK267 HB hb; intro BK263 BK267 HB) | ((with_reducible refine gd_ 11 ?_); refine bx_ 11 113 #[.int .i64 0, .int .i64 0] ?_; intro gb270 hg w47 hbox hb; refine sh10_ (blk_below (bk_ BK263) hb) (blk_below (bk_ BK267) hb) (below_step (bl2_ HB GE263 GE267) hb) hbox (ge_ hg (bl2_ HB GE263 GE267)) (ge_ hg (bl2_ HB GE263 GE267)) (nl_ hg (bk_ BK263)) (ng_ hg (bk_ BK263)) (nl_ hg (bk_ BK267)) (ng_ hg (bk_ BK267)) ?_; clear BK263 BK267 HB hb hbox hg; intro BK263 BK267 HB BK270 GW270 GE270 NB263_270 NB270_263 NB267_270 NB270_267; have hnb48 := NB270_263.out; have hnc48 := NB263_270.out; have hnb49 := NB270_267.out; have hnc49 := NB267_270.out; have hcz50 := cf2_ BK270))
    have n0_ : Aside0 (((w47.setCell ⟨gb270, 0, none⟩ (.int .i64 t268)).setCell ⟨gb270, 1, none⟩ (.int .i64 t269)).heap[gb263]? = some (.cells #[.int .i64 a0_0, .slice A0_1 l0_1.length c0_1, .slice A0_2 l0_2.length c0_2, .int .i64 a0_3, .int .i64 a0_4, .int .i64 a0_5, .int .i64 a0_6, .int .i64 a0_7, .slice A0_8 l0_8.length c0_8, .int .i64 a0_9] 34 (0, 0))) := ⟨by (with_reducible repeat (first | refine blk_drewN ?_ _ | refine blk_drew ?_ | refine blk_alloc ?_ _)); refine blk_far ?_ NB263_270.out _; (with_reducible repeat (first | refine blk_drewN ?_ _ | refine blk_drew ?_ | refine blk_alloc ?_ _)); refine blk_far ?_ NB263_270.out _; (with_reducible repeat (first | refine blk_drewN ?_ _ | refine blk_drew ?_ | refine blk_alloc ?_ _)); exact BK263.out⟩
    have n1_ : Aside0 (((w47.setCell ⟨gb270, 0, none⟩ (.int .i64 t268)).setCell ⟨gb270, 1, none⟩ (.int .i64 t269)).heap[gb267]? = some (.cells #[.int .i64 t265, .int .i64 t266] 113 (0, 0))) := ⟨by (with_reducible repeat (first | refine blk_drewN ?_ _ | refine blk_drew ?_ | refine blk_alloc ?_ _)); refine blk_far ?_ NB267_270.out _; (with_reducible repeat (first | refine blk_drewN ?_ _ | refine blk_drew ?_ | refine blk_alloc ?_ _)); refine blk_far ?_ NB267_270.out _; (with_reducible repeat (first | refine blk_drewN ?_ _ | refine blk_drew ?_ | refine blk_alloc ?_ _)); exact BK267.out⟩
    have n2_ : Aside0 (((w47.setCell ⟨gb270, 0, none⟩ (.int .i64 t268)).setCell ⟨gb270, 1, none⟩ (.int .i64 t269)).heap[gb270]? = some (.cells #[.int .i64 t268, .int .i64 t269] 113 (0, 0))) := ⟨by (with_reducible repeat (first | refine blk_drewN ?_ _ | refine blk_drew ?_ | refine blk_alloc ?_ _)); refine blk_put (cs := #[.int .i64 t268, .int .i64 0]) ?_ 1 _ rfl; (with_reducible repeat (first | refine blk_drewN ?_ _ | refine blk_drew ?_ | refine blk_alloc ?_ _)); refine blk_put (cs := #[.int .i64 0, .int .i64 0]) ?_ 0 _ rfl; (with_reducible repeat (first | refine blk_drewN ?_ _ | refine blk_drew ?_ | refine blk_alloc ?_ _)); exact BK270.out⟩
    have n3_ : Aside0 (Below w.heap.size w ((w47.setCell ⟨gb270, 0, none⟩ (.int .i64 t268)).setCell ⟨gb270, 1, none⟩ (.int .i64 t269))) := ⟨bl3_ HB GE263 GE267 GE270⟩
    (try clear BK263)
    (try clear BK267)
    (try clear BK270)
    (try clear HB)
    generalize ((w47.setCell ⟨gb270, 0, none⟩ (.int .i64 t268)).setCell ⟨gb270, 1, none⟩ (.int .i64 t269)) = w51 at n0_ n1_ n2_ n3_ ⊢
    have BK263 := n0_
    have BK267 := n1_
    have BK270 := n2_
    have HB := n3_
    clear n0_ n1_ n2_ n3_
    refine sh4_ (blk_drew BK263.out) (blk_drew BK267.out) (blk_drew BK270.out) (below_drew1 HB.out) ?_
    clear BK263 BK267 BK270 HB
    intro BK263 BK267 BK270 HB
    refine start_ (n := 6) (S := fun w' => w'.cell? ⟨gb267, 0, none⟩ = some (.int .i64 t265) ∧ w'.cell? ⟨gb267, 1, none⟩ = some (.int .i64 t266) ∧ w'.cell? ⟨gb270, 0, none⟩ = some (.int .i64 t268) ∧ w'.cell? ⟨gb270, 1, none⟩ = some (.int .i64 t269)) (ds := []) #[false, false, false, false, false, false] (by kernel_rfl) rfl rfl ⟨(bc_ BK267 0 rfl), (bc_ BK267 1 rfl), (bc_ BK270 0 rfl), (bc_ BK270 1 rfl)⟩ (fun hHeld => ?_)
    generalize w51.drew = w52 at BK263 BK267 BK270 HB hHeld ⊢
    refine take_ (i := 0) (N := some 28) (v := ?_) (a' := ?_) #[true, false, false, false, false, false] rfl rfl (by kernel_rfl) (fun _ _ _ h => h) (Or.inl ⟨by rfl, ?_⟩) hHeld ?_ ?_
    rotate_left
    ·rintro w' ⟨s0, s1, s2, s3⟩
     go_simp
     with_reducible rfl
    rotate_left
    ·simp only [Act.put, List.setIfInBounds_toArray, List.set_cons_zero, List.set_cons_succ, i64_w, i32_w]
     rfl
    refine take_ (i := 2) (N := some 30) (v := ?_) (a' := ?_) #[true, false, true, false, false, false] rfl rfl (by kernel_rfl) (fun _ _ _ h => h) (Or.inl ⟨by rfl, ?_⟩) hHeld ?_ ?_
    rotate_left
    ·rintro w' ⟨s0, s1, s2, s3⟩
     go_simp
     with_reducible rfl
    rotate_left
    ·simp only [Act.put, List.setIfInBounds_toArray, List.set_cons_zero, List.set_cons_succ, i64_w, i32_w]
     rfl
    refine one_ (i := 1) (N := some 29) #[true, true, true, false, false, false] rfl rfl (by kernel_rfl) (by decide) (fun K hK => ?_)
    refine goes_ Try.func112 (by kernel_rfl) rfl #[.agg #[.int .i64 t265, .int .i64 t266]] (by rfl) rfl rfl mp_ ?_
    with_reducible refine (spec_MiddleOf.calls t265 t266 t271 _ A12.out).mono ?_
    rintro e w53 ⟨rfl, hb⟩
    refine ⟨_, rfl, sh4_ (blk_below (bk_ BK263) hb) (blk_below (bk_ BK267) hb) (blk_below (bk_ BK270) hb) (below_step (bl3_ HB GE263 GE267 GE270) hb) ?_⟩
    clear BK263 BK267 BK270 HB hb
    intro BK263 BK267 BK270 HB
    refine hK.out _ _ ⟨(bc_ BK267 0 rfl), (bc_ BK267 1 rfl), (bc_ BK270 0 rfl), (bc_ BK270 1 rfl)⟩ (fun hHeld => ?_)
    clear hK K
    refine norm_ (a' := ?_) ?_ ?_
    rotate_left
    ·show Act.put _ (some 29) _ = _
     simp only [Act.put, List.setIfInBounds_toArray, List.set_cons_zero, List.set_cons_succ, i64_w, i32_w]
     rfl
    refine one_ (i := 3) (N := some 31) #[true, true, true, true, false, false] rfl rfl (by kernel_rfl) (by decide) (fun K hK => ?_)
    refine goes_ Try.func112 (by kernel_rfl) rfl #[.agg #[.int .i64 t268, .int .i64 t269]] (by rfl) rfl rfl mp_ ?_
    with_reducible refine (spec_MiddleOf.calls t268 t269 t272 _ A13.out).mono ?_
    rintro e w54 ⟨rfl, hb⟩
    refine ⟨_, rfl, sh4_ (blk_below (bk_ BK263) hb) (blk_below (bk_ BK267) hb) (blk_below (bk_ BK270) hb) (below_step (bl3_ HB GE263 GE267 GE270) hb) ?_⟩
    clear BK263 BK267 BK270 HB hb
    intro BK263 BK267 BK270 HB
    refine hK.out _ _ ⟨(bc_ BK267 0 rfl), (bc_ BK267 1 rfl), (bc_ BK270 0 rfl), (bc_ BK270 1 rfl)⟩ (fun hHeld => ?_)
    clear hK K
    refine norm_ (a' := ?_) ?_ ?_
    rotate_left
    ·show Act.put _ (some 31) _ = _
     simp only [Act.put, List.setIfInBounds_toArray, List.set_cons_zero, List.set_cons_succ, i64_w, i32_w]
     rfl
    refine one_ (i := 4) (N := some 32) #[true, true, true, true, true, false] rfl rfl (by kernel_rfl) (by decide) (fun K hK => ?_)
    refine goes_ Try.func111 (by kernel_rfl) rfl #[.int .i64 t271, .int .i64 t272] (by rfl) rfl rfl mp_ ?_
    with_reducible refine (spec_GapOf.calls t271 t272 t273 _ A14.out).mono ?_
    rintro e w' ⟨rfl, ⟨nd, rfl⟩⟩
    refine ⟨_, rfl, ?_⟩
    refine hK.out _ _ ⟨(bc_ BK267 0 rfl), (bc_ BK267 1 rfl), (bc_ BK270 0 rfl), (bc_ BK270 1 rfl)⟩ (fun hHeld => ?_)
    clear hK K
    refine norm_ (a' := ?_) ?_ ?_
    rotate_left
    ·show Act.put _ (some 32) _ = _
     simp only [Act.put, List.setIfInBounds_toArray, List.set_cons_zero, List.set_cons_succ, i64_w, i32_w]
     rfl
    refine pure_ (i := 5) (N := some 12) (v := ?_) (a' := ?_) #[true, true, true, true, true, true] rfl rfl (by kernel_rfl) (fun _ _ _ h => h) (Or.inl ⟨by rfl, ?_⟩) ?_ ?_
    rotate_left
    ·intro w'
     go_simp
     with_reducible rfl
    rotate_left
    ·simp only [Act.put, List.setIfInBounds_toArray, List.set_cons_zero, List.set_cons_succ, i64_w, i32_w]
     rfl
    refine done_ (by kernel_rfl) ?_
    have hcz55 := cf2_ BK267
    have hcz56 := cf2_ BK270
    try go_wp2
    go_ret
    exact ⟨er_, bl3_ HB GE263 GE267 GE270⟩
   ·rw [if_neg c36] at H
    have c36b0 : decide ((wrap64 (t273 + (wrap64 ((wrap64 ((wrap64 (Int.tdiv t266 2)) + (wrap64 (Int.tdiv t269 2)))) + (wrap64 (Int.tdiv (wrap64 ((Int.tmod t266 2) + (Int.tmod t269 2))) 2)))))) ≤ t264) = false := decide_eq_false c36
    clear c36
    obtain rfl := Option.some.inj H
    go_enter Try.func97, Try.ntmps97
    try go_wp2_with (first | ((with_reducible refine gd_ 4 ?_); refine bx_ 4 34 #[.int .i64 a0_0, .slice A0_1 l0_1.length c0_1, .slice A0_2 l0_2.length c0_2, .int .i64 a0_3, .int .i64 a0_4, .int .i64 a0_5, .int .i64 a0_6, .int .i64 a0_7, .slice A0_8 l0_8.length c0_8, .int .i64 a0_9] ?_; intro gb263 hg w57 hbox hb; refine sh4_ (below_step (bl_ HB) hb) hbox (ge_ hg (bl_ HB)) (ge_ hg (bl_ HB)) ?_; clear HB hb hbox hg; intro HB BK263 GW263 GE263; have hcz58 := cf10_ BK263) | ((with_reducible refine gate_callee (f := 110) rfl ?_); refine gl_ 17 Try.func110 (spec_LimitOf.calls k a0_0 _ _ l0_1 _ _ l0_2 a0_3 a0_4 a0_5 a0_6 a0_7 _ _ l0_8 a0_9 a1 a2 t264 _ (ck_ HR0_1 HB) HC0_1.out (ck_ HR0_2 HB) HC0_2.out (ck_ HR0_8 HB) HC0_8.out A5.out) ?_; rintro e w59 ⟨rfl, hb⟩; refine ⟨_, rfl, sh2_ (blk_below (bk_ BK263) hb) (below_step (bl1_ HB GE263) hb) ?_⟩; clear BK263 HB hb; intro BK263 HB; have hcz60 := cf10_ BK263) | ((with_reducible refine gate_callee (f := 103) rfl ?_); refine gl_ 23 Try.func103 (spec_NodeAt.calls k a0_0 _ _ l0_1 _ _ l0_2 a0_3 a0_4 a0_5 a0_6 a0_7 _ _ l0_8 a0_9 a1 a3 t265 t266 _ (ck_ HR0_1 HB) HC0_1.out (ck_ HR0_2 HB) HC0_2.out (ck_ HR0_8 HB) HC0_8.out A10.out) ?_; rintro e w61 ⟨rfl, hb⟩; refine ⟨_, rfl, sh2_ (blk_below (bk_ BK263) hb) (below_step (bl1_ HB GE263) hb) ?_⟩; clear BK263 HB hb; intro BK263 HB) | ((with_reducible refine gd_ 10 ?_); refine bx_ 10 113 #[.int .i64 0, .int .i64 0] ?_; intro gb267 hg w62 hbox hb; refine sh7_ (blk_below (bk_ BK263) hb) (below_step (bl1_ HB GE263) hb) hbox (ge_ hg (bl1_ HB GE263)) (ge_ hg (bl1_ HB GE263)) (nl_ hg (bk_ BK263)) (ng_ hg (bk_ BK263)) ?_; clear BK263 HB hb hbox hg; intro BK263 HB BK267 GW267 GE267 NB263_267 NB267_263; have hnb63 := NB267_263.out; have hnc63 := NB263_267.out; have hcz64 := cf2_ BK267; have hcz65 := cf10_ BK263) | ((with_reducible refine gate_callee (f := 103) rfl ?_); refine goesL_ (some 27) rfl rfl Try.func103 (by kernel_rfl) rfl #[.agg #[.int .i64 a0_0, .slice A0_1 l0_1.length c0_1, .slice A0_2 l0_2.length c0_2, .int .i64 a0_3, .int .i64 a0_4, .int .i64 a0_5, .int .i64 a0_6, .int .i64 a0_7, .slice A0_8 l0_8.length c0_8, .int .i64 a0_9], .int .i64 a2, .int .i64 a3] rfl mp_ ?_; (with_reducible refine (spec_NodeAt.calls k a0_0 _ _ l0_1 _ _ l0_2 a0_3 a0_4 a0_5 a0_6 a0_7 _ _ l0_8 a0_9 a2 a3 t268 t269 _ ?side1 ?side2 ?side3 ?side4 ?side5 ?side6 A11.out).mono ?_); (case side1 => exact Kd.C_below HR0_1.out (bl2_ HB GE263 GE267)); (case side2 => exact HC0_1.out); (case side3 => exact Kd.C_below HR0_2.out (bl2_ HB GE263 GE267)); (case side4 => exact HC0_2.out); (case side5 => exact Kd.C_below HR0_8.out (bl2_ HB GE263 GE267)); (case side6 => exact HC0_8.out); rintro e w66 ⟨rfl, hb⟩; refine ⟨_, rfl, sh3_ (blk_below (g := gb263) (o := .cells #[.int .i64 a0_0, .slice A0_1 l0_1.length c0_1, .slice A0_2 l0_2.length c0_2, .int .i64 a0_3, .int .i64 a0_4, .int .i64 a0_5, .int .i64 a0_6, .int .i64 a0_7, .slice A0_8 l0_8.length c0_8, .int .i64 a0_9] 34 (0, 0)) (by (with_reducible repeat (first | refine blk_drewN ?_ _ | refine blk_drew ?_ | refine blk_alloc ?_ _)); refine blk_far ?_ NB263_267.out _; (with_reducible repeat (first | refine blk_drewN ?_ _ | refine blk_drew ?_ | refine blk_alloc ?_ _)); refine blk_far ?_ NB263_267.out _; (with_reducible repeat (first | refine blk_drewN ?_ _ | refine blk_drew ?_ | refine blk_alloc ?_ _)); exact BK263.out) hb) (blk_below (g := gb267) (o := .cells #[.int .i64 t265, .int .i64 t266] 113 (0, 0)) (by (with_reducible repeat (first | refine blk_drewN ?_ _ | refine blk_drew ?_ | refine blk_alloc ?_ _)); refine blk_put (cs := #[.int .i64 t265, .int .i64 0]) ?_ 1 _ rfl; (with_reducible repeat (first | refine blk_drewN ?_ _ | refine blk_drew ?_ | refine blk_alloc ?_ _)); refine blk_put (cs := #[.int .i64 0, .int .i64 0]) ?_ 0 _ rfl; (with_reducible repeat (first | refine blk_drewN ?_ _ | refine blk_drew ?_ | refine blk_alloc ?_ _)); exact BK267.out) hb) (below_step (bl2_ HB GE263 GE267) hb) ?_⟩; clear BK263 BK267 HB hb; intro BK263 BK267 HB) | ((with_reducible refine gd_ 11 ?_); refine bx_ 11 113 #[.int .i64 0, .int .i64 0] ?_; intro gb270 hg w67 hbox hb; refine sh10_ (blk_below (bk_ BK263) hb) (blk_below (bk_ BK267) hb) (below_step (bl2_ HB GE263 GE267) hb) hbox (ge_ hg (bl2_ HB GE263 GE267)) (ge_ hg (bl2_ HB GE263 GE267)) (nl_ hg (bk_ BK263)) (ng_ hg (bk_ BK263)) (nl_ hg (bk_ BK267)) (ng_ hg (bk_ BK267)) ?_; clear BK263 BK267 HB hb hbox hg; intro BK263 BK267 HB BK270 GW270 GE270 NB263_270 NB270_263 NB267_270 NB270_267; have hnb68 := NB270_263.out; have hnc68 := NB263_270.out; have hnb69 := NB270_267.out; have hnc69 := NB267_270.out; have hcz70 := cf2_ BK270))
    have n0_ : Aside0 (((w67.setCell ⟨gb270, 0, none⟩ (.int .i64 t268)).setCell ⟨gb270, 1, none⟩ (.int .i64 t269)).heap[gb263]? = some (.cells #[.int .i64 a0_0, .slice A0_1 l0_1.length c0_1, .slice A0_2 l0_2.length c0_2, .int .i64 a0_3, .int .i64 a0_4, .int .i64 a0_5, .int .i64 a0_6, .int .i64 a0_7, .slice A0_8 l0_8.length c0_8, .int .i64 a0_9] 34 (0, 0))) := ⟨by (with_reducible repeat (first | refine blk_drewN ?_ _ | refine blk_drew ?_ | refine blk_alloc ?_ _)); refine blk_far ?_ NB263_270.out _; (with_reducible repeat (first | refine blk_drewN ?_ _ | refine blk_drew ?_ | refine blk_alloc ?_ _)); refine blk_far ?_ NB263_270.out _; (with_reducible repeat (first | refine blk_drewN ?_ _ | refine blk_drew ?_ | refine blk_alloc ?_ _)); exact BK263.out⟩
    have n1_ : Aside0 (((w67.setCell ⟨gb270, 0, none⟩ (.int .i64 t268)).setCell ⟨gb270, 1, none⟩ (.int .i64 t269)).heap[gb267]? = some (.cells #[.int .i64 t265, .int .i64 t266] 113 (0, 0))) := ⟨by (with_reducible repeat (first | refine blk_drewN ?_ _ | refine blk_drew ?_ | refine blk_alloc ?_ _)); refine blk_far ?_ NB267_270.out _; (with_reducible repeat (first | refine blk_drewN ?_ _ | refine blk_drew ?_ | refine blk_alloc ?_ _)); refine blk_far ?_ NB267_270.out _; (with_reducible repeat (first | refine blk_drewN ?_ _ | refine blk_drew ?_ | refine blk_alloc ?_ _)); exact BK267.out⟩
    have n2_ : Aside0 (((w67.setCell ⟨gb270, 0, none⟩ (.int .i64 t268)).setCell ⟨gb270, 1, none⟩ (.int .i64 t269)).heap[gb270]? = some (.cells #[.int .i64 t268, .int .i64 t269] 113 (0, 0))) := ⟨by (with_reducible repeat (first | refine blk_drewN ?_ _ | refine blk_drew ?_ | refine blk_alloc ?_ _)); refine blk_put (cs := #[.int .i64 t268, .int .i64 0]) ?_ 1 _ rfl; (with_reducible repeat (first | refine blk_drewN ?_ _ | refine blk_drew ?_ | refine blk_alloc ?_ _)); refine blk_put (cs := #[.int .i64 0, .int .i64 0]) ?_ 0 _ rfl; (with_reducible repeat (first | refine blk_drewN ?_ _ | refine blk_drew ?_ | refine blk_alloc ?_ _)); exact BK270.out⟩
    have n3_ : Aside0 (Below w.heap.size w ((w67.setCell ⟨gb270, 0, none⟩ (.int .i64 t268)).setCell ⟨gb270, 1, none⟩ (.int .i64 t269))) := ⟨bl3_ HB GE263 GE267 GE270⟩
    (try clear BK263)
    (try clear BK267)
    (try clear BK270)
    (try clear HB)
    generalize ((w67.setCell ⟨gb270, 0, none⟩ (.int .i64 t268)).setCell ⟨gb270, 1, none⟩ (.int .i64 t269)) = w71 at n0_ n1_ n2_ n3_ ⊢
    have BK263 := n0_
    have BK267 := n1_
    have BK270 := n2_
    have HB := n3_
    clear n0_ n1_ n2_ n3_
    refine sh4_ (blk_drew BK263.out) (blk_drew BK267.out) (blk_drew BK270.out) (below_drew1 HB.out) ?_
    clear BK263 BK267 BK270 HB
    intro BK263 BK267 BK270 HB
    refine start_ (n := 6) (S := fun w' => w'.cell? ⟨gb267, 0, none⟩ = some (.int .i64 t265) ∧ w'.cell? ⟨gb267, 1, none⟩ = some (.int .i64 t266) ∧ w'.cell? ⟨gb270, 0, none⟩ = some (.int .i64 t268) ∧ w'.cell? ⟨gb270, 1, none⟩ = some (.int .i64 t269)) (ds := []) #[false, false, false, false, false, false] (by kernel_rfl) rfl rfl ⟨(bc_ BK267 0 rfl), (bc_ BK267 1 rfl), (bc_ BK270 0 rfl), (bc_ BK270 1 rfl)⟩ (fun hHeld => ?_)
    generalize w71.drew = w72 at BK263 BK267 BK270 HB hHeld ⊢
    refine take_ (i := 0) (N := some 28) (v := ?_) (a' := ?_) #[true, false, false, false, false, false] rfl rfl (by kernel_rfl) (fun _ _ _ h => h) (Or.inl ⟨by rfl, ?_⟩) hHeld ?_ ?_
    rotate_left
    ·rintro w' ⟨s0, s1, s2, s3⟩
     go_simp
     with_reducible rfl
    rotate_left
    ·simp only [Act.put, List.setIfInBounds_toArray, List.set_cons_zero, List.set_cons_succ, i64_w, i32_w]
     rfl
    refine take_ (i := 2) (N := some 30) (v := ?_) (a' := ?_) #[true, false, true, false, false, false] rfl rfl (by kernel_rfl) (fun _ _ _ h => h) (Or.inl ⟨by rfl, ?_⟩) hHeld ?_ ?_
    rotate_left
    ·rintro w' ⟨s0, s1, s2, s3⟩
     go_simp
     with_reducible rfl
    rotate_left
    ·simp only [Act.put, List.setIfInBounds_toArray, List.set_cons_zero, List.set_cons_succ, i64_w, i32_w]
     rfl
    refine one_ (i := 1) (N := some 29) #[true, true, true, false, false, false] rfl rfl (by kernel_rfl) (by decide) (fun K hK => ?_)
    refine goes_ Try.func112 (by kernel_rfl) rfl #[.agg #[.int .i64 t265, .int .i64 t266]] (by rfl) rfl rfl mp_ ?_
    with_reducible refine (spec_MiddleOf.calls t265 t266 t271 _ A12.out).mono ?_
    rintro e w73 ⟨rfl, hb⟩
    refine ⟨_, rfl, sh4_ (blk_below (bk_ BK263) hb) (blk_below (bk_ BK267) hb) (blk_below (bk_ BK270) hb) (below_step (bl3_ HB GE263 GE267 GE270) hb) ?_⟩
    clear BK263 BK267 BK270 HB hb
    intro BK263 BK267 BK270 HB
    refine hK.out _ _ ⟨(bc_ BK267 0 rfl), (bc_ BK267 1 rfl), (bc_ BK270 0 rfl), (bc_ BK270 1 rfl)⟩ (fun hHeld => ?_)
    clear hK K
    refine norm_ (a' := ?_) ?_ ?_
    rotate_left
    ·show Act.put _ (some 29) _ = _
     simp only [Act.put, List.setIfInBounds_toArray, List.set_cons_zero, List.set_cons_succ, i64_w, i32_w]
     rfl
    refine one_ (i := 3) (N := some 31) #[true, true, true, true, false, false] rfl rfl (by kernel_rfl) (by decide) (fun K hK => ?_)
    refine goes_ Try.func112 (by kernel_rfl) rfl #[.agg #[.int .i64 t268, .int .i64 t269]] (by rfl) rfl rfl mp_ ?_
    with_reducible refine (spec_MiddleOf.calls t268 t269 t272 _ A13.out).mono ?_
    rintro e w74 ⟨rfl, hb⟩
    refine ⟨_, rfl, sh4_ (blk_below (bk_ BK263) hb) (blk_below (bk_ BK267) hb) (blk_below (bk_ BK270) hb) (below_step (bl3_ HB GE263 GE267 GE270) hb) ?_⟩
    clear BK263 BK267 BK270 HB hb
    intro BK263 BK267 BK270 HB
    refine hK.out _ _ ⟨(bc_ BK267 0 rfl), (bc_ BK267 1 rfl), (bc_ BK270 0 rfl), (bc_ BK270 1 rfl)⟩ (fun hHeld => ?_)
    clear hK K
    refine norm_ (a' := ?_) ?_ ?_
    rotate_left
    ·show Act.put _ (some 31) _ = _
     simp only [Act.put, List.setIfInBounds_toArray, List.set_cons_zero, List.set_cons_succ, i64_w, i32_w]
     rfl
    refine one_ (i := 4) (N := some 32) #[true, true, true, true, true, false] rfl rfl (by kernel_rfl) (by decide) (fun K hK => ?_)
    refine goes_ Try.func111 (by kernel_rfl) rfl #[.int .i64 t271, .int .i64 t272] (by rfl) rfl rfl mp_ ?_
    with_reducible refine (spec_GapOf.calls t271 t272 t273 _ A14.out).mono ?_
    rintro e w' ⟨rfl, ⟨nd, rfl⟩⟩
    refine ⟨_, rfl, ?_⟩
    refine hK.out _ _ ⟨(bc_ BK267 0 rfl), (bc_ BK267 1 rfl), (bc_ BK270 0 rfl), (bc_ BK270 1 rfl)⟩ (fun hHeld => ?_)
    clear hK K
    refine norm_ (a' := ?_) ?_ ?_
    rotate_left
    ·show Act.put _ (some 32) _ = _
     simp only [Act.put, List.setIfInBounds_toArray, List.set_cons_zero, List.set_cons_succ, i64_w, i32_w]
     rfl
    refine pure_ (i := 5) (N := some 12) (v := ?_) (a' := ?_) #[true, true, true, true, true, true] rfl rfl (by kernel_rfl) (fun _ _ _ h => h) (Or.inl ⟨by rfl, ?_⟩) ?_ ?_
    rotate_left
    ·intro w'
     go_simp
     with_reducible rfl
    rotate_left
    ·simp only [Act.put, List.setIfInBounds_toArray, List.set_cons_zero, List.set_cons_succ, i64_w, i32_w]
     rfl
    refine done_ (by kernel_rfl) ?_
    have hcz75 := cf2_ BK267
    have hcz76 := cf2_ BK270
    try go_wp2
    go_ret
    exact ⟨er_, bl3_ HB GE263 GE267 GE270⟩

end Go.Proofs.Ytcjfalmhohcifaa.PFnExactSureNeighbors
