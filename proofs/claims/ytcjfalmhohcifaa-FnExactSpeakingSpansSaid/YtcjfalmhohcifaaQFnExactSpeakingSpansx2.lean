-- Written by a program of this session for this claim (the kit's printer with changes).
import Derived.Test.YtcjfalmhohcifaaQFnExactSpeakingSpansx0
import Derived.Test.YtcjfalmhohcifaaQFnExactSpeakingSpansx1
namespace Go.Proofs.Ytcjfalmhohcifaa.PFnExactSpeakingSpans
open Go.RowKit Go.Proofs.YtcjfalmhohcifaaW.PrintWords Go.Proofs.YtcjfalmhohcifaaW.PrintLast Go.Proofs.YtcjfalmhohcifaaW.PrintMore
attribute [local go_sem] max2_int min2_int max_two min_two max_three min_three max_four min_four   -- for this text's walks alone
set_option linter.unusedVariables false
set_option linter.unusedSimpArgs false

/-! ### spec_l7Near: function 126 -/
def spec_l7Near.f (a0_0 : Int) (l0_1 : List (S105)) (l0_2 : List (S109)) (a0_3 : Int) (a0_4 : Int) (a0_5 : Int) (a0_6 : Int) (a0_7 : Int) (l0_8 : List (S115)) (a0_9 : Int) (a1 : Int) (a2 : Int) : Option (Bool) := (spec_Min.f a1 a2).bind fun t149 => ((spec_Max.f a1 a2).bind fun t150 => (if t149 ≥ 0 then (if t150 > t149 then (if (wrap64 (t150 - t149)) = 1 then (some true) else (if t149 = 0 then (if t150 ≤ 4 then (some ((wrap64 (t150 + 1)) == a0_0)) else (some false)) else (some false))) else (some false)) else (some false)))
set_option maxHeartbeats 8000000 in
set_option maxRecDepth 100000 in
theorem spec_l7Near.calls (a0_0 : Int) (A0_1 : Option Addr) (c0_1 : Nat) (l0_1 : List (S105)) (A0_2 : Option Addr) (c0_2 : Nat) (l0_2 : List (S109)) (a0_3 : Int) (a0_4 : Int) (a0_5 : Int) (a0_6 : Int) (a0_7 : Int) (A0_8 : Option Addr) (c0_8 : Nat) (l0_8 : List (S115)) (a0_9 : Int) (a1 : Int) (a2 : Int) (r : Bool) (w : World) (hr0_1 : Kd.C k105 w A0_1 l0_1.length l0_1) (hc0_1 : l0_1.length ≤ c0_1) (hr0_2 : Kd.C k109 w A0_2 l0_2.length l0_2) (hc0_2 : l0_2.length ≤ c0_2) (hr0_8 : Kd.C k115 w A0_8 l0_8.length l0_8) (hc0_8 : l0_8.length ≤ c0_8) (h : spec_l7Near.f a0_0 l0_1 l0_2 a0_3 a0_4 a0_5 a0_6 a0_7 l0_8 a0_9 a1 a2 = some r) :
  Calls Try.prog 126 #[.agg #[.int .i64 a0_0, .slice A0_1 l0_1.length c0_1, .slice A0_2 l0_2.length c0_2, .int .i64 a0_3, .int .i64 a0_4, .int .i64 a0_5, .int .i64 a0_6, .int .i64 a0_7, .slice A0_8 l0_8.length c0_8, .int .i64 a0_9], .int .i64 a1, .int .i64 a2] w fun e w' => e = .returned (.bool r) ∧ Below w.heap.size w w' := by
 have hu34 := Try.underlying34
 have HR0_1 := Aside0.mk hr0_1
 have HC0_1 := Aside0.mk hc0_1
 clear hr0_1 hc0_1
 have HR0_2 := Aside0.mk hr0_2
 have HC0_2 := Aside0.mk hc0_2
 clear hr0_2 hc0_2
 have HR0_8 := Aside0.mk hr0_8
 have HC0_8 := Aside0.mk hc0_8
 clear hr0_8 hc0_8
 have HB := Aside0.mk (Below.refl w.heap.size w)
 have H := h
 clear h
 unfold spec_l7Near.f at H
 replace H := bs_ H
 obtain ⟨t149, A4, H⟩ := H
 replace H := bs_ H
 obtain ⟨t150, A5, H⟩ := H
 by_cases c6 : t149 ≥ 0
 ·rw [if_pos c6] at H
  have c6b0 : decide (0 ≤ t149) = true := decide_eq_true c6
  clear c6
  by_cases c7 : t150 > t149
  ·rw [if_pos c7] at H
   have c7b0 : decide (t149 < t150) = true := decide_eq_true c7
   clear c7
   by_cases c8 : (wrap64 (t150 - t149)) = 1
   ·rw [if_pos c8] at H
    obtain ⟨c8b0, c8b1⟩ := bt_ c8
    clear c8
    obtain rfl := Option.some.inj H
    go_enter Try.func126, Try.ntmps126
    go_wp2_with (first | ((with_reducible refine gd_ 3 ?_); refine bx_ 3 34 #[.int .i64 a0_0, .slice A0_1 l0_1.length c0_1, .slice A0_2 l0_2.length c0_2, .int .i64 a0_3, .int .i64 a0_4, .int .i64 a0_5, .int .i64 a0_6, .int .i64 a0_7, .slice A0_8 l0_8.length c0_8, .int .i64 a0_9] ?_; intro gb148 hg w9 hbox hb; refine sh3_ (below_step (bl_ HB) hb) hbox (ge_ hg (bl_ HB)) ?_; clear HB hb hbox hg; intro HB BK148 GE148) | ((with_reducible refine gate_callee (f := 99) rfl ?_); refine gl_ 11 Try.func99 (spec_Min.calls a1 a2 t149 _ A4.out) ?_; rintro e w' ⟨rfl, ⟨nd, rfl⟩⟩; refine ⟨_, rfl, ?_⟩) | ((with_reducible refine gate_callee (f := 73) rfl ?_); refine gl_ 14 Try.func73 (spec_Max.calls a1 a2 t150 _ A5.out) ?_; rintro e w' ⟨rfl, ⟨nd, rfl⟩⟩; refine ⟨_, rfl, ?_⟩))
    go_ret
    exact ⟨er_, bl1_ HB GE148⟩
   ·rw [if_neg c8] at H
    obtain ⟨c8b0, c8b1⟩ := bn_ c8
    by_cases c10 : t149 = 0
    ·rw [if_pos c10] at H
     obtain ⟨c10b0, c10b1⟩ := bt_ c10
     clear c10
     by_cases c11 : t150 ≤ 4
     ·rw [if_pos c11] at H
      have c11b0 := decide_eq_true c11
      clear c11
      obtain rfl := Option.some.inj H
      go_enter Try.func126, Try.ntmps126
      go_wp2_with (first | ((with_reducible refine gd_ 3 ?_); refine bx_ 3 34 #[.int .i64 a0_0, .slice A0_1 l0_1.length c0_1, .slice A0_2 l0_2.length c0_2, .int .i64 a0_3, .int .i64 a0_4, .int .i64 a0_5, .int .i64 a0_6, .int .i64 a0_7, .slice A0_8 l0_8.length c0_8, .int .i64 a0_9] ?_; intro gb148 hg w12 hbox hb; refine sh3_ (below_step (bl_ HB) hb) hbox (ge_ hg (bl_ HB)) ?_; clear HB hb hbox hg; intro HB BK148 GE148) | ((with_reducible refine gate_callee (f := 99) rfl ?_); refine gl_ 11 Try.func99 (spec_Min.calls a1 a2 t149 _ A4.out) ?_; rintro e w' ⟨rfl, ⟨nd, rfl⟩⟩; refine ⟨_, rfl, ?_⟩) | ((with_reducible refine gate_callee (f := 73) rfl ?_); refine gl_ 14 Try.func73 (spec_Max.calls a1 a2 t150 _ A5.out) ?_; rintro e w' ⟨rfl, ⟨nd, rfl⟩⟩; refine ⟨_, rfl, ?_⟩; have hcz13 := cf10_ BK148))
      go_ret
      exact ⟨er_, bl1_ HB GE148⟩
     ·rw [if_neg c11] at H
      have c11b0 := decide_eq_false c11
      clear c11
      obtain rfl := Option.some.inj H
      go_enter Try.func126, Try.ntmps126
      go_wp2_with (first | ((with_reducible refine gd_ 3 ?_); refine bx_ 3 34 #[.int .i64 a0_0, .slice A0_1 l0_1.length c0_1, .slice A0_2 l0_2.length c0_2, .int .i64 a0_3, .int .i64 a0_4, .int .i64 a0_5, .int .i64 a0_6, .int .i64 a0_7, .slice A0_8 l0_8.length c0_8, .int .i64 a0_9] ?_; intro gb148 hg w14 hbox hb; refine sh3_ (below_step (bl_ HB) hb) hbox (ge_ hg (bl_ HB)) ?_; clear HB hb hbox hg; intro HB BK148 GE148) | ((with_reducible refine gate_callee (f := 99) rfl ?_); refine gl_ 11 Try.func99 (spec_Min.calls a1 a2 t149 _ A4.out) ?_; rintro e w' ⟨rfl, ⟨nd, rfl⟩⟩; refine ⟨_, rfl, ?_⟩) | ((with_reducible refine gate_callee (f := 73) rfl ?_); refine gl_ 14 Try.func73 (spec_Max.calls a1 a2 t150 _ A5.out) ?_; rintro e w' ⟨rfl, ⟨nd, rfl⟩⟩; refine ⟨_, rfl, ?_⟩))
      go_ret
      exact ⟨er_, bl1_ HB GE148⟩
    ·rw [if_neg c10] at H
     obtain ⟨c10b0, c10b1⟩ := bn_ c10
     obtain rfl := Option.some.inj H
     go_enter Try.func126, Try.ntmps126
     go_wp2_with (first | ((with_reducible refine gd_ 3 ?_); refine bx_ 3 34 #[.int .i64 a0_0, .slice A0_1 l0_1.length c0_1, .slice A0_2 l0_2.length c0_2, .int .i64 a0_3, .int .i64 a0_4, .int .i64 a0_5, .int .i64 a0_6, .int .i64 a0_7, .slice A0_8 l0_8.length c0_8, .int .i64 a0_9] ?_; intro gb148 hg w15 hbox hb; refine sh3_ (below_step (bl_ HB) hb) hbox (ge_ hg (bl_ HB)) ?_; clear HB hb hbox hg; intro HB BK148 GE148) | ((with_reducible refine gate_callee (f := 99) rfl ?_); refine gl_ 11 Try.func99 (spec_Min.calls a1 a2 t149 _ A4.out) ?_; rintro e w' ⟨rfl, ⟨nd, rfl⟩⟩; refine ⟨_, rfl, ?_⟩) | ((with_reducible refine gate_callee (f := 73) rfl ?_); refine gl_ 14 Try.func73 (spec_Max.calls a1 a2 t150 _ A5.out) ?_; rintro e w' ⟨rfl, ⟨nd, rfl⟩⟩; refine ⟨_, rfl, ?_⟩))
     go_ret
     exact ⟨er_, bl1_ HB GE148⟩
  ·rw [if_neg c7] at H
   have c7b0 : decide (t149 < t150) = false := decide_eq_false c7
   clear c7
   obtain rfl := Option.some.inj H
   go_enter Try.func126, Try.ntmps126
   go_wp2_with (first | ((with_reducible refine gd_ 3 ?_); refine bx_ 3 34 #[.int .i64 a0_0, .slice A0_1 l0_1.length c0_1, .slice A0_2 l0_2.length c0_2, .int .i64 a0_3, .int .i64 a0_4, .int .i64 a0_5, .int .i64 a0_6, .int .i64 a0_7, .slice A0_8 l0_8.length c0_8, .int .i64 a0_9] ?_; intro gb148 hg w16 hbox hb; refine sh3_ (below_step (bl_ HB) hb) hbox (ge_ hg (bl_ HB)) ?_; clear HB hb hbox hg; intro HB BK148 GE148) | ((with_reducible refine gate_callee (f := 99) rfl ?_); refine gl_ 11 Try.func99 (spec_Min.calls a1 a2 t149 _ A4.out) ?_; rintro e w' ⟨rfl, ⟨nd, rfl⟩⟩; refine ⟨_, rfl, ?_⟩) | ((with_reducible refine gate_callee (f := 73) rfl ?_); refine gl_ 14 Try.func73 (spec_Max.calls a1 a2 t150 _ A5.out) ?_; rintro e w' ⟨rfl, ⟨nd, rfl⟩⟩; refine ⟨_, rfl, ?_⟩))
   go_ret
   exact ⟨er_, bl1_ HB GE148⟩
 ·rw [if_neg c6] at H
  have c6b0 : decide (0 ≤ t149) = false := decide_eq_false c6
  clear c6
  obtain rfl := Option.some.inj H
  go_enter Try.func126, Try.ntmps126
  go_wp2_with (first | ((with_reducible refine gd_ 3 ?_); refine bx_ 3 34 #[.int .i64 a0_0, .slice A0_1 l0_1.length c0_1, .slice A0_2 l0_2.length c0_2, .int .i64 a0_3, .int .i64 a0_4, .int .i64 a0_5, .int .i64 a0_6, .int .i64 a0_7, .slice A0_8 l0_8.length c0_8, .int .i64 a0_9] ?_; intro gb148 hg w17 hbox hb; refine sh3_ (below_step (bl_ HB) hb) hbox (ge_ hg (bl_ HB)) ?_; clear HB hb hbox hg; intro HB BK148 GE148) | ((with_reducible refine gate_callee (f := 99) rfl ?_); refine gl_ 11 Try.func99 (spec_Min.calls a1 a2 t149 _ A4.out) ?_; rintro e w' ⟨rfl, ⟨nd, rfl⟩⟩; refine ⟨_, rfl, ?_⟩) | ((with_reducible refine gate_callee (f := 73) rfl ?_); refine gl_ 14 Try.func73 (spec_Max.calls a1 a2 t150 _ A5.out) ?_; rintro e w' ⟨rfl, ⟨nd, rfl⟩⟩; refine ⟨_, rfl, ?_⟩))
  go_ret
  exact ⟨er_, bl1_ HB GE148⟩

/-! ### spec_LimitOf: function 110 -/
mutual
def spec_LimitOf.j0 : Nat → Int → Int → Bool → Int → List (S105) → List (S109) → Int → Int → Int → Int → Int → List (S115) → Int → Option (Int)
 | 0, _, _, _, _, _, _, _, _, _, _, _, _, _ => none
 | k + 1, x1, x2, x38, x152000, x152001, x152002, x152003, x152004, x152005, x152006, x152007, x152008, x152009 => if x38 = true then (some (-1)) else ((spec_PlaneOf.f x152000 x152001 x152002 x152003 x152004 x152005 x152006 x152007 x152008 x152009 x1).bind fun t157 => ((spec_PlaneOf.f x152000 x152001 x152002 x152003 x152004 x152005 x152006 x152007 x152008 x152009 x2).bind fun t158 => ((spec_IsSite.f x152000 x152001 x152002 x152003 x152004 x152005 x152006 x152007 x152008 x152009 x1).bind fun t159 => (if t159 = true then (spec_LimitOf.j1 k t157 t158 true x152000 x152001 x152002 x152003 x152004 x152005 x152006 x152007 x152008 x152009) else ((spec_IsSite.f x152000 x152001 x152002 x152003 x152004 x152005 x152006 x152007 x152008 x152009 x2).bind fun t160 => (spec_LimitOf.j1 k t157 t158 t160 x152000 x152001 x152002 x152003 x152004 x152005 x152006 x152007 x152008 x152009))))))
def spec_LimitOf.j1 : Nat → Int → Int → Bool → Int → List (S105) → List (S109) → Int → Int → Int → Int → Int → List (S115) → Int → Option (Int)
 | 0, _, _, _, _, _, _, _, _, _, _, _, _, _ => none
 | k + 1, x8, x9, x45, x152000, x152001, x152002, x152003, x152004, x152005, x152006, x152007, x152008, x152009 => if x45 = true then (if x8 = x9 then (some x152005) else ((spec_l7Near.f x152000 x152001 x152002 x152003 x152004 x152005 x152006 x152007 x152008 x152009 x8 x9).bind fun t161 => (if t161 = true then (some x152005) else (some (-1))))) else (if x8 = x9 then (some x152003) else ((spec_l7Near.f x152000 x152001 x152002 x152003 x152004 x152005 x152006 x152007 x152008 x152009 x8 x9).bind fun t162 => (if t162 = true then (some x152004) else (some (-1)))))
end
def spec_LimitOf.f (k : Nat) (a0_0 : Int) (l0_1 : List (S105)) (l0_2 : List (S109)) (a0_3 : Int) (a0_4 : Int) (a0_5 : Int) (a0_6 : Int) (a0_7 : Int) (l0_8 : List (S115)) (a0_9 : Int) (a1 : Int) (a2 : Int) : Option (Int) := (spec_NodesOf.f a0_0 l0_1 l0_2 a0_3 a0_4 a0_5 a0_6 a0_7 l0_8 a0_9).bind fun t152 => ((spec_l1In.f a1 0 (wrap64 (t152 - 1))).bind fun t153 => (if t153 = true then ((spec_l1In.f a2 0 (wrap64 (t152 - 1))).bind fun t154 => (if t154 = true then (if a1 = a2 then (spec_LimitOf.j0 k a1 a2 true a0_0 l0_1 l0_2 a0_3 a0_4 a0_5 a0_6 a0_7 l0_8 a0_9) else ((spec_IsSite.f a0_0 l0_1 l0_2 a0_3 a0_4 a0_5 a0_6 a0_7 l0_8 a0_9 a1).bind fun t155 => (if t155 = true then ((spec_IsSite.f a0_0 l0_1 l0_2 a0_3 a0_4 a0_5 a0_6 a0_7 l0_8 a0_9 a2).bind fun t156 => (spec_LimitOf.j0 k a1 a2 t156 a0_0 l0_1 l0_2 a0_3 a0_4 a0_5 a0_6 a0_7 l0_8 a0_9)) else (spec_LimitOf.j0 k a1 a2 false a0_0 l0_1 l0_2 a0_3 a0_4 a0_5 a0_6 a0_7 l0_8 a0_9)))) else (spec_LimitOf.j0 k a1 a2 true a0_0 l0_1 l0_2 a0_3 a0_4 a0_5 a0_6 a0_7 l0_8 a0_9))) else (spec_LimitOf.j0 k a1 a2 true a0_0 l0_1 l0_2 a0_3 a0_4 a0_5 a0_6 a0_7 l0_8 a0_9)))
theorem spec_LimitOf.mono_l : ∀ k, (∀ y0 y1 y2 y3 y4 y5 y6 y7 y8 y9 y10 y11 y12, LeO (spec_LimitOf.j0 k y0 y1 y2 y3 y4 y5 y6 y7 y8 y9 y10 y11 y12) (spec_LimitOf.j0 (k + 1) y0 y1 y2 y3 y4 y5 y6 y7 y8 y9 y10 y11 y12)) ∧ (∀ y0 y1 y2 y3 y4 y5 y6 y7 y8 y9 y10 y11 y12, LeO (spec_LimitOf.j1 k y0 y1 y2 y3 y4 y5 y6 y7 y8 y9 y10 y11 y12) (spec_LimitOf.j1 (k + 1) y0 y1 y2 y3 y4 y5 y6 y7 y8 y9 y10 y11 y12))
 | 0 => ⟨fun _ _ _ _ _ _ _ _ _ _ _ _ _ r h => by simp [spec_LimitOf.j0] at h, fun _ _ _ _ _ _ _ _ _ _ _ _ _ r h => by simp [spec_LimitOf.j1] at h⟩
 | k + 1 => by
  obtain ⟨ih0, ih1⟩ := spec_LimitOf.mono_l k
  refine ⟨?_, ?_⟩
  ·intro y0 y1 y2 y3 y4 y5 y6 y7 y8 y9 y10 y11 y12
   unfold spec_LimitOf.j0
   repeat' first | (with_reducible first | exact ih0 _ _ _ _ _ _ _ _ _ _ _ _ _ | exact ih1 _ _ _ _ _ _ _ _ _ _ _ _ _ | exact LeO.refl _ | exact LeO.none _ | refine LeO.ite ?_ ?_ | refine LeO.bind ?_ (fun _ => ?_)) | exact LeO.none _ | refine LeO.ite ?_ ?_ | refine LeO.bind ?_ (fun _ => ?_)
  ·intro y0 y1 y2 y3 y4 y5 y6 y7 y8 y9 y10 y11 y12
   unfold spec_LimitOf.j1
   repeat' first | (with_reducible first | exact ih0 _ _ _ _ _ _ _ _ _ _ _ _ _ | exact ih1 _ _ _ _ _ _ _ _ _ _ _ _ _ | exact LeO.refl _ | exact LeO.none _ | refine LeO.ite ?_ ?_ | refine LeO.bind ?_ (fun _ => ?_)) | exact LeO.none _ | refine LeO.ite ?_ ?_ | refine LeO.bind ?_ (fun _ => ?_)
theorem spec_LimitOf.mono : ∀ a0 a1 a2 a3 a4 a5 a6 a7 a8 a9 a10 a11 k, LeO (spec_LimitOf.f k a0 a1 a2 a3 a4 a5 a6 a7 a8 a9 a10 a11) (spec_LimitOf.f (k + 1) a0 a1 a2 a3 a4 a5 a6 a7 a8 a9 a10 a11) := by
 intro a0 a1 a2 a3 a4 a5 a6 a7 a8 a9 a10 a11 k
 obtain ⟨ih0, ih1⟩ := spec_LimitOf.mono_l k
 unfold spec_LimitOf.f
 repeat' first | (with_reducible first | exact ih0 _ _ _ _ _ _ _ _ _ _ _ _ _ | exact ih1 _ _ _ _ _ _ _ _ _ _ _ _ _ | exact LeO.refl _ | exact LeO.none _ | refine LeO.ite ?_ ?_ | refine LeO.bind ?_ (fun _ => ?_)) | exact LeO.none _ | refine LeO.ite ?_ ?_ | refine LeO.bind ?_ (fun _ => ?_)
set_option maxHeartbeats 8000000 in
set_option maxRecDepth 100000 in
theorem spec_LimitOf.calls (k : Nat) (a0_0 : Int) (A0_1 : Option Addr) (c0_1 : Nat) (l0_1 : List (S105)) (A0_2 : Option Addr) (c0_2 : Nat) (l0_2 : List (S109)) (a0_3 : Int) (a0_4 : Int) (a0_5 : Int) (a0_6 : Int) (a0_7 : Int) (A0_8 : Option Addr) (c0_8 : Nat) (l0_8 : List (S115)) (a0_9 : Int) (a1 : Int) (a2 : Int) (r : Int) (w : World) (hr0_1 : Kd.C k105 w A0_1 l0_1.length l0_1) (hc0_1 : l0_1.length ≤ c0_1) (hr0_2 : Kd.C k109 w A0_2 l0_2.length l0_2) (hc0_2 : l0_2.length ≤ c0_2) (hr0_8 : Kd.C k115 w A0_8 l0_8.length l0_8) (hc0_8 : l0_8.length ≤ c0_8) (h : spec_LimitOf.f k a0_0 l0_1 l0_2 a0_3 a0_4 a0_5 a0_6 a0_7 l0_8 a0_9 a1 a2 = some r) :
  Calls Try.prog 110 #[.agg #[.int .i64 a0_0, .slice A0_1 l0_1.length c0_1, .slice A0_2 l0_2.length c0_2, .int .i64 a0_3, .int .i64 a0_4, .int .i64 a0_5, .int .i64 a0_6, .int .i64 a0_7, .slice A0_8 l0_8.length c0_8, .int .i64 a0_9], .int .i64 a1, .int .i64 a2] w fun e w' => e = .returned (.int .i64 r) ∧ Below w.heap.size w w' := by
 have hu34 := Try.underlying34
 have HR0_1 := Aside0.mk hr0_1
 have HC0_1 := Aside0.mk hc0_1
 clear hr0_1 hc0_1
 have HR0_2 := Aside0.mk hr0_2
 have HC0_2 := Aside0.mk hc0_2
 clear hr0_2 hc0_2
 have HR0_8 := Aside0.mk hr0_8
 have HC0_8 := Aside0.mk hc0_8
 clear hr0_8 hc0_8
 have HB := Aside0.mk (Below.refl w.heap.size w)
 have H := h
 clear h
 unfold spec_LimitOf.f at H
 replace H := bs_ H
 obtain ⟨t152, A4, H⟩ := H
 have HC5 := Aside0.mk H
 clear H
 go_enter Try.func110, Try.ntmps110
 go_upto_region 2 with (first | ((with_reducible refine gd_ 3 ?_); refine bx_ 3 34 #[.int .i64 a0_0, .slice A0_1 l0_1.length c0_1, .slice A0_2 l0_2.length c0_2, .int .i64 a0_3, .int .i64 a0_4, .int .i64 a0_5, .int .i64 a0_6, .int .i64 a0_7, .slice A0_8 l0_8.length c0_8, .int .i64 a0_9] ?_; intro gb151 hg w6 hbox hb; refine sh3_ (below_step (bl_ HB) hb) hbox (ge_ hg (bl_ HB)) ?_; clear HB hb hbox hg; intro HB BK151 GE151; have hcz7 := cf10_ BK151) | ((with_reducible refine gate_callee (f := 67) rfl ?_); refine gl_ 11 Try.func67 (spec_NodesOf.calls a0_0 _ _ l0_1 _ _ l0_2 a0_3 a0_4 a0_5 a0_6 a0_7 _ _ l0_8 a0_9 t152 _ (ck_ HR0_1 HB) HC0_1.out (ck_ HR0_2 HB) HC0_2.out (ck_ HR0_8 HB) HC0_8.out A4.out) ?_; rintro e w8 ⟨rfl, hb⟩; refine ⟨_, rfl, sh2_ (blk_below (bk_ BK151) hb) (below_step (bl1_ HB GE151) hb) ?_⟩; clear BK151 HB hb; intro BK151 HB))
 (try simp only [Act.put, List.setIfInBounds_toArray, List.set_cons_zero, List.set_cons_succ])
 go_cut [38] (fun v38 wc => ∃ (kq : Nat) (x38_4 : Bool), v38 = .bool x38_4 ∧ Aside0 (spec_LimitOf.j0 kq a1 a2 x38_4 a0_0 l0_1 l0_2 a0_3 a0_4 a0_5 a0_6 a0_7 l0_8 a0_9 = some r) ∧ Aside0 (kq ≤ k) ∧ Aside0 (wc.heap[gb151]? = some (.cells #[.int .i64 a0_0, (.slice A0_1 l0_1.length c0_1), (.slice A0_2 l0_2.length c0_2), .int .i64 a0_3, .int .i64 a0_4, .int .i64 a0_5, .int .i64 a0_6, .int .i64 a0_7, (.slice A0_8 l0_8.length c0_8), .int .i64 a0_9] 34 (0, 0))) ∧ Aside0 (Below w.heap.size w wc))
 case first =>
  have H := HC5.out
  clear HC5
  replace H := bs_ H
  obtain ⟨t153, A9, H⟩ := H
  by_cases c10 : t153 = true
  ·subst c10
   rw [if_pos rfl] at H
   replace H := bs_ H
   obtain ⟨t154, A11, H⟩ := H
   by_cases c12 : t154 = true
   ·subst c12
    rw [if_pos rfl] at H
    by_cases c13 : a1 = a2
    ·rw [if_pos c13] at H
     obtain ⟨c13b0, c13b1⟩ := bt_ c13
     clear c13
     (first | rw [c13b0] | (simp only [i64_w, i32_w]; rw [c13b0]) | skip)
     have H' := Aside0.mk H
     clear H
     go_wp2_with (first | ((with_reducible refine gate_callee (f := 101) rfl ?_); refine gl_ 15 Try.func101 (spec_l1In.calls a1 0 (wrap64 (t152 - 1)) true _ A9.out) ?_; rintro e w' ⟨rfl, ⟨nd, rfl⟩⟩; refine ⟨_, rfl, ?_⟩) | (go_at_call 101; (with_reducible refine (spec_l1In.calls a2 0 (wrap64 (t152 - 1)) true _ A11.out).mono ?_); rintro e w' ⟨rfl, ⟨nd, rfl⟩⟩))
     go_meet
     case rel => exact ⟨_, (true), (by first | rfl | (simp; done) | (simp [*]; done)), H', ⟨by first | omega | exact Nat.le_refl _⟩, ⟨by (with_reducible repeat (first | refine blk_drewN ?_ _ | refine blk_drew ?_ | refine blk_alloc ?_ _)); exact BK151.out⟩, ⟨bl1_ HB GE151⟩⟩
    ·rw [if_neg c13] at H
     obtain ⟨c13b0, c13b1⟩ := bn_ c13
     (first | rw [c13b0] | (simp only [i64_w, i32_w]; rw [c13b0]) | skip)
     replace H := bs_ H
     obtain ⟨t155, A14, H⟩ := H
     by_cases c15 : t155 = true
     ·subst c15
      rw [if_pos rfl] at H
      replace H := bs_ H
      obtain ⟨t156, A16, H⟩ := H
      have H' := Aside0.mk H
      clear H
      go_wp2_with (first | ((with_reducible refine gate_callee (f := 101) rfl ?_); refine gl_ 15 Try.func101 (spec_l1In.calls a1 0 (wrap64 (t152 - 1)) true _ A9.out) ?_; rintro e w' ⟨rfl, ⟨nd, rfl⟩⟩; refine ⟨_, rfl, ?_⟩) | (go_at_call 101; (with_reducible refine (spec_l1In.calls a2 0 (wrap64 (t152 - 1)) true _ A11.out).mono ?_); rintro e w' ⟨rfl, ⟨nd, rfl⟩⟩; have hcz17 := cf10_ BK151) | (go_at_call 118; (with_reducible refine (spec_IsSite.calls a0_0 _ _ l0_1 _ _ l0_2 a0_3 a0_4 a0_5 a0_6 a0_7 _ _ l0_8 a0_9 a1 true _ ?side1 ?side2 ?side3 ?side4 ?side5 ?side6 A14.out).mono ?_); (case side1 => repeat (first | exact (Kd.C_below HR0_1.out (bl1_ HB GE151)) | (with_reducible refine Kd.C_alloc ?_ _) | (with_reducible refine Kd.C_drewN ?_ _) | (with_reducible refine Kd.C_drew ?_))); (case side2 => exact HC0_1.out); (case side3 => repeat (first | exact (Kd.C_below HR0_2.out (bl1_ HB GE151)) | (with_reducible refine Kd.C_alloc ?_ _) | (with_reducible refine Kd.C_drewN ?_ _) | (with_reducible refine Kd.C_drew ?_))); (case side4 => exact HC0_2.out); (case side5 => repeat (first | exact (Kd.C_below HR0_8.out (bl1_ HB GE151)) | (with_reducible refine Kd.C_alloc ?_ _) | (with_reducible refine Kd.C_drewN ?_ _) | (with_reducible refine Kd.C_drew ?_))); (case side6 => exact HC0_8.out); rintro e w18 ⟨rfl, hb⟩; refine sh2_ (blk_below (bk_ BK151) hb) (below_step (bl1_ HB GE151) hb) ?_; clear BK151 HB hb; intro BK151 HB; have hcz19 := cf10_ BK151) | (go_at_call 118; (with_reducible refine (spec_IsSite.calls a0_0 _ _ l0_1 _ _ l0_2 a0_3 a0_4 a0_5 a0_6 a0_7 _ _ l0_8 a0_9 a2 t156 _ ?side1 ?side2 ?side3 ?side4 ?side5 ?side6 A16.out).mono ?_); (case side1 => exact ck_ HR0_1 HB); (case side2 => exact HC0_1.out); (case side3 => exact ck_ HR0_2 HB); (case side4 => exact HC0_2.out); (case side5 => exact ck_ HR0_8 HB); (case side6 => exact HC0_8.out); rintro e w20 ⟨rfl, hb⟩; refine sh2_ (blk_below (bk_ BK151) hb) (below_step (bl1_ HB GE151) hb) ?_; clear BK151 HB hb; intro BK151 HB))
      go_meet
      case rel => exact ⟨_, (t156), (by first | rfl | (simp; done) | (simp [*]; done)), H', ⟨by first | omega | exact Nat.le_refl _⟩, ⟨by (with_reducible repeat (first | refine blk_drewN ?_ _ | refine blk_drew ?_ | refine blk_alloc ?_ _)); exact BK151.out⟩, ⟨bl1_ HB GE151⟩⟩
     ·replace c15 := Bool.eq_false_iff.mpr c15
      subst c15
      have H1 : (spec_LimitOf.j0 k a1 a2 false a0_0 l0_1 l0_2 a0_3 a0_4 a0_5 a0_6 a0_7 l0_8 a0_9) = some r := by rw [if_neg (show ¬ (false = true) by decide)] at H; exact H
      clear H
      have H := H1
      clear H1
      have H' := Aside0.mk H
      clear H
      go_wp2_with (first | ((with_reducible refine gate_callee (f := 101) rfl ?_); refine gl_ 15 Try.func101 (spec_l1In.calls a1 0 (wrap64 (t152 - 1)) true _ A9.out) ?_; rintro e w' ⟨rfl, ⟨nd, rfl⟩⟩; refine ⟨_, rfl, ?_⟩) | (go_at_call 101; (with_reducible refine (spec_l1In.calls a2 0 (wrap64 (t152 - 1)) true _ A11.out).mono ?_); rintro e w' ⟨rfl, ⟨nd, rfl⟩⟩; have hcz21 := cf10_ BK151) | (go_at_call 118; (with_reducible refine (spec_IsSite.calls a0_0 _ _ l0_1 _ _ l0_2 a0_3 a0_4 a0_5 a0_6 a0_7 _ _ l0_8 a0_9 a1 false _ ?side1 ?side2 ?side3 ?side4 ?side5 ?side6 A14.out).mono ?_); (case side1 => repeat (first | exact (Kd.C_below HR0_1.out (bl1_ HB GE151)) | (with_reducible refine Kd.C_alloc ?_ _) | (with_reducible refine Kd.C_drewN ?_ _) | (with_reducible refine Kd.C_drew ?_))); (case side2 => exact HC0_1.out); (case side3 => repeat (first | exact (Kd.C_below HR0_2.out (bl1_ HB GE151)) | (with_reducible refine Kd.C_alloc ?_ _) | (with_reducible refine Kd.C_drewN ?_ _) | (with_reducible refine Kd.C_drew ?_))); (case side4 => exact HC0_2.out); (case side5 => repeat (first | exact (Kd.C_below HR0_8.out (bl1_ HB GE151)) | (with_reducible refine Kd.C_alloc ?_ _) | (with_reducible refine Kd.C_drewN ?_ _) | (with_reducible refine Kd.C_drew ?_))); (case side6 => exact HC0_8.out); rintro e w22 ⟨rfl, hb⟩; refine sh2_ (blk_below (bk_ BK151) hb) (below_step (bl1_ HB GE151) hb) ?_; clear BK151 HB hb; intro BK151 HB))
      go_meet
      case rel => exact ⟨_, (false), (by first | rfl | (simp; done) | (simp [*]; done)), H', ⟨by first | omega | exact Nat.le_refl _⟩, ⟨by (with_reducible repeat (first | refine blk_drewN ?_ _ | refine blk_drew ?_ | refine blk_alloc ?_ _)); exact BK151.out⟩, ⟨bl1_ HB GE151⟩⟩
   ·replace c12 := Bool.eq_false_iff.mpr c12
    subst c12
    have H1 : (spec_LimitOf.j0 k a1 a2 true a0_0 l0_1 l0_2 a0_3 a0_4 a0_5 a0_6 a0_7 l0_8 a0_9) = some r := by rw [if_neg (show ¬ (false = true) by decide)] at H; exact H
    clear H
    have H := H1
    clear H1
    have H' := Aside0.mk H
    clear H
    go_wp2_with (first | ((with_reducible refine gate_callee (f := 101) rfl ?_); refine gl_ 15 Try.func101 (spec_l1In.calls a1 0 (wrap64 (t152 - 1)) true _ A9.out) ?_; rintro e w' ⟨rfl, ⟨nd, rfl⟩⟩; refine ⟨_, rfl, ?_⟩) | (go_at_call 101; (with_reducible refine (spec_l1In.calls a2 0 (wrap64 (t152 - 1)) false _ A11.out).mono ?_); rintro e w' ⟨rfl, ⟨nd, rfl⟩⟩))
    go_meet
    case rel => exact ⟨_, (true), (by first | rfl | (simp; done) | (simp [*]; done)), H', ⟨by first | omega | exact Nat.le_refl _⟩, ⟨by (with_reducible repeat (first | refine blk_drewN ?_ _ | refine blk_drew ?_ | refine blk_alloc ?_ _)); exact BK151.out⟩, ⟨bl1_ HB GE151⟩⟩
  ·replace c10 := Bool.eq_false_iff.mpr c10
   subst c10
   have H1 : (spec_LimitOf.j0 k a1 a2 true a0_0 l0_1 l0_2 a0_3 a0_4 a0_5 a0_6 a0_7 l0_8 a0_9) = some r := by rw [if_neg (show ¬ (false = true) by decide)] at H; exact H
   clear H
   have H := H1
   clear H1
   have H' := Aside0.mk H
   clear H
   go_wp2_with (first | ((with_reducible refine gate_callee (f := 101) rfl ?_); refine gl_ 15 Try.func101 (spec_l1In.calls a1 0 (wrap64 (t152 - 1)) false _ A9.out) ?_; rintro e w' ⟨rfl, ⟨nd, rfl⟩⟩; refine ⟨_, rfl, ?_⟩))
   go_meet
   case rel => exact ⟨_, (true), (by first | rfl | (simp; done) | (simp [*]; done)), H', ⟨by first | omega | exact Nat.le_refl _⟩, ⟨by (with_reducible repeat (first | refine blk_drewN ?_ _ | refine blk_drew ?_ | refine blk_alloc ?_ _)); exact BK151.out⟩, ⟨bl1_ HB GE151⟩⟩
 case rest =>
  clear HC5
  try clear c1
  try clear p2
  try clear c6
  try clear p6
  try clear c10
  try clear c11
  try clear c12
  try clear c13
  try clear c13b0
  try clear c13b1
  try clear c15
  try clear hcz17
  try clear hcz19
  try clear hcz21
  try clear hcz7
  obtain ⟨kq, x38_4, rfl, HA, HJ4, BK151, HB⟩ := hcut
  cases kq with
  | zero => exact absurd HA.out (by simp [spec_LimitOf.j0])
  | succ kj4 =>
   have H := HA.out
   clear HA
   simp only [spec_LimitOf.j0] at H
   by_cases c23 : x38_4 = true
   ·subst c23
    rw [if_pos rfl] at H
    obtain rfl := Option.some.inj H
    go_wp2
    go_ret
    exact ⟨er_, bl1_ HB GE151⟩
   ·replace c23 := Bool.eq_false_iff.mpr c23
    subst c23
    have H1 : ((spec_PlaneOf.f a0_0 l0_1 l0_2 a0_3 a0_4 a0_5 a0_6 a0_7 l0_8 a0_9 a1).bind fun t157 => ((spec_PlaneOf.f a0_0 l0_1 l0_2 a0_3 a0_4 a0_5 a0_6 a0_7 l0_8 a0_9 a2).bind fun t158 => ((spec_IsSite.f a0_0 l0_1 l0_2 a0_3 a0_4 a0_5 a0_6 a0_7 l0_8 a0_9 a1).bind fun t159 => (if t159 = true then (spec_LimitOf.j1 kj4 t157 t158 true a0_0 l0_1 l0_2 a0_3 a0_4 a0_5 a0_6 a0_7 l0_8 a0_9) else ((spec_IsSite.f a0_0 l0_1 l0_2 a0_3 a0_4 a0_5 a0_6 a0_7 l0_8 a0_9 a2).bind fun t160 => (spec_LimitOf.j1 kj4 t157 t158 t160 a0_0 l0_1 l0_2 a0_3 a0_4 a0_5 a0_6 a0_7 l0_8 a0_9)))))) = some r := by rw [if_neg (show ¬ (false = true) by decide)] at H; exact H
    clear H
    have H := H1
    clear H1
    replace H := bs_ H
    obtain ⟨t157, A24, H⟩ := H
    replace H := bs_ H
    obtain ⟨t158, A25, H⟩ := H
    have HC26 := Aside0.mk H
    clear H
    have hcz27 := cf10_ BK151
    go_upto_region 6 with (first | ((with_reducible refine gate_callee (f := 125) rfl ?_); refine gl_ 41 Try.func125 (spec_PlaneOf.calls a0_0 _ _ l0_1 _ _ l0_2 a0_3 a0_4 a0_5 a0_6 a0_7 _ _ l0_8 a0_9 a1 t157 _ (ck_ HR0_1 HB) HC0_1.out (ck_ HR0_2 HB) HC0_2.out (ck_ HR0_8 HB) HC0_8.out A24.out) ?_; rintro e w28 ⟨rfl, hb⟩; refine ⟨_, rfl, sh2_ (blk_below (bk_ BK151) hb) (below_step (bl1_ HB GE151) hb) ?_⟩; clear BK151 HB hb; intro BK151 HB; have hcz29 := cf10_ BK151) | ((with_reducible refine gate_callee (f := 125) rfl ?_); refine gl_ 44 Try.func125 (spec_PlaneOf.calls a0_0 _ _ l0_1 _ _ l0_2 a0_3 a0_4 a0_5 a0_6 a0_7 _ _ l0_8 a0_9 a2 t158 _ (ck_ HR0_1 HB) HC0_1.out (ck_ HR0_2 HB) HC0_2.out (ck_ HR0_8 HB) HC0_8.out A25.out) ?_; rintro e w30 ⟨rfl, hb⟩; refine ⟨_, rfl, sh2_ (blk_below (bk_ BK151) hb) (below_step (bl1_ HB GE151) hb) ?_⟩; clear BK151 HB hb; intro BK151 HB))
    (try simp only [Act.put, List.setIfInBounds_toArray, List.set_cons_zero, List.set_cons_succ])
    go_cut [45] (fun v45 wc => ∃ (kq : Nat) (x45_25 : Bool), v45 = .bool x45_25 ∧ Aside0 (spec_LimitOf.j1 kq t157 t158 x45_25 a0_0 l0_1 l0_2 a0_3 a0_4 a0_5 a0_6 a0_7 l0_8 a0_9 = some r) ∧ Aside0 (kq ≤ kj4) ∧ Aside0 (wc.heap[gb151]? = some (.cells #[.int .i64 a0_0, (.slice A0_1 l0_1.length c0_1), (.slice A0_2 l0_2.length c0_2), .int .i64 a0_3, .int .i64 a0_4, .int .i64 a0_5, .int .i64 a0_6, .int .i64 a0_7, (.slice A0_8 l0_8.length c0_8), .int .i64 a0_9] 34 (0, 0))) ∧ Aside0 (Below w.heap.size w wc))
    case first =>
     have H := HC26.out
     clear HC26
     replace H := bs_ H
     obtain ⟨t159, A31, H⟩ := H
     by_cases c32 : t159 = true
     ·subst c32
      rw [if_pos rfl] at H
      have H' := Aside0.mk H
      clear H
      have hcz33 := cf10_ BK151
      go_wp2_with (first | ((with_reducible refine gate_callee (f := 118) rfl ?_); refine gl_ 48 Try.func118 (spec_IsSite.calls a0_0 _ _ l0_1 _ _ l0_2 a0_3 a0_4 a0_5 a0_6 a0_7 _ _ l0_8 a0_9 a1 true _ (ck_ HR0_1 HB) HC0_1.out (ck_ HR0_2 HB) HC0_2.out (ck_ HR0_8 HB) HC0_8.out A31.out) ?_; rintro e w34 ⟨rfl, hb⟩; refine ⟨_, rfl, sh2_ (blk_below (bk_ BK151) hb) (below_step (bl1_ HB GE151) hb) ?_⟩; clear BK151 HB hb; intro BK151 HB))
      go_meet
      case rel => exact ⟨_, (true), (by first | rfl | (simp; done) | (simp [*]; done)), H', ⟨by have := HJ4.out; first | omega | exact Nat.le_refl _⟩, ⟨by (with_reducible repeat (first | refine blk_drewN ?_ _ | refine blk_drew ?_ | refine blk_alloc ?_ _)); exact BK151.out⟩, ⟨bl1_ HB GE151⟩⟩
     ·replace c32 := Bool.eq_false_iff.mpr c32
      subst c32
      have H1 : ((spec_IsSite.f a0_0 l0_1 l0_2 a0_3 a0_4 a0_5 a0_6 a0_7 l0_8 a0_9 a2).bind fun t160 => (spec_LimitOf.j1 kj4 t157 t158 t160 a0_0 l0_1 l0_2 a0_3 a0_4 a0_5 a0_6 a0_7 l0_8 a0_9)) = some r := by rw [if_neg (show ¬ (false = true) by decide)] at H; exact H
      clear H
      have H := H1
      clear H1
      replace H := bs_ H
      obtain ⟨t160, A35, H⟩ := H
      have H' := Aside0.mk H
      clear H
      have hcz36 := cf10_ BK151
      go_wp2_with (first | ((with_reducible refine gate_callee (f := 118) rfl ?_); refine gl_ 48 Try.func118 (spec_IsSite.calls a0_0 _ _ l0_1 _ _ l0_2 a0_3 a0_4 a0_5 a0_6 a0_7 _ _ l0_8 a0_9 a1 false _ (ck_ HR0_1 HB) HC0_1.out (ck_ HR0_2 HB) HC0_2.out (ck_ HR0_8 HB) HC0_8.out A31.out) ?_; rintro e w37 ⟨rfl, hb⟩; refine ⟨_, rfl, sh2_ (blk_below (bk_ BK151) hb) (below_step (bl1_ HB GE151) hb) ?_⟩; clear BK151 HB hb; intro BK151 HB; have hcz38 := cf10_ BK151) | (go_at_call 118; (with_reducible refine (spec_IsSite.calls a0_0 _ _ l0_1 _ _ l0_2 a0_3 a0_4 a0_5 a0_6 a0_7 _ _ l0_8 a0_9 a2 t160 _ ?side1 ?side2 ?side3 ?side4 ?side5 ?side6 A35.out).mono ?_); (case side1 => exact ck_ HR0_1 HB); (case side2 => exact HC0_1.out); (case side3 => exact ck_ HR0_2 HB); (case side4 => exact HC0_2.out); (case side5 => exact ck_ HR0_8 HB); (case side6 => exact HC0_8.out); rintro e w39 ⟨rfl, hb⟩; refine sh2_ (blk_below (bk_ BK151) hb) (below_step (bl1_ HB GE151) hb) ?_; clear BK151 HB hb; intro BK151 HB))
      go_meet
      case rel => exact ⟨_, (t160), (by first | rfl | (simp; done) | (simp [*]; done)), H', ⟨by have := HJ4.out; first | omega | exact Nat.le_refl _⟩, ⟨by (with_reducible repeat (first | refine blk_drewN ?_ _ | refine blk_drew ?_ | refine blk_alloc ?_ _)); exact BK151.out⟩, ⟨bl1_ HB GE151⟩⟩
    case rest =>
     clear HC26
     try clear c1
     try clear c2
     try clear p2
     try clear c3
     try clear c6
     try clear p6
     try clear c10
     try clear c11
     try clear c12
     try clear c13
     try clear c13b0
     try clear c13b1
     try clear c15
     try clear c23
     try clear c32
     try clear hcz17
     try clear hcz19
     try clear hcz21
     try clear hcz27
     try clear hcz29
     try clear hcz33
     try clear hcz36
     try clear hcz38
     try clear hcz7
     try clear p2
     try clear p6
     obtain ⟨kq, x45_25, rfl, HA, HJ25, BK151, HB⟩ := hcut
     cases kq with
     | zero => exact absurd HA.out (by simp [spec_LimitOf.j1])
     | succ kj25 =>
      have H := HA.out
      clear HA
      simp only [spec_LimitOf.j1] at H
      by_cases c40 : x45_25 = true
      ·subst c40
       rw [if_pos rfl] at H
       by_cases c41 : t157 = t158
       ·rw [if_pos c41] at H
        obtain ⟨c41b0, c41b1⟩ := bt_ c41
        clear c41
        obtain rfl := Option.some.inj H
        have hcz42 := cf10_ BK151
        go_wp2
        go_ret
        exact ⟨er_, bl1_ HB GE151⟩
       ·rw [if_neg c41] at H
        obtain ⟨c41b0, c41b1⟩ := bn_ c41
        replace H := bs_ H
        obtain ⟨t161, A43, H⟩ := H
        by_cases c44 : t161 = true
        ·subst c44
         rw [if_pos rfl] at H
         obtain rfl := Option.some.inj H
         have hcz45 := cf10_ BK151
         go_wp2_with (first | (go_at_call 126; (with_reducible refine (spec_l7Near.calls a0_0 _ _ l0_1 _ _ l0_2 a0_3 a0_4 a0_5 a0_6 a0_7 _ _ l0_8 a0_9 t157 t158 true _ ?side1 ?side2 ?side3 ?side4 ?side5 ?side6 A43.out).mono ?_); (case side1 => exact ck_ HR0_1 HB); (case side2 => exact HC0_1.out); (case side3 => exact ck_ HR0_2 HB); (case side4 => exact HC0_2.out); (case side5 => exact ck_ HR0_8 HB); (case side6 => exact HC0_8.out); rintro e w46 ⟨rfl, hb⟩; refine sh2_ (blk_below (bk_ BK151) hb) (below_step (bl1_ HB GE151) hb) ?_; clear BK151 HB hb; intro BK151 HB; have hcz47 := cf10_ BK151))
         go_ret
         exact ⟨er_, bl1_ HB GE151⟩
        ·replace c44 := Bool.eq_false_iff.mpr c44
         subst c44
         have H1 : (some (-1)) = some r := by rw [if_neg (show ¬ (false = true) by decide)] at H; exact H
         clear H
         have H := H1
         clear H1
         obtain rfl := Option.some.inj H
         have hcz48 := cf10_ BK151
         go_wp2_with (first | (go_at_call 126; (with_reducible refine (spec_l7Near.calls a0_0 _ _ l0_1 _ _ l0_2 a0_3 a0_4 a0_5 a0_6 a0_7 _ _ l0_8 a0_9 t157 t158 false _ ?side1 ?side2 ?side3 ?side4 ?side5 ?side6 A43.out).mono ?_); (case side1 => exact ck_ HR0_1 HB); (case side2 => exact HC0_1.out); (case side3 => exact ck_ HR0_2 HB); (case side4 => exact HC0_2.out); (case side5 => exact ck_ HR0_8 HB); (case side6 => exact HC0_8.out); rintro e w49 ⟨rfl, hb⟩; refine sh2_ (blk_below (bk_ BK151) hb) (below_step (bl1_ HB GE151) hb) ?_; clear BK151 HB hb; intro BK151 HB))
         go_ret
         exact ⟨er_, bl1_ HB GE151⟩
      ·replace c40 := Bool.eq_false_iff.mpr c40
       subst c40
       have H1 : (if t157 = t158 then (some a0_3) else ((spec_l7Near.f a0_0 l0_1 l0_2 a0_3 a0_4 a0_5 a0_6 a0_7 l0_8 a0_9 t157 t158).bind fun t162 => (if t162 = true then (some a0_4) else (some (-1))))) = some r := by rw [if_neg (show ¬ (false = true) by decide)] at H; exact H
       clear H
       have H := H1
       clear H1
       by_cases c50 : t157 = t158
       ·rw [if_pos c50] at H
        obtain ⟨c50b0, c50b1⟩ := bt_ c50
        clear c50
        obtain rfl := Option.some.inj H
        have hcz51 := cf10_ BK151
        go_wp2
        go_ret
        exact ⟨er_, bl1_ HB GE151⟩
       ·rw [if_neg c50] at H
        obtain ⟨c50b0, c50b1⟩ := bn_ c50
        replace H := bs_ H
        obtain ⟨t162, A52, H⟩ := H
        by_cases c53 : t162 = true
        ·subst c53
         rw [if_pos rfl] at H
         obtain rfl := Option.some.inj H
         have hcz54 := cf10_ BK151
         go_wp2_with (first | ((with_reducible refine gate_callee (f := 126) rfl ?_); refine gl_ 75 Try.func126 (spec_l7Near.calls a0_0 _ _ l0_1 _ _ l0_2 a0_3 a0_4 a0_5 a0_6 a0_7 _ _ l0_8 a0_9 t157 t158 true _ (ck_ HR0_1 HB) HC0_1.out (ck_ HR0_2 HB) HC0_2.out (ck_ HR0_8 HB) HC0_8.out A52.out) ?_; rintro e w55 ⟨rfl, hb⟩; refine ⟨_, rfl, sh2_ (blk_below (bk_ BK151) hb) (below_step (bl1_ HB GE151) hb) ?_⟩; clear BK151 HB hb; intro BK151 HB; have hcz56 := cf10_ BK151))
         go_ret
         exact ⟨er_, bl1_ HB GE151⟩
        ·replace c53 := Bool.eq_false_iff.mpr c53
         subst c53
         have H1 : (some (-1)) = some r := by rw [if_neg (show ¬ (false = true) by decide)] at H; exact H
         clear H
         have H := H1
         clear H1
         obtain rfl := Option.some.inj H
         have hcz57 := cf10_ BK151
         go_wp2_with (first | ((with_reducible refine gate_callee (f := 126) rfl ?_); refine gl_ 75 Try.func126 (spec_l7Near.calls a0_0 _ _ l0_1 _ _ l0_2 a0_3 a0_4 a0_5 a0_6 a0_7 _ _ l0_8 a0_9 t157 t158 false _ (ck_ HR0_1 HB) HC0_1.out (ck_ HR0_2 HB) HC0_2.out (ck_ HR0_8 HB) HC0_8.out A52.out) ?_; rintro e w58 ⟨rfl, hb⟩; refine ⟨_, rfl, sh2_ (blk_below (bk_ BK151) hb) (below_step (bl1_ HB GE151) hb) ?_⟩; clear BK151 HB hb; intro BK151 HB))
         go_ret
         exact ⟨er_, bl1_ HB GE151⟩

/-! ### spec_GapOf: function 111 -/
def spec_GapOf.f (a0 : Int) (a1 : Int) : Option (Int) := (spec_AngleOf.f a0).bind fun t163 => ((spec_AngleOf.f a1).bind fun t164 => ((spec_AngleOf.f (wrap64 (t163 - t164))).bind fun t165 => ((spec_Min.f t165 (wrap64 (360 - t165))).bind fun t166 => (some t166))))
set_option maxHeartbeats 8000000 in
set_option maxRecDepth 100000 in
theorem spec_GapOf.calls (a0 : Int) (a1 : Int) (r : Int) (w : World) (h : spec_GapOf.f a0 a1 = some r) :
  Calls Try.prog 111 #[.int .i64 a0, .int .i64 a1] w fun e w' => e = .returned (.int .i64 r) ∧ Drawn0 w w' := by
 have H := h
 clear h
 unfold spec_GapOf.f at H
 replace H := bs_ H
 obtain ⟨t163, A3, H⟩ := H
 replace H := bs_ H
 obtain ⟨t164, A4, H⟩ := H
 replace H := bs_ H
 obtain ⟨t165, A5, H⟩ := H
 replace H := bs_ H
 obtain ⟨t166, A6, H⟩ := H
 obtain rfl := Option.some.inj H
 go_enter Try.func111, Try.ntmps111
 go_wp2_with (first | ((with_reducible refine gate_callee (f := 127) rfl ?_); refine gl_ 7 Try.func127 (spec_AngleOf.calls a0 t163 _ A3.out) ?_; rintro e w' ⟨rfl, ⟨nd, rfl⟩⟩; refine ⟨_, rfl, ?_⟩) | ((with_reducible refine gate_callee (f := 127) rfl ?_); refine gl_ 9 Try.func127 (spec_AngleOf.calls a1 t164 _ A4.out) ?_; rintro e w' ⟨rfl, ⟨nd, rfl⟩⟩; refine ⟨_, rfl, ?_⟩) | ((with_reducible refine gate_callee (f := 127) rfl ?_); refine gl_ 11 Try.func127 (spec_AngleOf.calls (wrap64 (t163 - t164)) t165 _ A5.out) ?_; rintro e w' ⟨rfl, ⟨nd, rfl⟩⟩; refine ⟨_, rfl, ?_⟩) | ((with_reducible refine gate_callee (f := 99) rfl ?_); refine gl_ 15 Try.func99 (spec_Min.calls t165 (wrap64 (360 - t165)) t166 _ A6.out) ?_; rintro e w' ⟨rfl, ⟨nd, rfl⟩⟩; refine ⟨_, rfl, ?_⟩))
 go_ret
 exact ⟨by first | rfl | (simp; done) | (simp [*]; done), by repeat (first | exact Drawn0.refl _ | apply Drawn0.step)⟩

/-! ### spec_MiddleOf: function 112 -/
def spec_MiddleOf.f (a0_0 : Int) (a0_1 : Int) : Option (Int) := (spec_l1In.f a0_1 0 359).bind fun t168 => (if t168 = true then ((spec_AngleOf.f a0_0).bind fun t169 => ((spec_AngleOf.f (wrap64 (t169 + (wrap64 (Int.tdiv a0_1 2))))).bind fun t170 => (some t170))) else ((spec_AngleOf.f a0_0).bind fun t171 => (some t171)))
set_option maxHeartbeats 8000000 in
set_option maxRecDepth 100000 in
theorem spec_MiddleOf.calls (a0_0 : Int) (a0_1 : Int) (r : Int) (w : World) (h : spec_MiddleOf.f a0_0 a0_1 = some r) :
  Calls Try.prog 112 #[.agg #[.int .i64 a0_0, .int .i64 a0_1]] w fun e w' => e = .returned (.int .i64 r) ∧ Below w.heap.size w w' := by
 have hu113 := Try.underlying113
 have HB := Aside0.mk (Below.refl w.heap.size w)
 have H := h
 clear h
 unfold spec_MiddleOf.f at H
 replace H := bs_ H
 obtain ⟨t168, A2, H⟩ := H
 by_cases c3 : t168 = true
 ·subst c3
  rw [if_pos rfl] at H
  replace H := bs_ H
  obtain ⟨t169, A4, H⟩ := H
  replace H := bs_ H
  obtain ⟨t170, A5, H⟩ := H
  obtain rfl := Option.some.inj H
  go_enter Try.func112, Try.ntmps112
  go_wp2_with (first | ((with_reducible refine gd_ 1 ?_); refine bx_ 1 113 #[.int .i64 a0_0, .int .i64 a0_1] ?_; intro gb167 hg w6 hbox hb; refine sh3_ (below_step (bl_ HB) hb) hbox (ge_ hg (bl_ HB)) ?_; clear HB hb hbox hg; intro HB BK167 GE167; have hcz7 := cf2_ BK167) | (go_at_call 101; (with_reducible refine (spec_l1In.calls a0_1 0 359 true _ A2.out).mono ?_); rintro e w' ⟨rfl, ⟨nd, rfl⟩⟩; (try exact dd_)) | (go_at_call 127; (with_reducible refine (spec_AngleOf.calls a0_0 t169 _ A4.out).mono ?_); rintro e w' ⟨rfl, ⟨nd, rfl⟩⟩; (try exact dd_)) | (go_at_call 127; (with_reducible refine (spec_AngleOf.calls (wrap64 (t169 + (wrap64 (Int.tdiv a0_1 2)))) t170 _ A5.out).mono ?_); rintro e w' ⟨rfl, ⟨nd, rfl⟩⟩; (try exact dd_)))
  repeat (go_quiet (first | ((with_reducible refine gd_ 1 ?_); refine bx_ 1 113 #[.int .i64 a0_0, .int .i64 a0_1] ?_; intro gb167 hg w6 hbox hb; refine sh3_ (below_step (bl_ HB) hb) hbox (ge_ hg (bl_ HB)) ?_; clear HB hb hbox hg; intro HB BK167 GE167; have hcz7 := cf2_ BK167) | (go_at_call 101; (with_reducible refine (spec_l1In.calls a0_1 0 359 true _ A2.out).mono ?_); rintro e w' ⟨rfl, ⟨nd, rfl⟩⟩; (try exact dd_)) | (go_at_call 127; (with_reducible refine (spec_AngleOf.calls a0_0 t169 _ A4.out).mono ?_); rintro e w' ⟨rfl, ⟨nd, rfl⟩⟩; (try exact dd_)) | (go_at_call 127; (with_reducible refine (spec_AngleOf.calls (wrap64 (t169 + (wrap64 (Int.tdiv a0_1 2)))) t170 _ A5.out).mono ?_); rintro e w' ⟨rfl, ⟨nd, rfl⟩⟩; (try exact dd_))); try go_wp2_with (first | ((with_reducible refine gd_ 1 ?_); refine bx_ 1 113 #[.int .i64 a0_0, .int .i64 a0_1] ?_; intro gb167 hg w6 hbox hb; refine sh3_ (below_step (bl_ HB) hb) hbox (ge_ hg (bl_ HB)) ?_; clear HB hb hbox hg; intro HB BK167 GE167; have hcz7 := cf2_ BK167) | (go_at_call 101; (with_reducible refine (spec_l1In.calls a0_1 0 359 true _ A2.out).mono ?_); rintro e w' ⟨rfl, ⟨nd, rfl⟩⟩; (try exact dd_)) | (go_at_call 127; (with_reducible refine (spec_AngleOf.calls a0_0 t169 _ A4.out).mono ?_); rintro e w' ⟨rfl, ⟨nd, rfl⟩⟩; (try exact dd_)) | (go_at_call 127; (with_reducible refine (spec_AngleOf.calls (wrap64 (t169 + (wrap64 (Int.tdiv a0_1 2)))) t170 _ A5.out).mono ?_); rintro e w' ⟨rfl, ⟨nd, rfl⟩⟩; (try exact dd_))))
  go_ret
  exact ⟨er_, bl1_ HB GE167⟩
 ·replace c3 := Bool.eq_false_iff.mpr c3
  subst c3
  have H1 : ((spec_AngleOf.f a0_0).bind fun t171 => (some t171)) = some r := by rw [if_neg (show ¬ (false = true) by decide)] at H; exact H
  clear H
  have H := H1
  clear H1
  replace H := bs_ H
  obtain ⟨t171, A8, H⟩ := H
  obtain rfl := Option.some.inj H
  go_enter Try.func112, Try.ntmps112
  go_wp2_with (first | ((with_reducible refine gd_ 1 ?_); refine bx_ 1 113 #[.int .i64 a0_0, .int .i64 a0_1] ?_; intro gb167 hg w9 hbox hb; refine sh3_ (below_step (bl_ HB) hb) hbox (ge_ hg (bl_ HB)) ?_; clear HB hb hbox hg; intro HB BK167 GE167; have hcz10 := cf2_ BK167) | (go_at_call 101; (with_reducible refine (spec_l1In.calls a0_1 0 359 false _ A2.out).mono ?_); rintro e w' ⟨rfl, ⟨nd, rfl⟩⟩; (try exact dd_)) | (go_at_call 127; (with_reducible refine (spec_AngleOf.calls a0_0 t171 _ A8.out).mono ?_); rintro e w' ⟨rfl, ⟨nd, rfl⟩⟩; (try exact dd_)))
  repeat (go_quiet (first | ((with_reducible refine gd_ 1 ?_); refine bx_ 1 113 #[.int .i64 a0_0, .int .i64 a0_1] ?_; intro gb167 hg w9 hbox hb; refine sh3_ (below_step (bl_ HB) hb) hbox (ge_ hg (bl_ HB)) ?_; clear HB hb hbox hg; intro HB BK167 GE167; have hcz10 := cf2_ BK167) | (go_at_call 101; (with_reducible refine (spec_l1In.calls a0_1 0 359 false _ A2.out).mono ?_); rintro e w' ⟨rfl, ⟨nd, rfl⟩⟩; (try exact dd_)) | (go_at_call 127; (with_reducible refine (spec_AngleOf.calls a0_0 t171 _ A8.out).mono ?_); rintro e w' ⟨rfl, ⟨nd, rfl⟩⟩; (try exact dd_))); try go_wp2_with (first | ((with_reducible refine gd_ 1 ?_); refine bx_ 1 113 #[.int .i64 a0_0, .int .i64 a0_1] ?_; intro gb167 hg w9 hbox hb; refine sh3_ (below_step (bl_ HB) hb) hbox (ge_ hg (bl_ HB)) ?_; clear HB hb hbox hg; intro HB BK167 GE167; have hcz10 := cf2_ BK167) | (go_at_call 101; (with_reducible refine (spec_l1In.calls a0_1 0 359 false _ A2.out).mono ?_); rintro e w' ⟨rfl, ⟨nd, rfl⟩⟩; (try exact dd_)) | (go_at_call 127; (with_reducible refine (spec_AngleOf.calls a0_0 t171 _ A8.out).mono ?_); rintro e w' ⟨rfl, ⟨nd, rfl⟩⟩; (try exact dd_))))
  go_ret
  exact ⟨er_, bl1_ HB GE167⟩

end Go.Proofs.Ytcjfalmhohcifaa.PFnExactSpeakingSpans
