-- Written by a program of this session for this claim (the kit's printer with changes).
import Derived.Test.YtcjfalmhohcifaaQFnExactSpeakingSpansx0
namespace Go.Proofs.Ytcjfalmhohcifaa.PFnExactSpeakingSpans
open Go.RowKit Go.Proofs.YtcjfalmhohcifaaW.PrintWords Go.Proofs.YtcjfalmhohcifaaW.PrintLast Go.Proofs.YtcjfalmhohcifaaW.PrintMore
attribute [local go_sem] max2_int min2_int max_two min_two max_three min_three max_four min_four   -- for this text's walks alone
set_option linter.unusedVariables false
set_option linter.unusedSimpArgs false

/-! ### laws_szSatS: function 40 -/
def laws_szSatS.f (l0 : List (S107)) (a1 : Int) : Option (Int) := if (wrap64 (a1 - (l0.length : Int))) < 0 then (some (-1)) else (some (wrap64 (a1 - (l0.length : Int))))
set_option maxHeartbeats 8000000 in
set_option maxRecDepth 100000 in
theorem laws_szSatS.calls (A0 : Option Addr) (c0 : Nat) (l0 : List (S107)) (a1 : Int) (r : Int) (w : World) (hr0 : Kd.C k107 w A0 l0.length l0) (hc0 : l0.length ≤ c0) (h : laws_szSatS.f l0 a1 = some r) :
  Calls Try.prog 40 #[.slice A0 l0.length c0, .int .i64 a1] w fun e w' => e = .returned (.int .i64 r) ∧ Drawn0 w w' := by
 have HR0 := Aside0.mk hr0
 have HC0 := Aside0.mk hc0
 clear hr0 hc0
 have H := h
 clear h
 unfold laws_szSatS.f at H
 by_cases c3 : (wrap64 (a1 - (l0.length : Int))) < 0
 ·rw [if_pos c3] at H
  have c3b0 := decide_eq_true c3
  clear c3
  obtain rfl := Option.some.inj H
  go_enter Try.func40, Try.ntmps40
  go_wp2
  go_ret
  exact ⟨by first | rfl | (simp; done) | (simp [*]; done), by repeat (first | exact Drawn0.refl _ | apply Drawn0.step)⟩
 ·rw [if_neg c3] at H
  have c3b0 := decide_eq_false c3
  clear c3
  obtain rfl := Option.some.inj H
  go_enter Try.func40, Try.ntmps40
  go_wp2
  go_ret
  exact ⟨by first | rfl | (simp; done) | (simp [*]; done), by repeat (first | exact Drawn0.refl _ | apply Drawn0.step)⟩

/-! ### laws_szSiteS: function 41 -/
def laws_szSiteS.f (l0 : List (S111)) (a1 : Int) : Option (Int) := if (wrap64 (a1 - (l0.length : Int))) < 0 then (some (-1)) else (some (wrap64 (a1 - (l0.length : Int))))
set_option maxHeartbeats 8000000 in
set_option maxRecDepth 100000 in
theorem laws_szSiteS.calls (A0 : Option Addr) (c0 : Nat) (l0 : List (S111)) (a1 : Int) (r : Int) (w : World) (hr0 : Kd.C k111 w A0 l0.length l0) (hc0 : l0.length ≤ c0) (h : laws_szSiteS.f l0 a1 = some r) :
  Calls Try.prog 41 #[.slice A0 l0.length c0, .int .i64 a1] w fun e w' => e = .returned (.int .i64 r) ∧ Drawn0 w w' := by
 have HR0 := Aside0.mk hr0
 have HC0 := Aside0.mk hc0
 clear hr0 hc0
 have H := h
 clear h
 unfold laws_szSiteS.f at H
 by_cases c3 : (wrap64 (a1 - (l0.length : Int))) < 0
 ·rw [if_pos c3] at H
  have c3b0 := decide_eq_true c3
  clear c3
  obtain rfl := Option.some.inj H
  go_enter Try.func41, Try.ntmps41
  go_wp2
  go_ret
  exact ⟨by first | rfl | (simp; done) | (simp [*]; done), by repeat (first | exact Drawn0.refl _ | apply Drawn0.step)⟩
 ·rw [if_neg c3] at H
  have c3b0 := decide_eq_false c3
  clear c3
  obtain rfl := Option.some.inj H
  go_enter Try.func41, Try.ntmps41
  go_wp2
  go_ret
  exact ⟨by first | rfl | (simp; done) | (simp [*]; done), by repeat (first | exact Drawn0.refl _ | apply Drawn0.step)⟩

/-! ### laws_szZoneS: function 42 -/
def laws_szZoneS.f (l0 : List (S119)) (a1 : Int) : Option (Int) := if (wrap64 (a1 - (l0.length : Int))) < 0 then (some (-1)) else (some (wrap64 (a1 - (l0.length : Int))))
set_option maxHeartbeats 8000000 in
set_option maxRecDepth 100000 in
theorem laws_szZoneS.calls (A0 : Option Addr) (c0 : Nat) (l0 : List (S119)) (a1 : Int) (r : Int) (w : World) (hr0 : Kd.C k119 w A0 l0.length l0) (hc0 : l0.length ≤ c0) (h : laws_szZoneS.f l0 a1 = some r) :
  Calls Try.prog 42 #[.slice A0 l0.length c0, .int .i64 a1] w fun e w' => e = .returned (.int .i64 r) ∧ Drawn0 w w' := by
 have HR0 := Aside0.mk hr0
 have HC0 := Aside0.mk hc0
 clear hr0 hc0
 have H := h
 clear h
 unfold laws_szZoneS.f at H
 by_cases c3 : (wrap64 (a1 - (l0.length : Int))) < 0
 ·rw [if_pos c3] at H
  have c3b0 := decide_eq_true c3
  clear c3
  obtain rfl := Option.some.inj H
  go_enter Try.func42, Try.ntmps42
  go_wp2
  go_ret
  exact ⟨by first | rfl | (simp; done) | (simp [*]; done), by repeat (first | exact Drawn0.refl _ | apply Drawn0.step)⟩
 ·rw [if_neg c3] at H
  have c3b0 := decide_eq_false c3
  clear c3
  obtain rfl := Option.some.inj H
  go_enter Try.func42, Try.ntmps42
  go_wp2
  go_ret
  exact ⟨by first | rfl | (simp; done) | (simp [*]; done), by repeat (first | exact Drawn0.refl _ | apply Drawn0.step)⟩

/-! ### laws_szSky: function 9 -/
def laws_szSky.f (a0_0 : Int) (l0_1 : List (S107)) (l0_2 : List (S111)) (a0_3 : Int) (a0_4 : Int) (a0_5 : Int) (a0_6 : Int) (a0_7 : Int) (l0_8 : List (S119)) (a0_9 : Int) (a1 : Int) : Option (Int) := (laws_szSatS.f l0_1 a1).bind fun t102 => (if t102 < 0 then (some (-1)) else ((laws_szSiteS.f l0_2 t102).bind fun t103 => (if t103 < 0 then (some (-1)) else ((laws_szZoneS.f l0_8 t103).bind fun t104 => (if t104 < 0 then (some (-1)) else (some t104))))))
set_option maxHeartbeats 8000000 in
set_option maxRecDepth 100000 in
theorem laws_szSky.calls (a0_0 : Int) (A0_1 : Option Addr) (c0_1 : Nat) (l0_1 : List (S107)) (A0_2 : Option Addr) (c0_2 : Nat) (l0_2 : List (S111)) (a0_3 : Int) (a0_4 : Int) (a0_5 : Int) (a0_6 : Int) (a0_7 : Int) (A0_8 : Option Addr) (c0_8 : Nat) (l0_8 : List (S119)) (a0_9 : Int) (a1 : Int) (r : Int) (w : World) (hr0_1 : Kd.C k107 w A0_1 l0_1.length l0_1) (hc0_1 : l0_1.length ≤ c0_1) (hr0_2 : Kd.C k111 w A0_2 l0_2.length l0_2) (hc0_2 : l0_2.length ≤ c0_2) (hr0_8 : Kd.C k119 w A0_8 l0_8.length l0_8) (hc0_8 : l0_8.length ≤ c0_8) (h : laws_szSky.f a0_0 l0_1 l0_2 a0_3 a0_4 a0_5 a0_6 a0_7 l0_8 a0_9 a1 = some r) :
  Calls Try.prog 9 #[.agg #[.int .i64 a0_0, .slice A0_1 l0_1.length c0_1, .slice A0_2 l0_2.length c0_2, .int .i64 a0_3, .int .i64 a0_4, .int .i64 a0_5, .int .i64 a0_6, .int .i64 a0_7, .slice A0_8 l0_8.length c0_8, .int .i64 a0_9], .int .i64 a1] w fun e w' => e = .returned (.int .i64 r) ∧ Below w.heap.size w w' := by
 have hu26 := Try.underlying26
 have HR0_1 := Aside0.mk hr0_1
 have HC0_1 := Aside0.mk hc0_1
 clear hr0_1 hc0_1
 have HR0_2 := Aside0.mk hr0_2
 have HC0_2 := Aside0.mk hc0_2
 clear hr0_2 hc0_2
 have HR0_8 := Aside0.mk hr0_8
 have HC0_8 := Aside0.mk hc0_8
 clear hr0_8 hc0_8
 have HB := Aside0.mk (Below.refl w.heap.size w)
 have H := h
 clear h
 unfold laws_szSky.f at H
 replace H := bs_ H
 obtain ⟨t102, A3, H⟩ := H
 by_cases c4 : t102 < 0
 ·rw [if_pos c4] at H
  have c4b0 := decide_eq_true c4
  clear c4
  obtain rfl := Option.some.inj H
  go_enter Try.func9, Try.ntmps9
  go_wp2_with (first | ((with_reducible refine gd_ 2 ?_); refine bx_ 2 26 #[.int .i64 a0_0, .slice A0_1 l0_1.length c0_1, .slice A0_2 l0_2.length c0_2, .int .i64 a0_3, .int .i64 a0_4, .int .i64 a0_5, .int .i64 a0_6, .int .i64 a0_7, .slice A0_8 l0_8.length c0_8, .int .i64 a0_9] ?_; intro gb101 hg w5 hbox hb; refine sh3_ (below_step (bl_ HB) hb) hbox (ge_ hg (bl_ HB)) ?_; clear HB hb hbox hg; intro HB BK101 GE101; have hcz6 := cf10_ BK101) | ((with_reducible refine gate_callee (f := 40) rfl ?_); refine gl_ 8 Try.func40 (laws_szSatS.calls _ _ l0_1 a1 t102 _ (ck_ HR0_1 HB) HC0_1.out A3.out) ?_; rintro e w' ⟨rfl, ⟨nd, rfl⟩⟩; refine ⟨_, rfl, ?_⟩))
  go_ret
  exact ⟨er_, bl1_ HB GE101⟩
 ·rw [if_neg c4] at H
  have c4b0 := decide_eq_false c4
  clear c4
  replace H := bs_ H
  obtain ⟨t103, A7, H⟩ := H
  by_cases c8 : t103 < 0
  ·rw [if_pos c8] at H
   have c8b0 := decide_eq_true c8
   clear c8
   obtain rfl := Option.some.inj H
   go_enter Try.func9, Try.ntmps9
   go_wp2_with (first | ((with_reducible refine gd_ 2 ?_); refine bx_ 2 26 #[.int .i64 a0_0, .slice A0_1 l0_1.length c0_1, .slice A0_2 l0_2.length c0_2, .int .i64 a0_3, .int .i64 a0_4, .int .i64 a0_5, .int .i64 a0_6, .int .i64 a0_7, .slice A0_8 l0_8.length c0_8, .int .i64 a0_9] ?_; intro gb101 hg w9 hbox hb; refine sh3_ (below_step (bl_ HB) hb) hbox (ge_ hg (bl_ HB)) ?_; clear HB hb hbox hg; intro HB BK101 GE101; have hcz10 := cf10_ BK101) | ((with_reducible refine gate_callee (f := 40) rfl ?_); refine gl_ 8 Try.func40 (laws_szSatS.calls _ _ l0_1 a1 t102 _ (ck_ HR0_1 HB) HC0_1.out A3.out) ?_; rintro e w' ⟨rfl, ⟨nd, rfl⟩⟩; refine ⟨_, rfl, ?_⟩) | ((with_reducible refine gate_callee (f := 41) rfl ?_); refine goesL_ (some 14) rfl rfl Try.func41 (by kernel_rfl) rfl #[.slice A0_2 l0_2.length c0_2, .int .i64 t102] rfl mp_ ?_; (with_reducible refine (laws_szSiteS.calls _ _ l0_2 t102 t103 _ ?side1 ?side2 A7.out).mono ?_); (case side1 => repeat (first | exact (Kd.C_below HR0_2.out (bl1_ HB GE101)) | (with_reducible refine Kd.C_alloc ?_ _) | (with_reducible refine Kd.C_drewN ?_ _) | (with_reducible refine Kd.C_drew ?_))); (case side2 => exact HC0_2.out); rintro e w' ⟨rfl, ⟨nd, rfl⟩⟩; refine ⟨_, rfl, ?_⟩))
   go_ret
   exact ⟨er_, bl1_ HB GE101⟩
  ·rw [if_neg c8] at H
   have c8b0 := decide_eq_false c8
   clear c8
   replace H := bs_ H
   obtain ⟨t104, A11, H⟩ := H
   by_cases c12 : t104 < 0
   ·rw [if_pos c12] at H
    have c12b0 := decide_eq_true c12
    clear c12
    obtain rfl := Option.some.inj H
    go_enter Try.func9, Try.ntmps9
    go_wp2_with (first | ((with_reducible refine gd_ 2 ?_); refine bx_ 2 26 #[.int .i64 a0_0, .slice A0_1 l0_1.length c0_1, .slice A0_2 l0_2.length c0_2, .int .i64 a0_3, .int .i64 a0_4, .int .i64 a0_5, .int .i64 a0_6, .int .i64 a0_7, .slice A0_8 l0_8.length c0_8, .int .i64 a0_9] ?_; intro gb101 hg w13 hbox hb; refine sh3_ (below_step (bl_ HB) hb) hbox (ge_ hg (bl_ HB)) ?_; clear HB hb hbox hg; intro HB BK101 GE101; have hcz14 := cf10_ BK101) | ((with_reducible refine gate_callee (f := 40) rfl ?_); refine gl_ 8 Try.func40 (laws_szSatS.calls _ _ l0_1 a1 t102 _ (ck_ HR0_1 HB) HC0_1.out A3.out) ?_; rintro e w' ⟨rfl, ⟨nd, rfl⟩⟩; refine ⟨_, rfl, ?_⟩) | ((with_reducible refine gate_callee (f := 41) rfl ?_); refine goesL_ (some 14) rfl rfl Try.func41 (by kernel_rfl) rfl #[.slice A0_2 l0_2.length c0_2, .int .i64 t102] rfl mp_ ?_; (with_reducible refine (laws_szSiteS.calls _ _ l0_2 t102 t103 _ ?side1 ?side2 A7.out).mono ?_); (case side1 => repeat (first | exact (Kd.C_below HR0_2.out (bl1_ HB GE101)) | (with_reducible refine Kd.C_alloc ?_ _) | (with_reducible refine Kd.C_drewN ?_ _) | (with_reducible refine Kd.C_drew ?_))); (case side2 => exact HC0_2.out); rintro e w' ⟨rfl, ⟨nd, rfl⟩⟩; refine ⟨_, rfl, ?_⟩) | ((with_reducible refine gate_callee (f := 42) rfl ?_); refine goesL_ (some 20) rfl rfl Try.func42 (by kernel_rfl) rfl #[.slice A0_8 l0_8.length c0_8, .int .i64 t103] rfl mp_ ?_; (with_reducible refine (laws_szZoneS.calls _ _ l0_8 t103 t104 _ ?side1 ?side2 A11.out).mono ?_); (case side1 => repeat (first | exact (Kd.C_below HR0_8.out (bl1_ HB GE101)) | (with_reducible refine Kd.C_alloc ?_ _) | (with_reducible refine Kd.C_drewN ?_ _) | (with_reducible refine Kd.C_drew ?_))); (case side2 => exact HC0_8.out); rintro e w' ⟨rfl, ⟨nd, rfl⟩⟩; refine ⟨_, rfl, ?_⟩))
    go_ret
    exact ⟨er_, bl1_ HB GE101⟩
   ·rw [if_neg c12] at H
    have c12b0 := decide_eq_false c12
    clear c12
    obtain rfl := Option.some.inj H
    go_enter Try.func9, Try.ntmps9
    go_wp2_with (first | ((with_reducible refine gd_ 2 ?_); refine bx_ 2 26 #[.int .i64 a0_0, .slice A0_1 l0_1.length c0_1, .slice A0_2 l0_2.length c0_2, .int .i64 a0_3, .int .i64 a0_4, .int .i64 a0_5, .int .i64 a0_6, .int .i64 a0_7, .slice A0_8 l0_8.length c0_8, .int .i64 a0_9] ?_; intro gb101 hg w15 hbox hb; refine sh3_ (below_step (bl_ HB) hb) hbox (ge_ hg (bl_ HB)) ?_; clear HB hb hbox hg; intro HB BK101 GE101; have hcz16 := cf10_ BK101) | ((with_reducible refine gate_callee (f := 40) rfl ?_); refine gl_ 8 Try.func40 (laws_szSatS.calls _ _ l0_1 a1 t102 _ (ck_ HR0_1 HB) HC0_1.out A3.out) ?_; rintro e w' ⟨rfl, ⟨nd, rfl⟩⟩; refine ⟨_, rfl, ?_⟩) | ((with_reducible refine gate_callee (f := 41) rfl ?_); refine goesL_ (some 14) rfl rfl Try.func41 (by kernel_rfl) rfl #[.slice A0_2 l0_2.length c0_2, .int .i64 t102] rfl mp_ ?_; (with_reducible refine (laws_szSiteS.calls _ _ l0_2 t102 t103 _ ?side1 ?side2 A7.out).mono ?_); (case side1 => repeat (first | exact (Kd.C_below HR0_2.out (bl1_ HB GE101)) | (with_reducible refine Kd.C_alloc ?_ _) | (with_reducible refine Kd.C_drewN ?_ _) | (with_reducible refine Kd.C_drew ?_))); (case side2 => exact HC0_2.out); rintro e w' ⟨rfl, ⟨nd, rfl⟩⟩; refine ⟨_, rfl, ?_⟩) | ((with_reducible refine gate_callee (f := 42) rfl ?_); refine goesL_ (some 20) rfl rfl Try.func42 (by kernel_rfl) rfl #[.slice A0_8 l0_8.length c0_8, .int .i64 t103] rfl mp_ ?_; (with_reducible refine (laws_szZoneS.calls _ _ l0_8 t103 t104 _ ?side1 ?side2 A11.out).mono ?_); (case side1 => repeat (first | exact (Kd.C_below HR0_8.out (bl1_ HB GE101)) | (with_reducible refine Kd.C_alloc ?_ _) | (with_reducible refine Kd.C_drewN ?_ _) | (with_reducible refine Kd.C_drew ?_))); (case side2 => exact HC0_8.out); rintro e w' ⟨rfl, ⟨nd, rfl⟩⟩; refine ⟨_, rfl, ?_⟩))
    go_ret
    exact ⟨er_, bl1_ HB GE101⟩

/-! ### spec_l1In: function 101 -/
def spec_l1In.f (a0 : Int) (a1 : Int) (a2 : Int) : Option (Bool) := if a0 ≥ a1 then (some (decide (a0 ≤ a2))) else (some false)
set_option maxHeartbeats 8000000 in
set_option maxRecDepth 100000 in
theorem spec_l1In.calls (a0 : Int) (a1 : Int) (a2 : Int) (r : Bool) (w : World) (h : spec_l1In.f a0 a1 a2 = some r) :
  Calls Try.prog 101 #[.int .i64 a0, .int .i64 a1, .int .i64 a2] w fun e w' => e = .returned (.bool r) ∧ Drawn0 w w' := by
 have H := h
 clear h
 unfold spec_l1In.f at H
 by_cases c4 : a0 ≥ a1
 ·rw [if_pos c4] at H
  have c4b0 : decide (a1 ≤ a0) = true := decide_eq_true c4
  clear c4
  obtain rfl := Option.some.inj H
  go_enter Try.func101, Try.ntmps101
  go_wp2
  go_ret
  exact ⟨by first | rfl | (simp; done) | (simp [*]; done), by repeat (first | exact Drawn0.refl _ | apply Drawn0.step)⟩
 ·rw [if_neg c4] at H
  have c4b0 : decide (a1 ≤ a0) = false := decide_eq_false c4
  clear c4
  obtain rfl := Option.some.inj H
  go_enter Try.func101, Try.ntmps101
  go_wp2
  go_ret
  exact ⟨by first | rfl | (simp; done) | (simp [*]; done), by repeat (first | exact Drawn0.refl _ | apply Drawn0.step)⟩

/-! ### spec_Mod: function 136 -/
def spec_Mod.f (a0 : Int) (a1 : Int) : Option (Int) := (spec_l1In.f a1 1 1000000000000).bind fun t105 => (if t105 = true then (if a1 = 0 then (none) else (some (Int.tmod (wrap64 ((Int.tmod a0 a1) + a1)) a1))) else (some 0))
set_option maxHeartbeats 8000000 in
set_option maxRecDepth 100000 in
theorem spec_Mod.calls (a0 : Int) (a1 : Int) (r : Int) (w : World) (h : spec_Mod.f a0 a1 = some r) :
  Calls Try.prog 136 #[.int .i64 a0, .int .i64 a1] w fun e w' => e = .returned (.int .i64 r) ∧ Drawn0 w w' := by
 have H := h
 clear h
 unfold spec_Mod.f at H
 replace H := bs_ H
 obtain ⟨t105, A3, H⟩ := H
 by_cases c4 : t105 = true
 ·subst c4
  rw [if_pos rfl] at H
  by_cases c5 : a1 = 0
  ·rw [if_pos c5] at H
   exact absurd H (by simp)
  ·rw [if_neg c5] at H
   obtain ⟨c5b0, c5b1⟩ := bn_ c5
   obtain rfl := Option.some.inj H
   go_enter Try.func136, Try.ntmps136
   go_wp2_with (first | ((with_reducible refine gate_callee (f := 101) rfl ?_); refine gl_ 6 Try.func101 (spec_l1In.calls a1 1 1000000000000 true _ A3.out) ?_; rintro e w' ⟨rfl, ⟨nd, rfl⟩⟩; refine ⟨_, rfl, ?_⟩))
   go_ret
   exact ⟨by first | rfl | (simp; done) | (simp [*]; done), by repeat (first | exact Drawn0.refl _ | apply Drawn0.step)⟩
 ·replace c4 := Bool.eq_false_iff.mpr c4
  subst c4
  have H1 : (some 0) = some r := by rw [if_neg (show ¬ (false = true) by decide)] at H; exact H
  clear H
  have H := H1
  clear H1
  obtain rfl := Option.some.inj H
  go_enter Try.func136, Try.ntmps136
  go_wp2_with (first | ((with_reducible refine gate_callee (f := 101) rfl ?_); refine gl_ 6 Try.func101 (spec_l1In.calls a1 1 1000000000000 false _ A3.out) ?_; rintro e w' ⟨rfl, ⟨nd, rfl⟩⟩; refine ⟨_, rfl, ?_⟩))
  go_ret
  exact ⟨by first | rfl | (simp; done) | (simp [*]; done), by repeat (first | exact Drawn0.refl _ | apply Drawn0.step)⟩

/-! ### spec_AngleOf: function 127 -/
def spec_AngleOf.f (a0 : Int) : Option (Int) := (spec_Mod.f a0 360).bind fun t106 => (some t106)
set_option maxHeartbeats 8000000 in
set_option maxRecDepth 100000 in
theorem spec_AngleOf.calls (a0 : Int) (r : Int) (w : World) (h : spec_AngleOf.f a0 = some r) :
  Calls Try.prog 127 #[.int .i64 a0] w fun e w' => e = .returned (.int .i64 r) ∧ Drawn0 w w' := by
 have H := h
 clear h
 unfold spec_AngleOf.f at H
 replace H := bs_ H
 obtain ⟨t106, A2, H⟩ := H
 obtain rfl := Option.some.inj H
 go_enter Try.func127, Try.ntmps127
 go_wp2_with (first | ((with_reducible refine gate_callee (f := 136) rfl ?_); refine gl_ 4 Try.func136 (spec_Mod.calls a0 360 t106 _ A2.out) ?_; rintro e w' ⟨rfl, ⟨nd, rfl⟩⟩; refine ⟨_, rfl, ?_⟩))
 go_ret
 exact ⟨by first | rfl | (simp; done) | (simp [*]; done), by repeat (first | exact Drawn0.refl _ | apply Drawn0.step)⟩

/-! ### spec_l6Speed: function 133 -/
def spec_l6Speed.f (a0 : Int) : Option (Int) := (spec_l1In.f a0 (-60) 60).bind fun t107 => (if t107 = true then (some a0) else (some 0))
set_option maxHeartbeats 8000000 in
set_option maxRecDepth 100000 in
theorem spec_l6Speed.calls (a0 : Int) (r : Int) (w : World) (h : spec_l6Speed.f a0 = some r) :
  Calls Try.prog 133 #[.int .i64 a0] w fun e w' => e = .returned (.int .i64 r) ∧ Drawn0 w w' := by
 have H := h
 clear h
 unfold spec_l6Speed.f at H
 replace H := bs_ H
 obtain ⟨t107, A2, H⟩ := H
 by_cases c3 : t107 = true
 ·subst c3
  rw [if_pos rfl] at H
  obtain rfl := Option.some.inj H
  go_enter Try.func133, Try.ntmps133
  go_wp2_with (first | ((with_reducible refine gate_callee (f := 101) rfl ?_); refine gl_ 4 Try.func101 (spec_l1In.calls a0 (-60) 60 true _ A2.out) ?_; rintro e w' ⟨rfl, ⟨nd, rfl⟩⟩; refine ⟨_, rfl, ?_⟩))
  go_ret
  exact ⟨by first | rfl | (simp; done) | (simp [*]; done), by repeat (first | exact Drawn0.refl _ | apply Drawn0.step)⟩
 ·replace c3 := Bool.eq_false_iff.mpr c3
  subst c3
  have H1 : (some 0) = some r := by rw [if_neg (show ¬ (false = true) by decide)] at H; exact H
  clear H
  have H := H1
  clear H1
  obtain rfl := Option.some.inj H
  go_enter Try.func133, Try.ntmps133
  go_wp2_with (first | ((with_reducible refine gate_callee (f := 101) rfl ?_); refine gl_ 4 Try.func101 (spec_l1In.calls a0 (-60) 60 false _ A2.out) ?_; rintro e w' ⟨rfl, ⟨nd, rfl⟩⟩; refine ⟨_, rfl, ?_⟩))
  go_ret
  exact ⟨by first | rfl | (simp; done) | (simp [*]; done), by repeat (first | exact Drawn0.refl _ | apply Drawn0.step)⟩

/-! ### spec_PlaceAt: function 119 -/
def spec_PlaceAt.f (a0_0 : Int) (a0_1 : Int) (a0_2 : Int) (a0_3 : Int) (a1 : Int) : Option (Int) := (spec_l1In.f a1 0 1000).bind fun t109 => (if t109 = true then ((spec_AngleOf.f a0_1).bind fun t110 => ((spec_l6Speed.f a0_2).bind fun t111 => ((spec_AngleOf.f (wrap64 (t110 + (wrap64 (t111 * a1))))).bind fun t112 => (some t112)))) else ((spec_AngleOf.f a0_1).bind fun t113 => ((spec_l6Speed.f a0_2).bind fun t114 => ((spec_AngleOf.f (wrap64 (t113))).bind fun t115 => (some t115)))))
set_option maxHeartbeats 8000000 in
set_option maxRecDepth 100000 in
theorem spec_PlaceAt.calls (a0_0 : Int) (a0_1 : Int) (a0_2 : Int) (a0_3 : Int) (a1 : Int) (r : Int) (w : World) (h : spec_PlaceAt.f a0_0 a0_1 a0_2 a0_3 a1 = some r) :
  Calls Try.prog 119 #[.agg #[.int .i64 a0_0, .int .i64 a0_1, .int .i64 a0_2, .int .i64 a0_3], .int .i64 a1] w fun e w' => e = .returned (.int .i64 r) ∧ Below w.heap.size w w' := by
 have hu105 := Try.underlying105
 have HB := Aside0.mk (Below.refl w.heap.size w)
 have H := h
 clear h
 unfold spec_PlaceAt.f at H
 replace H := bs_ H
 obtain ⟨t109, A3, H⟩ := H
 by_cases c4 : t109 = true
 ·subst c4
  rw [if_pos rfl] at H
  replace H := bs_ H
  obtain ⟨t110, A5, H⟩ := H
  replace H := bs_ H
  obtain ⟨t111, A6, H⟩ := H
  replace H := bs_ H
  obtain ⟨t112, A7, H⟩ := H
  obtain rfl := Option.some.inj H
  go_enter Try.func119, Try.ntmps119
  go_wp2_with (first | ((with_reducible refine gd_ 2 ?_); refine bx_ 2 105 #[.int .i64 a0_0, .int .i64 a0_1, .int .i64 a0_2, .int .i64 a0_3] ?_; intro gb108 hg w8 hbox hb; refine sh3_ (below_step (bl_ HB) hb) hbox (ge_ hg (bl_ HB)) ?_; clear HB hb hbox hg; intro HB BK108 GE108) | (go_at_call 101; (with_reducible refine (spec_l1In.calls a1 0 1000 true _ A3.out).mono ?_); rintro e w' ⟨rfl, ⟨nd, rfl⟩⟩; (try exact dd_); have hcz9 := cf4_ BK108) | (go_at_call 127; (with_reducible refine (spec_AngleOf.calls a0_1 t110 _ A5.out).mono ?_); rintro e w' ⟨rfl, ⟨nd, rfl⟩⟩; (try exact dd_)) | (go_at_call 133; (with_reducible refine (spec_l6Speed.calls a0_2 t111 _ A6.out).mono ?_); rintro e w' ⟨rfl, ⟨nd, rfl⟩⟩; (try exact dd_)) | (go_at_call 127; (with_reducible refine (spec_AngleOf.calls (wrap64 (t110 + (wrap64 (t111 * a1)))) t112 _ A7.out).mono ?_); rintro e w' ⟨rfl, ⟨nd, rfl⟩⟩; (try exact dd_)))
  repeat (go_quiet (first | ((with_reducible refine gd_ 2 ?_); refine bx_ 2 105 #[.int .i64 a0_0, .int .i64 a0_1, .int .i64 a0_2, .int .i64 a0_3] ?_; intro gb108 hg w8 hbox hb; refine sh3_ (below_step (bl_ HB) hb) hbox (ge_ hg (bl_ HB)) ?_; clear HB hb hbox hg; intro HB BK108 GE108) | (go_at_call 101; (with_reducible refine (spec_l1In.calls a1 0 1000 true _ A3.out).mono ?_); rintro e w' ⟨rfl, ⟨nd, rfl⟩⟩; (try exact dd_); have hcz9 := cf4_ BK108) | (go_at_call 127; (with_reducible refine (spec_AngleOf.calls a0_1 t110 _ A5.out).mono ?_); rintro e w' ⟨rfl, ⟨nd, rfl⟩⟩; (try exact dd_)) | (go_at_call 133; (with_reducible refine (spec_l6Speed.calls a0_2 t111 _ A6.out).mono ?_); rintro e w' ⟨rfl, ⟨nd, rfl⟩⟩; (try exact dd_)) | (go_at_call 127; (with_reducible refine (spec_AngleOf.calls (wrap64 (t110 + (wrap64 (t111 * a1)))) t112 _ A7.out).mono ?_); rintro e w' ⟨rfl, ⟨nd, rfl⟩⟩; (try exact dd_))); try go_wp2_with (first | ((with_reducible refine gd_ 2 ?_); refine bx_ 2 105 #[.int .i64 a0_0, .int .i64 a0_1, .int .i64 a0_2, .int .i64 a0_3] ?_; intro gb108 hg w8 hbox hb; refine sh3_ (below_step (bl_ HB) hb) hbox (ge_ hg (bl_ HB)) ?_; clear HB hb hbox hg; intro HB BK108 GE108) | (go_at_call 101; (with_reducible refine (spec_l1In.calls a1 0 1000 true _ A3.out).mono ?_); rintro e w' ⟨rfl, ⟨nd, rfl⟩⟩; (try exact dd_); have hcz9 := cf4_ BK108) | (go_at_call 127; (with_reducible refine (spec_AngleOf.calls a0_1 t110 _ A5.out).mono ?_); rintro e w' ⟨rfl, ⟨nd, rfl⟩⟩; (try exact dd_)) | (go_at_call 133; (with_reducible refine (spec_l6Speed.calls a0_2 t111 _ A6.out).mono ?_); rintro e w' ⟨rfl, ⟨nd, rfl⟩⟩; (try exact dd_)) | (go_at_call 127; (with_reducible refine (spec_AngleOf.calls (wrap64 (t110 + (wrap64 (t111 * a1)))) t112 _ A7.out).mono ?_); rintro e w' ⟨rfl, ⟨nd, rfl⟩⟩; (try exact dd_))))
  go_ret
  exact ⟨er_, bl1_ HB GE108⟩
 ·replace c4 := Bool.eq_false_iff.mpr c4
  subst c4
  have H1 : ((spec_AngleOf.f a0_1).bind fun t113 => ((spec_l6Speed.f a0_2).bind fun t114 => ((spec_AngleOf.f (wrap64 (t113))).bind fun t115 => (some t115)))) = some r := by rw [if_neg (show ¬ (false = true) by decide)] at H; exact H
  clear H
  have H := H1
  clear H1
  replace H := bs_ H
  obtain ⟨t113, A10, H⟩ := H
  replace H := bs_ H
  obtain ⟨t114, A11, H⟩ := H
  replace H := bs_ H
  obtain ⟨t115, A12, H⟩ := H
  obtain rfl := Option.some.inj H
  go_enter Try.func119, Try.ntmps119
  go_wp2_with (first | ((with_reducible refine gd_ 2 ?_); refine bx_ 2 105 #[.int .i64 a0_0, .int .i64 a0_1, .int .i64 a0_2, .int .i64 a0_3] ?_; intro gb108 hg w13 hbox hb; refine sh3_ (below_step (bl_ HB) hb) hbox (ge_ hg (bl_ HB)) ?_; clear HB hb hbox hg; intro HB BK108 GE108) | (go_at_call 101; (with_reducible refine (spec_l1In.calls a1 0 1000 false _ A3.out).mono ?_); rintro e w' ⟨rfl, ⟨nd, rfl⟩⟩; (try exact dd_); have hcz14 := cf4_ BK108) | (go_at_call 127; (with_reducible refine (spec_AngleOf.calls a0_1 t113 _ A10.out).mono ?_); rintro e w' ⟨rfl, ⟨nd, rfl⟩⟩; (try exact dd_)) | (go_at_call 133; (with_reducible refine (spec_l6Speed.calls a0_2 t114 _ A11.out).mono ?_); rintro e w' ⟨rfl, ⟨nd, rfl⟩⟩; (try exact dd_)) | (go_at_call 127; (with_reducible refine (spec_AngleOf.calls (wrap64 (t113)) t115 _ A12.out).mono ?_); rintro e w' ⟨rfl, ⟨nd, rfl⟩⟩; (try exact dd_)))
  repeat (go_quiet (first | ((with_reducible refine gd_ 2 ?_); refine bx_ 2 105 #[.int .i64 a0_0, .int .i64 a0_1, .int .i64 a0_2, .int .i64 a0_3] ?_; intro gb108 hg w13 hbox hb; refine sh3_ (below_step (bl_ HB) hb) hbox (ge_ hg (bl_ HB)) ?_; clear HB hb hbox hg; intro HB BK108 GE108) | (go_at_call 101; (with_reducible refine (spec_l1In.calls a1 0 1000 false _ A3.out).mono ?_); rintro e w' ⟨rfl, ⟨nd, rfl⟩⟩; (try exact dd_); have hcz14 := cf4_ BK108) | (go_at_call 127; (with_reducible refine (spec_AngleOf.calls a0_1 t113 _ A10.out).mono ?_); rintro e w' ⟨rfl, ⟨nd, rfl⟩⟩; (try exact dd_)) | (go_at_call 133; (with_reducible refine (spec_l6Speed.calls a0_2 t114 _ A11.out).mono ?_); rintro e w' ⟨rfl, ⟨nd, rfl⟩⟩; (try exact dd_)) | (go_at_call 127; (with_reducible refine (spec_AngleOf.calls (wrap64 (t113)) t115 _ A12.out).mono ?_); rintro e w' ⟨rfl, ⟨nd, rfl⟩⟩; (try exact dd_))); try go_wp2_with (first | ((with_reducible refine gd_ 2 ?_); refine bx_ 2 105 #[.int .i64 a0_0, .int .i64 a0_1, .int .i64 a0_2, .int .i64 a0_3] ?_; intro gb108 hg w13 hbox hb; refine sh3_ (below_step (bl_ HB) hb) hbox (ge_ hg (bl_ HB)) ?_; clear HB hb hbox hg; intro HB BK108 GE108) | (go_at_call 101; (with_reducible refine (spec_l1In.calls a1 0 1000 false _ A3.out).mono ?_); rintro e w' ⟨rfl, ⟨nd, rfl⟩⟩; (try exact dd_); have hcz14 := cf4_ BK108) | (go_at_call 127; (with_reducible refine (spec_AngleOf.calls a0_1 t113 _ A10.out).mono ?_); rintro e w' ⟨rfl, ⟨nd, rfl⟩⟩; (try exact dd_)) | (go_at_call 133; (with_reducible refine (spec_l6Speed.calls a0_2 t114 _ A11.out).mono ?_); rintro e w' ⟨rfl, ⟨nd, rfl⟩⟩; (try exact dd_)) | (go_at_call 127; (with_reducible refine (spec_AngleOf.calls (wrap64 (t113)) t115 _ A12.out).mono ?_); rintro e w' ⟨rfl, ⟨nd, rfl⟩⟩; (try exact dd_))))
  go_ret
  exact ⟨er_, bl1_ HB GE108⟩

/-! ### spec_Min: function 99 -/
def spec_Min.f (a0 : Int) (a1 : Int) : Option (Int) := if a1 < a0 then (some a1) else (some a0)
set_option maxHeartbeats 8000000 in
set_option maxRecDepth 100000 in
theorem spec_Min.calls (a0 : Int) (a1 : Int) (r : Int) (w : World) (h : spec_Min.f a0 a1 = some r) :
  Calls Try.prog 99 #[.int .i64 a0, .int .i64 a1] w fun e w' => e = .returned (.int .i64 r) ∧ Drawn0 w w' := by
 have H := h
 clear h
 unfold spec_Min.f at H
 by_cases c3 : a1 < a0
 ·rw [if_pos c3] at H
  have c3b0 := decide_eq_true c3
  clear c3
  obtain rfl := Option.some.inj H
  go_enter Try.func99, Try.ntmps99
  go_wp2
  go_ret
  exact ⟨by first | rfl | (simp; done) | (simp [*]; done), by repeat (first | exact Drawn0.refl _ | apply Drawn0.step)⟩
 ·rw [if_neg c3] at H
  have c3b0 := decide_eq_false c3
  clear c3
  obtain rfl := Option.some.inj H
  go_enter Try.func99, Try.ntmps99
  go_wp2
  go_ret
  exact ⟨by first | rfl | (simp; done) | (simp [*]; done), by repeat (first | exact Drawn0.refl _ | apply Drawn0.step)⟩

/-! ### spec_WidenArc: function 132 -/
def spec_WidenArc.j0 : Nat → Int → Bool → Int → Int → Option (Int × Int)
 | 0, _, _, _, _ => none
 | k + 1, x1, x13, x117000, x117001 => if x13 = true then ((spec_AngleOf.f x117000).bind fun t120 => (some (t120, x117001))) else ((spec_AngleOf.f x117000).bind fun t121 => ((spec_AngleOf.f (wrap64 (t121 - x1))).bind fun t122 => ((spec_Min.f 359 (wrap64 (x117001 + (wrap64 (2 * x1))))).bind fun t123 => (some (t122, t123)))))
def spec_WidenArc.f (k : Nat) (a0_0 : Int) (a0_1 : Int) (a1 : Int) : Option (Int × Int) := (spec_l1In.f a1 0 360).bind fun t118 => (if t118 = true then ((spec_l1In.f a0_1 0 359).bind fun t119 => (spec_WidenArc.j0 k a1 (!t119) a0_0 a0_1)) else (spec_WidenArc.j0 k a1 true a0_0 a0_1))
theorem spec_WidenArc.mono_l : ∀ k, (∀ y0 y1 y2 y3, LeO (spec_WidenArc.j0 k y0 y1 y2 y3) (spec_WidenArc.j0 (k + 1) y0 y1 y2 y3))
 | 0 => fun _ _ _ _ r h => by simp [spec_WidenArc.j0] at h
 | k + 1 => by
  have ih0 := spec_WidenArc.mono_l k
  ·intro y0 y1 y2 y3
   unfold spec_WidenArc.j0
   repeat' first | (with_reducible first | exact ih0 _ _ _ _ | exact LeO.refl _ | exact LeO.none _ | refine LeO.ite ?_ ?_ | refine LeO.bind ?_ (fun _ => ?_)) | exact LeO.none _ | refine LeO.ite ?_ ?_ | refine LeO.bind ?_ (fun _ => ?_)
theorem spec_WidenArc.mono : ∀ a0 a1 a2 k, LeO (spec_WidenArc.f k a0 a1 a2) (spec_WidenArc.f (k + 1) a0 a1 a2) := by
 intro a0 a1 a2 k
 have ih0 := spec_WidenArc.mono_l k
 unfold spec_WidenArc.f
 repeat' first | (with_reducible first | exact ih0 _ _ _ _ | exact LeO.refl _ | exact LeO.none _ | refine LeO.ite ?_ ?_ | refine LeO.bind ?_ (fun _ => ?_)) | exact LeO.none _ | refine LeO.ite ?_ ?_ | refine LeO.bind ?_ (fun _ => ?_)
def spec_WidenArc.T3 : Bool × List (List Nat × List Nat) := (true, [([], []), ([0], [0]), ([1], [1]), ([], []), ([2, 3], [2, 3]), ([4, 2], [4]), ([], []), ([6], [6]), ([], []), ([8], [8]), ([7, 9], [7, 9]), ([10, 5], [10]), ([5, 11], [5, 11]), ([12, 11, 0, 1, 2, 3, 4, 5, 6, 7, 8, 9, 10, 11, 12], [12])])
def spec_WidenArc.B3 : List Nat := [0, 1, 3, 0, 15, 31, 0, 64, 0, 256, 960, 2047, 4095, 8191]
theorem spec_WidenArc.tab3 : rtab .any (opsOf Try.f132 3) = spec_WidenArc.T3 := by kernel_rfl
theorem spec_WidenArc.bits3 : waitsOk spec_WidenArc.T3.2 spec_WidenArc.B3 = true := by kernel_rfl
set_option maxHeartbeats 8000000 in
set_option maxRecDepth 100000 in
theorem spec_WidenArc.calls (k : Nat) (a0_0 : Int) (a0_1 : Int) (a1 : Int) (r1 : Int) (r2 : Int) (w : World) (h : spec_WidenArc.f k a0_0 a0_1 a1 = some (r1, r2)) :
  Calls Try.prog 132 #[.agg #[.int .i64 a0_0, .int .i64 a0_1], .int .i64 a1] w fun e w' => e = .returned (.agg #[.int .i64 r1, .int .i64 r2]) ∧ Below w.heap.size w w' := by
 have hu113 := Try.underlying113
 have HB := Aside0.mk (Below.refl w.heap.size w)
 have H := h
 clear h
 unfold spec_WidenArc.f at H
 have HC3 := Aside0.mk H
 clear H
 go_enter Try.func132, Try.ntmps132
 go_upto_region 1 with (first | ((with_reducible refine gd_ 2 ?_); refine bx_ 2 113 #[.int .i64 a0_0, .int .i64 a0_1] ?_; intro gb116 hg w4 hbox hb; refine sh3_ (below_step (bl_ HB) hb) hbox (ge_ hg (bl_ HB)) ?_; clear HB hb hbox hg; intro HB BK116 GE116) | ((with_reducible refine gd_ 4 ?_); refine bx_ 4 113 #[.int .i64 0, .int .i64 0] ?_; intro gb117 hg w5 hbox hb; refine sh6_ (blk_below (bk_ BK116) hb) (below_step (bl1_ HB GE116) hb) hbox (ge_ hg (bl1_ HB GE116)) (nl_ hg (bk_ BK116)) (ng_ hg (bk_ BK116)) ?_; clear BK116 HB hb hbox hg; intro BK116 HB BK117 GE117 NB116_117 NB117_116))
 (try simp only [Act.put, List.setIfInBounds_toArray, List.set_cons_zero, List.set_cons_succ])
 go_cut [13] (fun v13 wc => ∃ (kq : Nat) (x13_2 : Bool), v13 = .bool x13_2 ∧ Aside0 (spec_WidenArc.j0 kq a1 x13_2 a0_0 a0_1 = some (r1, r2)) ∧ Aside0 (kq ≤ k) ∧ Aside0 (wc.heap[gb116]? = some (.cells #[.int .i64 a0_0, .int .i64 a0_1] 113 (0, 0))) ∧ Aside0 (wc.heap[gb117]? = some (.cells #[.int .i64 0, .int .i64 0] 113 (0, 0))) ∧ Aside0 (Below w.heap.size w wc))
 case first =>
  have H := HC3.out
  clear HC3
  replace H := bs_ H
  obtain ⟨t118, A6, H⟩ := H
  by_cases c7 : t118 = true
  ·subst c7
   have H1 : ((spec_l1In.f a0_1 0 359).bind fun t119 => (spec_WidenArc.j0 k a1 (!t119) a0_0 a0_1)) = some (r1, r2) := by rw [if_pos rfl] at H; exact H
   clear H
   have H := H1
   clear H1
   replace H := bs_ H
   obtain ⟨t119, A8, H⟩ := H
   have H' := Aside0.mk H
   clear H
   go_wp2_with (first | ((with_reducible refine gate_callee (f := 101) rfl ?_); refine gl_ 6 Try.func101 (spec_l1In.calls a1 0 360 true _ A6.out) ?_; rintro e w' ⟨rfl, ⟨nd, rfl⟩⟩; refine ⟨_, rfl, ?_⟩; have hnb9 := NB116_117.out; have hnc9 := NB117_116.out; have hcz10 := cf2_ BK116) | (go_at_call 101; (with_reducible refine (spec_l1In.calls a0_1 0 359 t119 _ A8.out).mono ?_); rintro e w' ⟨rfl, ⟨nd, rfl⟩⟩))
   go_meet
   case rel => exact ⟨_, (!t119), (by first | rfl | (simp; done) | (simp [*]; done)), H', ⟨by first | omega | exact Nat.le_refl _⟩, ⟨by (with_reducible repeat (first | refine blk_drewN ?_ _ | refine blk_drew ?_ | refine blk_alloc ?_ _)); exact BK116.out⟩, ⟨by (with_reducible repeat (first | refine blk_drewN ?_ _ | refine blk_drew ?_ | refine blk_alloc ?_ _)); exact BK117.out⟩, ⟨bl2_ HB GE116 GE117⟩⟩
  ·replace c7 := Bool.eq_false_iff.mpr c7
   subst c7
   have H1 : (spec_WidenArc.j0 k a1 true a0_0 a0_1) = some (r1, r2) := by rw [if_neg (show ¬ (false = true) by decide)] at H; exact H
   clear H
   have H := H1
   clear H1
   have H' := Aside0.mk H
   clear H
   go_wp2_with (first | ((with_reducible refine gate_callee (f := 101) rfl ?_); refine gl_ 6 Try.func101 (spec_l1In.calls a1 0 360 false _ A6.out) ?_; rintro e w' ⟨rfl, ⟨nd, rfl⟩⟩; refine ⟨_, rfl, ?_⟩))
   go_meet
   case rel => exact ⟨_, (true), (by first | rfl | (simp; done) | (simp [*]; done)), H', ⟨by first | omega | exact Nat.le_refl _⟩, ⟨by (with_reducible repeat (first | refine blk_drewN ?_ _ | refine blk_drew ?_ | refine blk_alloc ?_ _)); exact BK116.out⟩, ⟨by (with_reducible repeat (first | refine blk_drewN ?_ _ | refine blk_drew ?_ | refine blk_alloc ?_ _)); exact BK117.out⟩, ⟨bl2_ HB GE116 GE117⟩⟩
 case rest =>
  clear HC3
  try clear c1
  try clear p2
  try clear c7
  try clear c9
  try clear c10
  try clear hcz10
  obtain ⟨kq, x13_2, rfl, HA, HJ2, BK116, BK117, HB⟩ := hcut
  cases kq with
  | zero => exact absurd HA.out (by simp [spec_WidenArc.j0])
  | succ kj2 =>
   have H := HA.out
   clear HA
   simp only [spec_WidenArc.j0] at H
   by_cases c11 : x13_2 = true
   ·subst c11
    have H1 : ((spec_AngleOf.f a0_0).bind fun t120 => (some (t120, a0_1))) = some (r1, r2) := by rw [if_pos rfl] at H; exact H
    clear H
    have H := H1
    clear H1
    replace H := bs_ H
    obtain ⟨t120, A12, H⟩ := H
    simp only [Option.some.injEq, Prod.mk.injEq] at H
    obtain ⟨rfl, rfl⟩ := H
    try go_wp2
    refine sh3_ (blk_drew BK116.out) (blk_drew BK117.out) (below_drew1 HB.out) ?_
    clear BK116 BK117 HB
    intro BK116 BK117 HB
    refine start_ (n := 7) (S := fun w' => Cz2 w' gb116 (.int .i64 a0_0) (.int .i64 a0_1)) (ds := []) #[false, false, false, false, false, false, false] (by kernel_rfl) rfl rfl (cz2_ BK116) (fun hHeld => ?_)
    generalize wc.drew = w13 at BK116 BK117 HB hHeld ⊢
    refine pu0_ 0 #[true, false, false, false, false, false, false] (some 14) ?_
    refine pu0_ 3 #[true, false, false, true, false, false, false] (some 17) ?_
    refine take_ (i := 1) (N := some 15) (v := ?_) (a' := ?_) #[true, true, false, true, false, false, false] rfl rfl (by kernel_rfl) (fun _ _ _ h => h) (Or.inl ⟨by rfl, ?_⟩) hHeld ?_ ?_
    rotate_left
    ·rintro w' ⟨s0, s1⟩
     go_simp
     with_reducible rfl
    rotate_left
    ·simp only [Act.put, List.setIfInBounds_toArray, List.set_cons_zero, List.set_cons_succ, i64_w, i32_w]
     rfl
    refine take_ (i := 4) (N := some 18) (v := ?_) (a' := ?_) #[true, true, false, true, true, false, false] rfl rfl (by kernel_rfl) (fun _ _ _ h => h) (Or.inl ⟨by rfl, ?_⟩) hHeld ?_ ?_
    rotate_left
    ·rintro w' ⟨s0, s1⟩
     go_simp
     with_reducible rfl
    rotate_left
    ·simp only [Act.put, List.setIfInBounds_toArray, List.set_cons_zero, List.set_cons_succ, i64_w, i32_w]
     rfl
    refine one_ (i := 2) (N := some 16) #[true, true, true, true, true, false, false] rfl rfl (by kernel_rfl) (by decide) (fun K hK => ?_)
    refine goes_ Try.func127 (by kernel_rfl) rfl #[.int .i64 a0_0] (by rfl) rfl rfl mp_ ?_
    with_reducible refine (spec_AngleOf.calls a0_0 t120 _ A12.out).mono ?_
    rintro e w' ⟨rfl, ⟨nd, rfl⟩⟩
    refine ⟨_, rfl, ?_⟩
    refine hK.out _ _ (cz2_ BK116) (fun hHeld => ?_)
    clear hK K
    refine norm_ (show Act.put _ (some 16) _ = _ from pt_) ?_
    refine pu0_ 5 #[true, true, true, true, true, true, false] (some 19) ?_
    refine one_ (i := 6) (N := none) #[true, true, true, true, true, true, true] rfl rfl (by kernel_rfl) (by decide) (fun K hK => ?_)
    have hs14 : w13.cell? ⟨gb117, 0, none⟩ = some (.int .i64 0) := bc_ BK117 0 rfl
    have hfs14 := bf_ BK117 0
    have hns14_0 := NB116_117.out
    have hms14_0 := NB117_116.out
    have hs15 : w13.cell? ⟨gb117, 1, none⟩ = some (.int .i64 0) := bc_ BK117 1 rfl
    have hfs15 := bf_ BK117 1
    have hns15_0 := NB116_117.out
    have hms15_0 := NB117_116.out
    refine skip_ (w1 := ?_) (by rfl) rfl ?_ ?_
    rotate_left
    ·go_simp
     rfl
    refine hK.out _ _ ⟨((cell_far (p := ⟨gb117, _, none⟩) NB116_117.out _).trans (((cell_far (p := ⟨gb117, _, none⟩) NB116_117.out _).trans (hHeld.1)))), ((cell_far (p := ⟨gb117, _, none⟩) NB116_117.out _).trans (((cell_far (p := ⟨gb117, _, none⟩) NB116_117.out _).trans (hHeld.2))))⟩ (fun hHeld => ?_)
    clear hK K
    refine done_ (by kernel_rfl) ?_
    try go_wp2
    refine bodyPost_ret (results_cell_row rfl _ _ gb117 113 #[.int .i64 t120, .int .i64 a0_1] (0, 0) _ rfl (bp_ BK117) Try.underlying113 rfl (by kernel_rfl)) rfl ?_
    exact ⟨er_, bl2_ HB GE116 GE117⟩
   ·replace c11 := Bool.eq_false_iff.mpr c11
    subst c11
    have H1 : ((spec_AngleOf.f a0_0).bind fun t121 => ((spec_AngleOf.f (wrap64 (t121 - a1))).bind fun t122 => ((spec_Min.f 359 (wrap64 (a0_1 + (wrap64 (2 * a1))))).bind fun t123 => (some (t122, t123))))) = some (r1, r2) := by rw [if_neg (show ¬ (false = true) by decide)] at H; exact H
    clear H
    have H := H1
    clear H1
    replace H := bs_ H
    obtain ⟨t121, A16, H⟩ := H
    replace H := bs_ H
    obtain ⟨t122, A17, H⟩ := H
    replace H := bs_ H
    obtain ⟨t123, A18, H⟩ := H
    simp only [Option.some.injEq, Prod.mk.injEq] at H
    obtain ⟨rfl, rfl⟩ := H
    try go_wp2
    refine sh3_ (blk_drew BK116.out) (blk_drew BK117.out) (below_drew1 HB.out) ?_
    clear BK116 BK117 HB
    intro BK116 BK117 HB
    refine start_ (n := 14) (S := fun w' => Cz2 w' gb116 (.int .i64 a0_0) (.int .i64 a0_1)) (ds := []) #[false, false, false, false, false, false, false, false, false, false, false, false, false, false] (by kernel_rfl) rfl rfl (cz2_ BK116) (fun hHeld => ?_); refine with_tabW spec_WidenArc.tab3 spec_WidenArc.bits3 (fun HT_ HW_ => ?_)
    generalize wc.drew = w19 at BK116 BK117 HB hHeld ⊢
    refine pur_ 0 #[true, false, false, false, false, false, false, false, false, false, false, false, false, false] (some 20) HT_ ?_
    refine pur_ 3 #[true, false, false, true, false, false, false, false, false, false, false, false, false, false] (some 23) HT_ ?_
    refine pur_ 6 #[true, false, false, true, false, false, true, false, false, false, false, false, false, false] (some 26) HT_ ?_
    refine pur_ 8 #[true, false, false, true, false, false, true, false, true, false, false, false, false, false] (some 28) HT_ ?_
    refine pur_ 9 #[true, false, false, true, false, false, true, false, true, true, false, false, false, false] (some 29) HT_ ?_
    refine tak_ 1 #[true, true, false, true, false, false, true, false, true, true, false, false, false, false] (some 21) HT_ HW_ hHeld ?_
    refine tak_ 7 #[true, true, false, true, false, false, true, true, true, true, false, false, false, false] (some 27) HT_ HW_ hHeld ?_
    refine pur_ 10 #[true, true, false, true, false, false, true, true, true, true, true, false, false, false] (some 30) HT_ ?_
    refine onc_ 2 #[true, true, true, true, false, false, true, true, true, true, true, false, false, false] (some 22) HT_ Try.func127 (spec_AngleOf.calls a0_0 t121 _ A16.out) ?_
    rintro e w' ⟨rfl, ⟨nd, rfl⟩⟩
    refine ⟨_, _, rfl, (cz2_ BK116), pt_, fun hHeld => ?_⟩
    refine pur_ 4 #[true, true, true, true, true, false, true, true, true, true, true, false, false, false] (some 24) HT_ ?_
    refine onc_ 5 #[true, true, true, true, true, true, true, true, true, true, true, false, false, false] (some 25) HT_ Try.func127 (spec_AngleOf.calls (wrap64 (t121 - a1)) t122 _ A17.out) ?_
    rintro e w' ⟨rfl, ⟨nd, rfl⟩⟩
    refine ⟨_, _, rfl, (cz2_ BK116), pt_, fun hHeld => ?_⟩
    refine onc_ 11 #[true, true, true, true, true, true, true, true, true, true, true, true, false, false] (some 31) HT_ Try.func99 (spec_Min.calls 359 (wrap64 (a0_1 + (wrap64 (2 * a1)))) t123 _ A18.out) ?_
    rintro e w' ⟨rfl, ⟨nd, rfl⟩⟩
    refine ⟨_, _, rfl, (cz2_ BK116), pt_, fun hHeld => ?_⟩
    refine pur_ 12 #[true, true, true, true, true, true, true, true, true, true, true, true, true, false] (some 32) HT_ ?_
    refine one_ (i := 13) (N := none) #[true, true, true, true, true, true, true, true, true, true, true, true, true, true] rfl rfl (one_of HT_.out (by kernel_rfl)) (by decide) (fun K hK => ?_)
    have hs20 : w19.cell? ⟨gb117, 0, none⟩ = some (.int .i64 0) := bc_ BK117 0 rfl
    have hfs20 := bf_ BK117 0
    have hns20_0 := NB116_117.out
    have hms20_0 := NB117_116.out
    have hs21 : w19.cell? ⟨gb117, 1, none⟩ = some (.int .i64 0) := bc_ BK117 1 rfl
    have hfs21 := bf_ BK117 1
    have hns21_0 := NB116_117.out
    have hms21_0 := NB117_116.out
    refine skip_ (w1 := ?_) (by rfl) rfl ?_ ?_
    rotate_left
    ·go_simp
     rfl
    refine hK.out _ _ ⟨((cell_far (p := ⟨gb117, _, none⟩) NB116_117.out _).trans (((cell_far (p := ⟨gb117, _, none⟩) NB116_117.out _).trans (hHeld.1)))), ((cell_far (p := ⟨gb117, _, none⟩) NB116_117.out _).trans (((cell_far (p := ⟨gb117, _, none⟩) NB116_117.out _).trans (hHeld.2))))⟩ (fun hHeld => ?_)
    clear hK K
    refine done_ (done_of HT_.out (by kernel_rfl)) ?_
    try go_wp2
    refine bodyPost_ret (results_cell_row rfl _ _ gb117 113 #[.int .i64 t122, .int .i64 t123] (0, 0) _ rfl (bp_ BK117) Try.underlying113 rfl (by kernel_rfl)) rfl ?_
    exact ⟨er_, bl2_ HB GE116 GE117⟩

/-! ### spec_PlacesAt: function 117 -/
def spec_PlacesAt.f (k : Nat) (a0_0 : Int) (a0_1 : Int) (a0_2 : Int) (a0_3 : Int) (a1 : Int) : Option (Int × Int) := (spec_PlaceAt.f a0_0 a0_1 a0_2 a0_3 a1).bind fun t126 => ((spec_WidenArc.f k t126 0 a0_3).bind fun bt127 => (some (bt127.1, bt127.2)))
theorem spec_PlacesAt.mono : ∀ a0 a1 a2 a3 a4 k, LeO (spec_PlacesAt.f k a0 a1 a2 a3 a4) (spec_PlacesAt.f (k + 1) a0 a1 a2 a3 a4) := by
 intro a0 a1 a2 a3 a4 k
 unfold spec_PlacesAt.f
 repeat' first | (with_reducible first | exact spec_WidenArc.mono _ _ _ _ | exact LeO.refl _ | exact LeO.none _ | refine LeO.ite ?_ ?_ | refine LeO.bind ?_ (fun _ => ?_)) | exact LeO.none _ | refine LeO.ite ?_ ?_ | refine LeO.bind ?_ (fun _ => ?_)
def spec_PlacesAt.T1 : Bool × List (List Nat × List Nat) := (true, [([], []), ([], []), ([0, 1], [0, 1]), ([2], [2]), ([], []), ([4], [4]), ([3, 5, 2], [3, 5]), ([6, 6, 0, 1, 2, 3, 4, 5, 6], [6])])
def spec_PlacesAt.B1 : List Nat := [0, 0, 3, 7, 0, 16, 63, 127]
theorem spec_PlacesAt.tab1 : rtab .any (opsOf Try.f117 1) = spec_PlacesAt.T1 := by kernel_rfl
theorem spec_PlacesAt.bits1 : waitsOk spec_PlacesAt.T1.2 spec_PlacesAt.B1 = true := by kernel_rfl
set_option maxHeartbeats 8000000 in
set_option maxRecDepth 100000 in
theorem spec_PlacesAt.calls (k : Nat) (a0_0 : Int) (a0_1 : Int) (a0_2 : Int) (a0_3 : Int) (a1 : Int) (r1 : Int) (r2 : Int) (w : World) (h : spec_PlacesAt.f k a0_0 a0_1 a0_2 a0_3 a1 = some (r1, r2)) :
  Calls Try.prog 117 #[.agg #[.int .i64 a0_0, .int .i64 a0_1, .int .i64 a0_2, .int .i64 a0_3], .int .i64 a1] w fun e w' => e = .returned (.agg #[.int .i64 r1, .int .i64 r2]) ∧ Below w.heap.size w w' := by
 have hu105 := Try.underlying105
 have hu113 := Try.underlying113
 have HB := Aside0.mk (Below.refl w.heap.size w)
 have H := h
 clear h
 unfold spec_PlacesAt.f at H
 replace H := bs_ H
 obtain ⟨t126, A3, H⟩ := H
 replace H := bs_ H
 obtain ⟨⟨t127, t128⟩, A4, H⟩ := H
 dsimp only at H
 simp only [Option.some.injEq, Prod.mk.injEq] at H
 obtain ⟨rfl, rfl⟩ := H
 go_enter Try.func117, Try.ntmps117
 try go_wp2_with (first | ((with_reducible refine gd_ 2 ?_); refine bx_ 2 105 #[.int .i64 a0_0, .int .i64 a0_1, .int .i64 a0_2, .int .i64 a0_3] ?_; intro gb124 hg w5 hbox hb; refine sh3_ (below_step (bl_ HB) hb) hbox (ge_ hg (bl_ HB)) ?_; clear HB hb hbox hg; intro HB BK124 GE124) | ((with_reducible refine gd_ 4 ?_); refine bx_ 4 113 #[.int .i64 0, .int .i64 0] ?_; intro gb125 hg w6 hbox hb; refine sh6_ (blk_below (bk_ BK124) hb) (below_step (bl1_ HB GE124) hb) hbox (ge_ hg (bl1_ HB GE124)) (nl_ hg (bk_ BK124)) (ng_ hg (bk_ BK124)) ?_; clear BK124 HB hb hbox hg; intro BK124 HB BK125 GE125 NB124_125 NB125_124))
 refine sh3_ (blk_drew BK124.out) (blk_drew BK125.out) (below_drew1 HB.out) ?_
 clear BK124 BK125 HB
 intro BK124 BK125 HB
 refine start_ (n := 8) (S := fun w' => Cz4 w' gb124 (.int .i64 a0_0) (.int .i64 a0_1) (.int .i64 a0_2) (.int .i64 a0_3)) (ds := []) #[false, false, false, false, false, false, false, false] (by kernel_rfl) rfl rfl (cz4_ BK124) (fun hHeld => ?_); refine with_tabW spec_PlacesAt.tab1 spec_PlacesAt.bits1 (fun HT_ HW_ => ?_)
 generalize w6.drew = w7 at BK124 BK125 HB hHeld ⊢
 refine pur_ 1 #[false, true, false, false, false, false, false, false] (some 6) HT_ ?_
 refine pur_ 4 #[false, true, false, false, true, false, false, false] (some 9) HT_ ?_
 refine tak_ 0 #[true, true, false, false, true, false, false, false] (some 5) HT_ HW_ hHeld ?_
 refine tak_ 5 #[true, true, false, false, true, true, false, false] (some 10) HT_ HW_ hHeld ?_
 refine onc_ 2 #[true, true, true, false, true, true, false, false] (some 7) HT_ Try.func119 (spec_PlaceAt.calls a0_0 a0_1 a0_2 a0_3 a1 t126 _ A3.out) ?_
 rintro e w8 ⟨rfl, hb⟩
 refine sh3_ (blk_below (bk_ BK124) hb) (blk_below (bk_ BK125) hb) (below_step (bl2_ HB GE124 GE125) hb) ?_
 clear BK124 BK125 HB hb
 intro BK124 BK125 HB
 refine ⟨_, _, rfl, (cz4_ BK124), pt_, fun hHeld => ?_⟩
 refine pur_ 3 #[true, true, true, true, true, true, false, false] (some 8) HT_ ?_
 refine onc_ 6 #[true, true, true, true, true, true, true, false] (some 11) HT_ Try.func132 (spec_WidenArc.calls k t126 0 a0_3 t127 t128 _ A4.out) ?_
 rintro e w9 ⟨rfl, hb⟩
 refine sh3_ (blk_below (bk_ BK124) hb) (blk_below (bk_ BK125) hb) (below_step (bl2_ HB GE124 GE125) hb) ?_
 clear BK124 BK125 HB hb
 intro BK124 BK125 HB
 refine ⟨_, _, rfl, (cz4_ BK124), pt_, fun hHeld => ?_⟩
 refine one_ (i := 7) (N := none) #[true, true, true, true, true, true, true, true] rfl rfl (one_of HT_.out (by kernel_rfl)) (by decide) (fun K hK => ?_)
 have hs10 : w9.cell? ⟨gb125, 0, none⟩ = some (.int .i64 0) := bc_ BK125 0 rfl
 have hfs10 := bf_ BK125 0
 have hns10_0 := NB124_125.out
 have hms10_0 := NB125_124.out
 have hs11 : w9.cell? ⟨gb125, 1, none⟩ = some (.int .i64 0) := bc_ BK125 1 rfl
 have hfs11 := bf_ BK125 1
 have hns11_0 := NB124_125.out
 have hms11_0 := NB125_124.out
 refine skip_ (w1 := ?_) (by rfl) rfl ?_ ?_
 rotate_left
 ·go_simp
  rfl
 refine hK.out _ _ ⟨((cell_far (p := ⟨gb125, _, none⟩) NB124_125.out _).trans (((cell_far (p := ⟨gb125, _, none⟩) NB124_125.out _).trans (hHeld.1)))), ((cell_far (p := ⟨gb125, _, none⟩) NB124_125.out _).trans (((cell_far (p := ⟨gb125, _, none⟩) NB124_125.out _).trans (hHeld.2.1)))), ((cell_far (p := ⟨gb125, _, none⟩) NB124_125.out _).trans (((cell_far (p := ⟨gb125, _, none⟩) NB124_125.out _).trans (hHeld.2.2.1)))), ((cell_far (p := ⟨gb125, _, none⟩) NB124_125.out _).trans (((cell_far (p := ⟨gb125, _, none⟩) NB124_125.out _).trans (hHeld.2.2.2))))⟩ (fun hHeld => ?_)
 clear hK K
 refine done_ (done_of HT_.out (by kernel_rfl)) ?_
 try go_wp2
 refine bodyPost_ret (results_cell_row rfl _ _ gb125 113 #[.int .i64 t127, .int .i64 t128] (0, 0) _ rfl (bp_ BK125) Try.underlying113 rfl (by kernel_rfl)) rfl ?_
 exact ⟨er_, bl2_ HB GE124 GE125⟩

/-! ### spec_NodesOf: function 67 -/
def spec_NodesOf.f (a0_0 : Int) (l0_1 : List (S105)) (l0_2 : List (S109)) (a0_3 : Int) (a0_4 : Int) (a0_5 : Int) (a0_6 : Int) (a0_7 : Int) (l0_8 : List (S115)) (a0_9 : Int) : Option (Int) := some (wrap64 ((l0_1.length : Int) + (l0_2.length : Int)))
set_option maxHeartbeats 8000000 in
set_option maxRecDepth 100000 in
theorem spec_NodesOf.calls (a0_0 : Int) (A0_1 : Option Addr) (c0_1 : Nat) (l0_1 : List (S105)) (A0_2 : Option Addr) (c0_2 : Nat) (l0_2 : List (S109)) (a0_3 : Int) (a0_4 : Int) (a0_5 : Int) (a0_6 : Int) (a0_7 : Int) (A0_8 : Option Addr) (c0_8 : Nat) (l0_8 : List (S115)) (a0_9 : Int) (r : Int) (w : World) (hr0_1 : Kd.C k105 w A0_1 l0_1.length l0_1) (hc0_1 : l0_1.length ≤ c0_1) (hr0_2 : Kd.C k109 w A0_2 l0_2.length l0_2) (hc0_2 : l0_2.length ≤ c0_2) (hr0_8 : Kd.C k115 w A0_8 l0_8.length l0_8) (hc0_8 : l0_8.length ≤ c0_8) (h : spec_NodesOf.f a0_0 l0_1 l0_2 a0_3 a0_4 a0_5 a0_6 a0_7 l0_8 a0_9 = some r) :
  Calls Try.prog 67 #[.agg #[.int .i64 a0_0, .slice A0_1 l0_1.length c0_1, .slice A0_2 l0_2.length c0_2, .int .i64 a0_3, .int .i64 a0_4, .int .i64 a0_5, .int .i64 a0_6, .int .i64 a0_7, .slice A0_8 l0_8.length c0_8, .int .i64 a0_9]] w fun e w' => e = .returned (.int .i64 r) ∧ Below w.heap.size w w' := by
 have hu34 := Try.underlying34
 have HR0_1 := Aside0.mk hr0_1
 have HC0_1 := Aside0.mk hc0_1
 clear hr0_1 hc0_1
 have HR0_2 := Aside0.mk hr0_2
 have HC0_2 := Aside0.mk hc0_2
 clear hr0_2 hc0_2
 have HR0_8 := Aside0.mk hr0_8
 have HC0_8 := Aside0.mk hc0_8
 clear hr0_8 hc0_8
 have HB := Aside0.mk (Below.refl w.heap.size w)
 have H := h
 clear h
 unfold spec_NodesOf.f at H
 obtain rfl := Option.some.inj H
 go_enter Try.func67, Try.ntmps67
 go_wp2_with (first | ((with_reducible refine gd_ 1 ?_); refine bx_ 1 34 #[.int .i64 a0_0, .slice A0_1 l0_1.length c0_1, .slice A0_2 l0_2.length c0_2, .int .i64 a0_3, .int .i64 a0_4, .int .i64 a0_5, .int .i64 a0_6, .int .i64 a0_7, .slice A0_8 l0_8.length c0_8, .int .i64 a0_9] ?_; intro gb129 hg w2 hbox hb; refine sh3_ (below_step (bl_ HB) hb) hbox (ge_ hg (bl_ HB)) ?_; clear HB hb hbox hg; intro HB BK129 GE129; have hcz3 := cf10_ BK129))
 go_ret
 exact ⟨er_, bl1_ HB GE129⟩

/-! ### spec_IsSite: function 118 -/
def spec_IsSite.f (a0_0 : Int) (l0_1 : List (S105)) (l0_2 : List (S109)) (a0_3 : Int) (a0_4 : Int) (a0_5 : Int) (a0_6 : Int) (a0_7 : Int) (l0_8 : List (S115)) (a0_9 : Int) (a1 : Int) : Option (Bool) := (spec_NodesOf.f a0_0 l0_1 l0_2 a0_3 a0_4 a0_5 a0_6 a0_7 l0_8 a0_9).bind fun t131 => ((spec_l1In.f a1 (l0_1.length : Int) (wrap64 (t131 - 1))).bind fun t132 => (some t132))
def spec_IsSite.T1 : Bool × List (List Nat × List Nat) := (true, [([], []), ([], []), ([1], [1]), ([2], [2]), ([], []), ([4], [4]), ([5], [5]), ([0, 3, 6, 5], [0, 3, 6]), ([7, 7, 0, 1, 2, 3, 4, 5, 6, 7], [7])])
def spec_IsSite.B1 : List Nat := [0, 0, 2, 6, 0, 16, 48, 127, 255]
theorem spec_IsSite.tab1 : rtab .any (opsOf Try.f118 1) = spec_IsSite.T1 := by kernel_rfl
theorem spec_IsSite.bits1 : waitsOk spec_IsSite.T1.2 spec_IsSite.B1 = true := by kernel_rfl
set_option maxHeartbeats 8000000 in
set_option maxRecDepth 100000 in
theorem spec_IsSite.calls (a0_0 : Int) (A0_1 : Option Addr) (c0_1 : Nat) (l0_1 : List (S105)) (A0_2 : Option Addr) (c0_2 : Nat) (l0_2 : List (S109)) (a0_3 : Int) (a0_4 : Int) (a0_5 : Int) (a0_6 : Int) (a0_7 : Int) (A0_8 : Option Addr) (c0_8 : Nat) (l0_8 : List (S115)) (a0_9 : Int) (a1 : Int) (r : Bool) (w : World) (hr0_1 : Kd.C k105 w A0_1 l0_1.length l0_1) (hc0_1 : l0_1.length ≤ c0_1) (hr0_2 : Kd.C k109 w A0_2 l0_2.length l0_2) (hc0_2 : l0_2.length ≤ c0_2) (hr0_8 : Kd.C k115 w A0_8 l0_8.length l0_8) (hc0_8 : l0_8.length ≤ c0_8) (h : spec_IsSite.f a0_0 l0_1 l0_2 a0_3 a0_4 a0_5 a0_6 a0_7 l0_8 a0_9 a1 = some r) :
  Calls Try.prog 118 #[.agg #[.int .i64 a0_0, .slice A0_1 l0_1.length c0_1, .slice A0_2 l0_2.length c0_2, .int .i64 a0_3, .int .i64 a0_4, .int .i64 a0_5, .int .i64 a0_6, .int .i64 a0_7, .slice A0_8 l0_8.length c0_8, .int .i64 a0_9], .int .i64 a1] w fun e w' => e = .returned (.bool r) ∧ Below w.heap.size w w' := by
 have hu34 := Try.underlying34
 have HR0_1 := Aside0.mk hr0_1
 have HC0_1 := Aside0.mk hc0_1
 clear hr0_1 hc0_1
 have HR0_2 := Aside0.mk hr0_2
 have HC0_2 := Aside0.mk hc0_2
 clear hr0_2 hc0_2
 have HR0_8 := Aside0.mk hr0_8
 have HC0_8 := Aside0.mk hc0_8
 clear hr0_8 hc0_8
 have HB := Aside0.mk (Below.refl w.heap.size w)
 have H := h
 clear h
 unfold spec_IsSite.f at H
 replace H := bs_ H
 obtain ⟨t131, A3, H⟩ := H
 replace H := bs_ H
 obtain ⟨t132, A4, H⟩ := H
 obtain rfl := Option.some.inj H
 go_enter Try.func118, Try.ntmps118
 try go_wp2_with (first | ((with_reducible refine gd_ 2 ?_); refine bx_ 2 34 #[.int .i64 a0_0, .slice A0_1 l0_1.length c0_1, .slice A0_2 l0_2.length c0_2, .int .i64 a0_3, .int .i64 a0_4, .int .i64 a0_5, .int .i64 a0_6, .int .i64 a0_7, .slice A0_8 l0_8.length c0_8, .int .i64 a0_9] ?_; intro gb130 hg w5 hbox hb; refine sh3_ (below_step (bl_ HB) hb) hbox (ge_ hg (bl_ HB)) ?_; clear HB hb hbox hg; intro HB BK130 GE130))
 refine sh2_ (blk_drew BK130.out) (below_drew1 HB.out) ?_
 clear BK130 HB
 intro BK130 HB
 refine start_ (n := 9) (S := fun w' => Cz10 w' gb130 (.int .i64 a0_0) (.slice A0_1 l0_1.length c0_1) (.slice A0_2 l0_2.length c0_2) (.int .i64 a0_3) (.int .i64 a0_4) (.int .i64 a0_5) (.int .i64 a0_6) (.int .i64 a0_7) (.slice A0_8 l0_8.length c0_8) (.int .i64 a0_9)) (ds := []) #[false, false, false, false, false, false, false, false, false] (by kernel_rfl) rfl rfl (cz10_ BK130) (fun hHeld => ?_); refine with_tabW spec_IsSite.tab1 spec_IsSite.bits1 (fun HT_ HW_ => ?_)
 generalize w5.drew = w6 at BK130 HB hHeld ⊢
 refine pur_ 0 #[true, false, false, false, false, false, false, false, false] (some 5) HT_ ?_
 refine pur_ 1 #[true, true, false, false, false, false, false, false, false] (some 6) HT_ ?_
 refine tak_ 2 #[true, true, true, false, false, false, false, false, false] (some 7) HT_ HW_ hHeld ?_
 refine pur_ 3 #[true, true, true, true, false, false, false, false, false] (some 8) HT_ ?_
 refine tak_ 4 #[true, true, true, true, true, false, false, false, false] (some 9) HT_ HW_ hHeld ?_
 refine onc_ 5 #[true, true, true, true, true, true, false, false, false] (some 10) HT_ Try.func67 (spec_NodesOf.calls a0_0 _ _ l0_1 _ _ l0_2 a0_3 a0_4 a0_5 a0_6 a0_7 _ _ l0_8 a0_9 t131 _ (ck_ HR0_1 HB) HC0_1.out (ck_ HR0_2 HB) HC0_2.out (ck_ HR0_8 HB) HC0_8.out A3.out) ?_
 rintro e w7 ⟨rfl, hb⟩
 refine sh2_ (blk_below (bk_ BK130) hb) (below_step (bl1_ HB GE130) hb) ?_
 clear BK130 HB hb
 intro BK130 HB
 refine ⟨_, _, rfl, (cz10_ BK130), pt_, fun hHeld => ?_⟩
 refine pur_ 6 #[true, true, true, true, true, true, true, false, false] (some 11) HT_ ?_
 refine onc_ 7 #[true, true, true, true, true, true, true, true, false] (some 12) HT_ Try.func101 (spec_l1In.calls a1 (l0_1.length : Int) (wrap64 (t131 - 1)) t132 _ A4.out) ?_
 rintro e w' ⟨rfl, ⟨nd, rfl⟩⟩
 refine ⟨_, _, rfl, (cz10_ BK130), pt_, fun hHeld => ?_⟩
 refine pur_ 8 #[true, true, true, true, true, true, true, true, true] (some 4) HT_ ?_
 refine done_ (done_of HT_.out (by kernel_rfl)) ?_
 try go_wp2
 go_ret
 exact ⟨er_, bl1_ HB GE130⟩

/-! ### spec_NodeAt: function 103 -/
def spec_NodeAt.f (k : Nat) (a0_0 : Int) (l0_1 : List (S105)) (l0_2 : List (S109)) (a0_3 : Int) (a0_4 : Int) (a0_5 : Int) (a0_6 : Int) (a0_7 : Int) (l0_8 : List (S115)) (a0_9 : Int) (a1 : Int) (a2 : Int) : Option (Int × Int) := (spec_l1In.f a1 0 (wrap64 ((l0_1.length : Int) - 1))).bind fun t135 => (if t135 = true then (if 0 ≤ a1 then (if a1 < (l0_1.length : Int) then ((spec_PlacesAt.f k ((rd_T105 l0_1 a1).f0) ((rd_T105 l0_1 a1).f1) ((rd_T105 l0_1 a1).f2) ((rd_T105 l0_1 a1).f3) a2).bind fun bt137 => (some (bt137.1, bt137.2))) else (none)) else (none)) else ((spec_IsSite.f a0_0 l0_1 l0_2 a0_3 a0_4 a0_5 a0_6 a0_7 l0_8 a0_9 a1).bind fun t139 => (if t139 = true then (if 0 ≤ (wrap64 (a1 - (l0_1.length : Int))) then (if (wrap64 (a1 - (l0_1.length : Int))) < (l0_2.length : Int) then ((spec_PlaceAt.f 0 ((rd_T109 l0_2 (wrap64 (a1 - (l0_1.length : Int)))).f1) ((rd_T109 l0_2 (wrap64 (a1 - (l0_1.length : Int)))).f2) 0 a2).bind fun t142 => (some (t142, 0))) else (none)) else (none)) else (some (0, 0)))))
theorem spec_NodeAt.mono : ∀ a0 a1 a2 a3 a4 a5 a6 a7 a8 a9 a10 a11 k, LeO (spec_NodeAt.f k a0 a1 a2 a3 a4 a5 a6 a7 a8 a9 a10 a11) (spec_NodeAt.f (k + 1) a0 a1 a2 a3 a4 a5 a6 a7 a8 a9 a10 a11) := by
 intro a0 a1 a2 a3 a4 a5 a6 a7 a8 a9 a10 a11 k
 unfold spec_NodeAt.f
 repeat' first | (with_reducible first | exact spec_PlacesAt.mono _ _ _ _ _ _ | exact LeO.refl _ | exact LeO.none _ | refine LeO.ite ?_ ?_ | refine LeO.bind ?_ (fun _ => ?_)) | exact LeO.none _ | refine LeO.ite ?_ ?_ | refine LeO.bind ?_ (fun _ => ?_)
set_option maxHeartbeats 8000000 in
set_option maxRecDepth 100000 in
theorem spec_NodeAt.calls (k : Nat) (a0_0 : Int) (A0_1 : Option Addr) (c0_1 : Nat) (l0_1 : List (S105)) (A0_2 : Option Addr) (c0_2 : Nat) (l0_2 : List (S109)) (a0_3 : Int) (a0_4 : Int) (a0_5 : Int) (a0_6 : Int) (a0_7 : Int) (A0_8 : Option Addr) (c0_8 : Nat) (l0_8 : List (S115)) (a0_9 : Int) (a1 : Int) (a2 : Int) (r1 : Int) (r2 : Int) (w : World) (hr0_1 : Kd.C k105 w A0_1 l0_1.length l0_1) (hc0_1 : l0_1.length ≤ c0_1) (hr0_2 : Kd.C k109 w A0_2 l0_2.length l0_2) (hc0_2 : l0_2.length ≤ c0_2) (hr0_8 : Kd.C k115 w A0_8 l0_8.length l0_8) (hc0_8 : l0_8.length ≤ c0_8) (h : spec_NodeAt.f k a0_0 l0_1 l0_2 a0_3 a0_4 a0_5 a0_6 a0_7 l0_8 a0_9 a1 a2 = some (r1, r2)) :
  Calls Try.prog 103 #[.agg #[.int .i64 a0_0, .slice A0_1 l0_1.length c0_1, .slice A0_2 l0_2.length c0_2, .int .i64 a0_3, .int .i64 a0_4, .int .i64 a0_5, .int .i64 a0_6, .int .i64 a0_7, .slice A0_8 l0_8.length c0_8, .int .i64 a0_9], .int .i64 a1, .int .i64 a2] w fun e w' => e = .returned (.agg #[.int .i64 r1, .int .i64 r2]) ∧ Below w.heap.size w w' := by
 have hu34 := Try.underlying34
 have hu113 := Try.underlying113
 have hu105 := Try.underlying105
 have hu109 := Try.underlying109
 have HR0_1 := Aside0.mk hr0_1
 have HC0_1 := Aside0.mk hc0_1
 clear hr0_1 hc0_1
 have HR0_2 := Aside0.mk hr0_2
 have HC0_2 := Aside0.mk hc0_2
 clear hr0_2 hc0_2
 have HR0_8 := Aside0.mk hr0_8
 have HC0_8 := Aside0.mk hc0_8
 clear hr0_8 hc0_8
 have HB := Aside0.mk (Below.refl w.heap.size w)
 have H := h
 clear h
 unfold spec_NodeAt.f at H
 replace H := bs_ H
 obtain ⟨t135, A4, H⟩ := H
 by_cases c5 : t135 = true
 ·subst c5
  have H1 : (if 0 ≤ a1 then (if a1 < (l0_1.length : Int) then ((spec_PlacesAt.f k ((rd_T105 l0_1 a1).f0) ((rd_T105 l0_1 a1).f1) ((rd_T105 l0_1 a1).f2) ((rd_T105 l0_1 a1).f3) a2).bind fun bt137 => (some (bt137.1, bt137.2))) else (none)) else (none)) = some (r1, r2) := by rw [if_pos rfl] at H; exact H
  clear H
  have H := H1
  clear H1
  replace H := ifn_ H
  obtain ⟨c6, H⟩ := H
  have c6b0 := decide_eq_true c6
  clear c6
  replace H := ifn_ H
  obtain ⟨c7, H⟩ := H
  have c7b0 := decide_eq_true c7
  clear c7
  replace H := bs_ H
  obtain ⟨⟨t137, t138⟩, A8, H⟩ := H
  dsimp only at H
  simp only [Option.some.injEq, Prod.mk.injEq] at H
  obtain ⟨rfl, rfl⟩ := H
  go_enter Try.func103, Try.ntmps103
  go_wp2_with (first | ((with_reducible refine gd_ 3 ?_); refine bx_ 3 34 #[.int .i64 a0_0, .slice A0_1 l0_1.length c0_1, .slice A0_2 l0_2.length c0_2, .int .i64 a0_3, .int .i64 a0_4, .int .i64 a0_5, .int .i64 a0_6, .int .i64 a0_7, .slice A0_8 l0_8.length c0_8, .int .i64 a0_9] ?_; intro gb133 hg w9 hbox hb; refine sh3_ (below_step (bl_ HB) hb) hbox (ge_ hg (bl_ HB)) ?_; clear HB hb hbox hg; intro HB BK133 GE133) | ((with_reducible refine gd_ 6 ?_); refine bx_ 6 113 #[.int .i64 0, .int .i64 0] ?_; intro gb134 hg w10 hbox hb; refine sh6_ (blk_below (bk_ BK133) hb) (below_step (bl1_ HB GE133) hb) hbox (ge_ hg (bl1_ HB GE133)) (nl_ hg (bk_ BK133)) (ng_ hg (bk_ BK133)) ?_; clear BK133 HB hb hbox hg; intro BK133 HB BK134 GE134 NB133_134 NB134_133; have hnb11 := NB133_134.out; have hnc11 := NB134_133.out; have hcz12 := cf10_ BK133) | ((with_reducible refine gate_callee (f := 101) rfl ?_); refine gl_ 13 Try.func101 (spec_l1In.calls a1 0 (wrap64 ((l0_1.length : Int) - 1)) true _ A4.out) ?_; rintro e w' ⟨rfl, ⟨nd, rfl⟩⟩; refine ⟨_, rfl, ?_⟩; (try (rw [drewN_self w10]; generalize hq_ : World.drewN w10 _ = w10; have n0_ : Aside0 (w10.heap[gb133]? = some (.cells #[.int .i64 a0_0, .slice A0_1 l0_1.length c0_1, .slice A0_2 l0_2.length c0_2, .int .i64 a0_3, .int .i64 a0_4, .int .i64 a0_5, .int .i64 a0_6, .int .i64 a0_7, .slice A0_8 l0_8.length c0_8, .int .i64 a0_9] 34 (0, 0))) := ⟨by rw [← hq_]; exact (bk_ BK133)⟩; have n1_ : Aside0 (w10.heap[gb134]? = some (.cells #[.int .i64 0, .int .i64 0] 113 (0, 0))) := ⟨by rw [← hq_]; exact (bk_ BK134)⟩; have n2_ : Aside0 (Below w.heap.size w w10) := ⟨by rw [← hq_]; exact (bl2_ HB GE133 GE134)⟩; clear BK133 BK134 HB hq_; have BK133 := n0_; have BK134 := n1_; have HB := n2_; clear n0_ n1_ n2_)); have hcz13 := cf10_ BK133; have p136 : 0 ≤ (a1 : Int) := od_; have q136 : a1 < (l0_1.length : Int) := od_; obtain ⟨ad136, e136, hx136_0, hx136_1, hx136_2, hx136_3⟩ := at_T105 HR0_1.out a1 p136 q136; cases e136; replace hx136_0 := hbc_ HB hx136_0; replace hx136_1 := hbc_ HB hx136_1; replace hx136_2 := hbc_ HB hx136_2; replace hx136_3 := hbc_ HB hx136_3; replace p136 := eq_true p136; replace q136 := eq_true q136) | ((with_reducible refine gate_callee (f := 117) rfl ?_); refine gl_ 20 Try.func117 (spec_PlacesAt.calls k ((rd_T105 l0_1 a1).f0) ((rd_T105 l0_1 a1).f1) ((rd_T105 l0_1 a1).f2) ((rd_T105 l0_1 a1).f3) a2 t137 t138 _ A8.out) ?_; rintro e w14 ⟨rfl, hb⟩; refine ⟨_, rfl, sh3_ (blk_below (bk_ BK133) hb) (blk_below (bk_ BK134) hb) (below_step (bl2_ HB GE133 GE134) hb) ?_⟩; clear BK133 BK134 HB hb; intro BK133 BK134 HB; have hcz15 := cf2_ BK134))
  refine bodyPost_ret (results_cell_row rfl _ _ gb134 113 #[.int .i64 t137, .int .i64 t138] (0, 0) _ rfl (bp_ BK134) Try.underlying113 rfl (by kernel_rfl)) rfl ?_
  exact ⟨er_, bl2_ HB GE133 GE134⟩
 ·replace c5 := Bool.eq_false_iff.mpr c5
  subst c5
  have H1 : ((spec_IsSite.f a0_0 l0_1 l0_2 a0_3 a0_4 a0_5 a0_6 a0_7 l0_8 a0_9 a1).bind fun t139 => (if t139 = true then (if 0 ≤ (wrap64 (a1 - (l0_1.length : Int))) then (if (wrap64 (a1 - (l0_1.length : Int))) < (l0_2.length : Int) then ((spec_PlaceAt.f 0 ((rd_T109 l0_2 (wrap64 (a1 - (l0_1.length : Int)))).f1) ((rd_T109 l0_2 (wrap64 (a1 - (l0_1.length : Int)))).f2) 0 a2).bind fun t142 => (some (t142, 0))) else (none)) else (none)) else (some (0, 0)))) = some (r1, r2) := by rw [if_neg (show ¬ (false = true) by decide)] at H; exact H
  clear H
  have H := H1
  clear H1
  replace H := bs_ H
  obtain ⟨t139, A16, H⟩ := H
  by_cases c17 : t139 = true
  ·subst c17
   have H1 : (if 0 ≤ (wrap64 (a1 - (l0_1.length : Int))) then (if (wrap64 (a1 - (l0_1.length : Int))) < (l0_2.length : Int) then ((spec_PlaceAt.f 0 ((rd_T109 l0_2 (wrap64 (a1 - (l0_1.length : Int)))).f1) ((rd_T109 l0_2 (wrap64 (a1 - (l0_1.length : Int)))).f2) 0 a2).bind fun t142 => (some (t142, 0))) else (none)) else (none)) = some (r1, r2) := by rw [if_pos rfl] at H; exact H
   clear H
   have H := H1
   clear H1
   obtain ⟨ji18, hji18⟩ : ∃ j_ : Int, (wrap64 (a1 - (l0_1.length : Int))) = j_ := ⟨_, rfl⟩
   replace H : (if 0 ≤ (ji18) then (if (ji18) < (l0_2.length : Int) then ((spec_PlaceAt.f 0 ((rd_T109 l0_2 (ji18)).f1) ((rd_T109 l0_2 (ji18)).f2) 0 a2).bind fun t142 => (some (t142, 0))) else (none)) else (none)) = some (r1, r2) := by first | (rw [hji18] at H; exact H) | (simp only [hji18] at H ⊢; exact H)
   (try rw [hji18] at A4)
   (try rw [hji18] at A16)
   have hji18w : (IntKind.i64.wrap (a1 - (l0_1.length : Int))) = ji18 := (i64_w _).trans hji18
   replace H := ifn_ H
   obtain ⟨c19, H⟩ := H
   have c19b0 := decide_eq_true c19
   clear c19
   replace H := ifn_ H
   obtain ⟨c20, H⟩ := H
   have c20b0 := decide_eq_true c20
   clear c20
   replace H := bs_ H
   obtain ⟨t142, A21, H⟩ := H
   simp only [Option.some.injEq, Prod.mk.injEq] at H
   obtain ⟨rfl, rfl⟩ := H
   go_enter Try.func103, Try.ntmps103
   go_wp2_with (first | ((with_reducible refine gd_ 3 ?_); refine bx_ 3 34 #[.int .i64 a0_0, .slice A0_1 l0_1.length c0_1, .slice A0_2 l0_2.length c0_2, .int .i64 a0_3, .int .i64 a0_4, .int .i64 a0_5, .int .i64 a0_6, .int .i64 a0_7, .slice A0_8 l0_8.length c0_8, .int .i64 a0_9] ?_; intro gb133 hg w22 hbox hb; refine sh3_ (below_step (bl_ HB) hb) hbox (ge_ hg (bl_ HB)) ?_; clear HB hb hbox hg; intro HB BK133 GE133) | ((with_reducible refine gd_ 6 ?_); refine bx_ 6 113 #[.int .i64 0, .int .i64 0] ?_; intro gb134 hg w23 hbox hb; refine sh6_ (blk_below (bk_ BK133) hb) (below_step (bl1_ HB GE133) hb) hbox (ge_ hg (bl1_ HB GE133)) (nl_ hg (bk_ BK133)) (ng_ hg (bk_ BK133)) ?_; clear BK133 HB hb hbox hg; intro BK133 HB BK134 GE134 NB133_134 NB134_133; have hnb24 := NB133_134.out; have hnc24 := NB134_133.out; have hcz25 := cf10_ BK133) | ((with_reducible refine gate_callee (f := 101) rfl ?_); refine gl_ 13 Try.func101 (spec_l1In.calls a1 0 (wrap64 ((l0_1.length : Int) - 1)) false _ A4.out) ?_; rintro e w' ⟨rfl, ⟨nd, rfl⟩⟩; refine ⟨_, rfl, ?_⟩; (try (rw [drewN_self w23]; generalize hq_ : World.drewN w23 _ = w23; have n0_ : Aside0 (w23.heap[gb133]? = some (.cells #[.int .i64 a0_0, .slice A0_1 l0_1.length c0_1, .slice A0_2 l0_2.length c0_2, .int .i64 a0_3, .int .i64 a0_4, .int .i64 a0_5, .int .i64 a0_6, .int .i64 a0_7, .slice A0_8 l0_8.length c0_8, .int .i64 a0_9] 34 (0, 0))) := ⟨by rw [← hq_]; exact (bk_ BK133)⟩; have n1_ : Aside0 (w23.heap[gb134]? = some (.cells #[.int .i64 0, .int .i64 0] 113 (0, 0))) := ⟨by rw [← hq_]; exact (bk_ BK134)⟩; have n2_ : Aside0 (Below w.heap.size w w23) := ⟨by rw [← hq_]; exact (bl2_ HB GE133 GE134)⟩; clear BK133 BK134 HB hq_; have BK133 := n0_; have BK134 := n1_; have HB := n2_; clear n0_ n1_ n2_)); have hcz26 := cf10_ BK133) | ((with_reducible refine gate_callee (f := 118) rfl ?_); refine gl_ 23 Try.func118 (spec_IsSite.calls a0_0 _ _ l0_1 _ _ l0_2 a0_3 a0_4 a0_5 a0_6 a0_7 _ _ l0_8 a0_9 a1 true _ (ck_ HR0_1 HB) HC0_1.out (ck_ HR0_2 HB) HC0_2.out (ck_ HR0_8 HB) HC0_8.out A16.out) ?_; rintro e w27 ⟨rfl, hb⟩; refine ⟨_, rfl, sh3_ (blk_below (bk_ BK133) hb) (blk_below (bk_ BK134) hb) (below_step (bl2_ HB GE133 GE134) hb) ?_⟩; clear BK133 BK134 HB hb; intro BK133 BK134 HB; have hcz28 := cf10_ BK133; have p140 : 0 ≤ ((ji18) : Int) := od_; have q140 : (ji18) < (l0_2.length : Int) := od_; obtain ⟨ad140, e140, hx140_0, hx140_1, hx140_2⟩ := at_T109 HR0_2.out (ji18) p140 q140; cases e140; replace hx140_0 := hbc_ HB hx140_0; replace hx140_1 := hbc_ HB hx140_1; replace hx140_2 := hbc_ HB hx140_2; replace p140 := eq_true p140; replace q140 := eq_true q140) | ((with_reducible refine gd_ 7 ?_); refine bx_ 7 109 #[.int .i64 0, .int .i64 0, .int .i64 0] ?_; intro gb141 hg w29 hbox hb; refine sh9_ (blk_below (bk_ BK133) hb) (blk_below (bk_ BK134) hb) (below_step (bl2_ HB GE133 GE134) hb) hbox (ge_ hg (bl2_ HB GE133 GE134)) (nl_ hg (bk_ BK133)) (ng_ hg (bk_ BK133)) (nl_ hg (bk_ BK134)) (ng_ hg (bk_ BK134)) ?_; clear BK133 BK134 HB hb hbox hg; intro BK133 BK134 HB BK141 GE141 NB133_141 NB141_133 NB134_141 NB141_134; have hnb30 := NB141_133.out; have hnc30 := NB133_141.out; have hnb31 := NB141_134.out; have hnc31 := NB134_141.out; have hcz32 := cf3_ BK141) | ((with_reducible refine gate_callee (f := 119) rfl ?_); refine goesL_ (some 41) rfl rfl Try.func119 (by kernel_rfl) rfl #[.agg #[.int .i64 0, .int .i64 ((rd_T109 l0_2 (ji18)).f1), .int .i64 ((rd_T109 l0_2 (ji18)).f2), .int .i64 0], .int .i64 a2] rfl (by (try simp only [List.map_toArray, List.map_cons, List.map_nil]); first | done | (simp only [hji18]; rfl) | rfl | (simp only [List.length_drop, List.length_take]; rfl)) ?_; (with_reducible refine (spec_PlaceAt.calls 0 ((rd_T109 l0_2 (ji18)).f1) ((rd_T109 l0_2 (ji18)).f2) 0 a2 t142 _ A21.out).mono ?_); rintro e w33 ⟨rfl, hb⟩; refine ⟨_, rfl, sh4_ (blk_below (g := gb133) (o := .cells #[.int .i64 a0_0, .slice A0_1 l0_1.length c0_1, .slice (some ad140) l0_2.length c0_2, .int .i64 a0_3, .int .i64 a0_4, .int .i64 a0_5, .int .i64 a0_6, .int .i64 a0_7, .slice A0_8 l0_8.length c0_8, .int .i64 a0_9] 34 (0, 0)) (bp_ BK133) hb) (blk_below (g := gb134) (o := .cells #[.int .i64 0, .int .i64 0] 113 (0, 0)) (bp_ BK134) hb) (blk_below (g := gb141) (o := .cells #[.int .i64 ((rd_T109 l0_2 (ji18)).f0), .int .i64 ((rd_T109 l0_2 (ji18)).f1), .int .i64 ((rd_T109 l0_2 (ji18)).f2)] 109 (0, 0)) (bp_ BK141) hb) (below_step (bl3_ HB GE133 GE134 GE141) hb) ?_⟩; clear BK133 BK134 BK141 HB hb; intro BK133 BK134 BK141 HB; have hcz34 := cf2_ BK134))
   refine bodyPost_ret (results_cell_row rfl _ _ gb134 113 #[.int .i64 t142, .int .i64 0] (0, 0) _ rfl (bp_ BK134) Try.underlying113 rfl (by kernel_rfl)) rfl ?_
   exact ⟨by first | rfl | (simp [errW_none, errW_some] <;> rfl) | (simp only [← hji18]; first | rfl | (simp [errW_none, errW_some] <;> rfl)) | (simp [*, errW_none, errW_some] <;> rfl), bl3_ HB GE133 GE134 GE141⟩
  ·replace c17 := Bool.eq_false_iff.mpr c17
   subst c17
   have H1 : (some (0, 0)) = some (r1, r2) := by rw [if_neg (show ¬ (false = true) by decide)] at H; exact H
   clear H
   have H := H1
   clear H1
   simp only [Option.some.injEq, Prod.mk.injEq] at H
   obtain ⟨rfl, rfl⟩ := H
   go_enter Try.func103, Try.ntmps103
   go_wp2_with (first | ((with_reducible refine gd_ 3 ?_); refine bx_ 3 34 #[.int .i64 a0_0, .slice A0_1 l0_1.length c0_1, .slice A0_2 l0_2.length c0_2, .int .i64 a0_3, .int .i64 a0_4, .int .i64 a0_5, .int .i64 a0_6, .int .i64 a0_7, .slice A0_8 l0_8.length c0_8, .int .i64 a0_9] ?_; intro gb133 hg w35 hbox hb; refine sh3_ (below_step (bl_ HB) hb) hbox (ge_ hg (bl_ HB)) ?_; clear HB hb hbox hg; intro HB BK133 GE133) | ((with_reducible refine gd_ 6 ?_); refine bx_ 6 113 #[.int .i64 0, .int .i64 0] ?_; intro gb134 hg w36 hbox hb; refine sh6_ (blk_below (bk_ BK133) hb) (below_step (bl1_ HB GE133) hb) hbox (ge_ hg (bl1_ HB GE133)) (nl_ hg (bk_ BK133)) (ng_ hg (bk_ BK133)) ?_; clear BK133 HB hb hbox hg; intro BK133 HB BK134 GE134 NB133_134 NB134_133; have hnb37 := NB133_134.out; have hnc37 := NB134_133.out; have hcz38 := cf10_ BK133) | ((with_reducible refine gate_callee (f := 101) rfl ?_); refine gl_ 13 Try.func101 (spec_l1In.calls a1 0 (wrap64 ((l0_1.length : Int) - 1)) false _ A4.out) ?_; rintro e w' ⟨rfl, ⟨nd, rfl⟩⟩; refine ⟨_, rfl, ?_⟩; (try (rw [drewN_self w36]; generalize hq_ : World.drewN w36 _ = w36; have n0_ : Aside0 (w36.heap[gb133]? = some (.cells #[.int .i64 a0_0, .slice A0_1 l0_1.length c0_1, .slice A0_2 l0_2.length c0_2, .int .i64 a0_3, .int .i64 a0_4, .int .i64 a0_5, .int .i64 a0_6, .int .i64 a0_7, .slice A0_8 l0_8.length c0_8, .int .i64 a0_9] 34 (0, 0))) := ⟨by rw [← hq_]; exact (bk_ BK133)⟩; have n1_ : Aside0 (w36.heap[gb134]? = some (.cells #[.int .i64 0, .int .i64 0] 113 (0, 0))) := ⟨by rw [← hq_]; exact (bk_ BK134)⟩; have n2_ : Aside0 (Below w.heap.size w w36) := ⟨by rw [← hq_]; exact (bl2_ HB GE133 GE134)⟩; clear BK133 BK134 HB hq_; have BK133 := n0_; have BK134 := n1_; have HB := n2_; clear n0_ n1_ n2_)); have hcz39 := cf10_ BK133) | ((with_reducible refine gate_callee (f := 118) rfl ?_); refine gl_ 23 Try.func118 (spec_IsSite.calls a0_0 _ _ l0_1 _ _ l0_2 a0_3 a0_4 a0_5 a0_6 a0_7 _ _ l0_8 a0_9 a1 false _ (ck_ HR0_1 HB) HC0_1.out (ck_ HR0_2 HB) HC0_2.out (ck_ HR0_8 HB) HC0_8.out A16.out) ?_; rintro e w40 ⟨rfl, hb⟩; refine ⟨_, rfl, sh3_ (blk_below (bk_ BK133) hb) (blk_below (bk_ BK134) hb) (below_step (bl2_ HB GE133 GE134) hb) ?_⟩; clear BK133 BK134 HB hb; intro BK133 BK134 HB; have hcz41 := cf2_ BK134))
   refine bodyPost_ret (results_cell_row rfl _ _ gb134 113 #[.int .i64 0, .int .i64 0] (0, 0) _ rfl (bp_ BK134) Try.underlying113 rfl (by kernel_rfl)) rfl ?_
   exact ⟨er_, bl2_ HB GE133 GE134⟩

/-! ### spec_PlaneOf: function 125 -/
def spec_PlaneOf.f (a0_0 : Int) (l0_1 : List (S105)) (l0_2 : List (S109)) (a0_3 : Int) (a0_4 : Int) (a0_5 : Int) (a0_6 : Int) (a0_7 : Int) (l0_8 : List (S115)) (a0_9 : Int) (a1 : Int) : Option (Int) := (spec_l1In.f a1 0 (wrap64 ((l0_1.length : Int) - 1))).bind fun t144 => (if t144 = true then (if 0 ≤ a1 then (if a1 < (l0_1.length : Int) then (some ((rd_T105 l0_1 a1).f0)) else (none)) else (none)) else ((spec_IsSite.f a0_0 l0_1 l0_2 a0_3 a0_4 a0_5 a0_6 a0_7 l0_8 a0_9 a1).bind fun t146 => (if t146 = true then (if 0 ≤ (wrap64 (a1 - (l0_1.length : Int))) then (if (wrap64 (a1 - (l0_1.length : Int))) < (l0_2.length : Int) then (some ((rd_T109 l0_2 (wrap64 (a1 - (l0_1.length : Int)))).f0)) else (none)) else (none)) else (some (-1)))))
set_option maxHeartbeats 8000000 in
set_option maxRecDepth 100000 in
theorem spec_PlaneOf.calls (a0_0 : Int) (A0_1 : Option Addr) (c0_1 : Nat) (l0_1 : List (S105)) (A0_2 : Option Addr) (c0_2 : Nat) (l0_2 : List (S109)) (a0_3 : Int) (a0_4 : Int) (a0_5 : Int) (a0_6 : Int) (a0_7 : Int) (A0_8 : Option Addr) (c0_8 : Nat) (l0_8 : List (S115)) (a0_9 : Int) (a1 : Int) (r : Int) (w : World) (hr0_1 : Kd.C k105 w A0_1 l0_1.length l0_1) (hc0_1 : l0_1.length ≤ c0_1) (hr0_2 : Kd.C k109 w A0_2 l0_2.length l0_2) (hc0_2 : l0_2.length ≤ c0_2) (hr0_8 : Kd.C k115 w A0_8 l0_8.length l0_8) (hc0_8 : l0_8.length ≤ c0_8) (h : spec_PlaneOf.f a0_0 l0_1 l0_2 a0_3 a0_4 a0_5 a0_6 a0_7 l0_8 a0_9 a1 = some r) :
  Calls Try.prog 125 #[.agg #[.int .i64 a0_0, .slice A0_1 l0_1.length c0_1, .slice A0_2 l0_2.length c0_2, .int .i64 a0_3, .int .i64 a0_4, .int .i64 a0_5, .int .i64 a0_6, .int .i64 a0_7, .slice A0_8 l0_8.length c0_8, .int .i64 a0_9], .int .i64 a1] w fun e w' => e = .returned (.int .i64 r) ∧ Below w.heap.size w w' := by
 have hu34 := Try.underlying34
 have HR0_1 := Aside0.mk hr0_1
 have HC0_1 := Aside0.mk hc0_1
 clear hr0_1 hc0_1
 have HR0_2 := Aside0.mk hr0_2
 have HC0_2 := Aside0.mk hc0_2
 clear hr0_2 hc0_2
 have HR0_8 := Aside0.mk hr0_8
 have HC0_8 := Aside0.mk hc0_8
 clear hr0_8 hc0_8
 have HB := Aside0.mk (Below.refl w.heap.size w)
 have H := h
 clear h
 unfold spec_PlaneOf.f at H
 replace H := bs_ H
 obtain ⟨t144, A3, H⟩ := H
 by_cases c4 : t144 = true
 ·subst c4
  rw [if_pos rfl] at H
  replace H := ifn_ H
  obtain ⟨c5, H⟩ := H
  have c5b0 := decide_eq_true c5
  clear c5
  replace H := ifn_ H
  obtain ⟨c6, H⟩ := H
  have c6b0 := decide_eq_true c6
  clear c6
  obtain rfl := Option.some.inj H
  go_enter Try.func125, Try.ntmps125
  go_wp2_with (first | ((with_reducible refine gd_ 2 ?_); refine bx_ 2 34 #[.int .i64 a0_0, .slice A0_1 l0_1.length c0_1, .slice A0_2 l0_2.length c0_2, .int .i64 a0_3, .int .i64 a0_4, .int .i64 a0_5, .int .i64 a0_6, .int .i64 a0_7, .slice A0_8 l0_8.length c0_8, .int .i64 a0_9] ?_; intro gb143 hg w7 hbox hb; refine sh3_ (below_step (bl_ HB) hb) hbox (ge_ hg (bl_ HB)) ?_; clear HB hb hbox hg; intro HB BK143 GE143; have hcz8 := cf10_ BK143) | ((with_reducible refine gate_callee (f := 101) rfl ?_); refine gl_ 10 Try.func101 (spec_l1In.calls a1 0 (wrap64 ((l0_1.length : Int) - 1)) true _ A3.out) ?_; rintro e w' ⟨rfl, ⟨nd, rfl⟩⟩; refine ⟨_, rfl, ?_⟩; have p145 : 0 ≤ (a1 : Int) := od_; have q145 : a1 < (l0_1.length : Int) := od_; obtain ⟨ad145, e145, hx145_0, hx145_1, hx145_2, hx145_3⟩ := at_T105 HR0_1.out a1 p145 q145; cases e145; replace hx145_0 := hbc_ HB hx145_0; replace hx145_1 := hbc_ HB hx145_1; replace hx145_2 := hbc_ HB hx145_2; replace hx145_3 := hbc_ HB hx145_3; replace p145 := eq_true p145; replace q145 := eq_true q145))
  go_ret
  exact ⟨er_, bl1_ HB GE143⟩
 ·replace c4 := Bool.eq_false_iff.mpr c4
  subst c4
  have H1 : ((spec_IsSite.f a0_0 l0_1 l0_2 a0_3 a0_4 a0_5 a0_6 a0_7 l0_8 a0_9 a1).bind fun t146 => (if t146 = true then (if 0 ≤ (wrap64 (a1 - (l0_1.length : Int))) then (if (wrap64 (a1 - (l0_1.length : Int))) < (l0_2.length : Int) then (some ((rd_T109 l0_2 (wrap64 (a1 - (l0_1.length : Int)))).f0)) else (none)) else (none)) else (some (-1)))) = some r := by rw [if_neg (show ¬ (false = true) by decide)] at H; exact H
  clear H
  have H := H1
  clear H1
  replace H := bs_ H
  obtain ⟨t146, A9, H⟩ := H
  by_cases c10 : t146 = true
  ·subst c10
   rw [if_pos rfl] at H
   obtain ⟨ji11, hji11⟩ : ∃ j_ : Int, (wrap64 (a1 - (l0_1.length : Int))) = j_ := ⟨_, rfl⟩
   replace H : (if 0 ≤ (ji11) then (if (ji11) < (l0_2.length : Int) then (some ((rd_T109 l0_2 (ji11)).f0)) else (none)) else (none)) = some r := by first | (rw [hji11] at H; exact H) | (simp only [hji11] at H ⊢; exact H)
   (try rw [hji11] at A3)
   (try rw [hji11] at A9)
   have hji11w : (IntKind.i64.wrap (a1 - (l0_1.length : Int))) = ji11 := (i64_w _).trans hji11
   replace H := ifn_ H
   obtain ⟨c12, H⟩ := H
   have c12b0 := decide_eq_true c12
   clear c12
   replace H := ifn_ H
   obtain ⟨c13, H⟩ := H
   have c13b0 := decide_eq_true c13
   clear c13
   obtain rfl := Option.some.inj H
   go_enter Try.func125, Try.ntmps125
   go_wp2_with (first | ((with_reducible refine gd_ 2 ?_); refine bx_ 2 34 #[.int .i64 a0_0, .slice A0_1 l0_1.length c0_1, .slice A0_2 l0_2.length c0_2, .int .i64 a0_3, .int .i64 a0_4, .int .i64 a0_5, .int .i64 a0_6, .int .i64 a0_7, .slice A0_8 l0_8.length c0_8, .int .i64 a0_9] ?_; intro gb143 hg w14 hbox hb; refine sh3_ (below_step (bl_ HB) hb) hbox (ge_ hg (bl_ HB)) ?_; clear HB hb hbox hg; intro HB BK143 GE143; have hcz15 := cf10_ BK143) | ((with_reducible refine gate_callee (f := 101) rfl ?_); refine gl_ 10 Try.func101 (spec_l1In.calls a1 0 (wrap64 ((l0_1.length : Int) - 1)) false _ A3.out) ?_; rintro e w' ⟨rfl, ⟨nd, rfl⟩⟩; refine ⟨_, rfl, ?_⟩) | ((with_reducible refine gate_callee (f := 118) rfl ?_); refine goesL_ (some 19) rfl rfl Try.func118 (by kernel_rfl) rfl #[.agg #[.int .i64 a0_0, .slice A0_1 l0_1.length c0_1, .slice A0_2 l0_2.length c0_2, .int .i64 a0_3, .int .i64 a0_4, .int .i64 a0_5, .int .i64 a0_6, .int .i64 a0_7, .slice A0_8 l0_8.length c0_8, .int .i64 a0_9], .int .i64 a1] rfl mp_ ?_; (with_reducible refine (spec_IsSite.calls a0_0 _ _ l0_1 _ _ l0_2 a0_3 a0_4 a0_5 a0_6 a0_7 _ _ l0_8 a0_9 a1 true _ ?side1 ?side2 ?side3 ?side4 ?side5 ?side6 A9.out).mono ?_); (case side1 => repeat (first | exact (Kd.C_below HR0_1.out (bl1_ HB GE143)) | (with_reducible refine Kd.C_alloc ?_ _) | (with_reducible refine Kd.C_drewN ?_ _) | (with_reducible refine Kd.C_drew ?_))); (case side2 => exact HC0_1.out); (case side3 => repeat (first | exact (Kd.C_below HR0_2.out (bl1_ HB GE143)) | (with_reducible refine Kd.C_alloc ?_ _) | (with_reducible refine Kd.C_drewN ?_ _) | (with_reducible refine Kd.C_drew ?_))); (case side4 => exact HC0_2.out); (case side5 => repeat (first | exact (Kd.C_below HR0_8.out (bl1_ HB GE143)) | (with_reducible refine Kd.C_alloc ?_ _) | (with_reducible refine Kd.C_drewN ?_ _) | (with_reducible refine Kd.C_drew ?_))); (case side6 => exact HC0_8.out); rintro e w16 ⟨rfl, hb⟩; refine ⟨_, rfl, sh2_ (blk_below (bk_ BK143) hb) (below_step (bl1_ HB GE143) hb) ?_⟩; clear BK143 HB hb; intro BK143 HB; have hcz17 := cf10_ BK143; have p147 : 0 ≤ ((ji11) : Int) := od_; have q147 : (ji11) < (l0_2.length : Int) := od_; obtain ⟨ad147, e147, hx147_0, hx147_1, hx147_2⟩ := at_T109 HR0_2.out (ji11) p147 q147; cases e147; replace hx147_0 := hbc_ HB hx147_0; replace hx147_1 := hbc_ HB hx147_1; replace hx147_2 := hbc_ HB hx147_2; replace p147 := eq_true p147; replace q147 := eq_true q147))
   go_ret
   exact ⟨by first | rfl | (simp [errW_none, errW_some] <;> rfl) | (simp only [← hji11]; first | rfl | (simp [errW_none, errW_some] <;> rfl)) | (simp [*, errW_none, errW_some] <;> rfl), bl1_ HB GE143⟩
  ·replace c10 := Bool.eq_false_iff.mpr c10
   subst c10
   have H1 : (some (-1)) = some r := by rw [if_neg (show ¬ (false = true) by decide)] at H; exact H
   clear H
   have H := H1
   clear H1
   obtain rfl := Option.some.inj H
   go_enter Try.func125, Try.ntmps125
   go_wp2_with (first | ((with_reducible refine gd_ 2 ?_); refine bx_ 2 34 #[.int .i64 a0_0, .slice A0_1 l0_1.length c0_1, .slice A0_2 l0_2.length c0_2, .int .i64 a0_3, .int .i64 a0_4, .int .i64 a0_5, .int .i64 a0_6, .int .i64 a0_7, .slice A0_8 l0_8.length c0_8, .int .i64 a0_9] ?_; intro gb143 hg w18 hbox hb; refine sh3_ (below_step (bl_ HB) hb) hbox (ge_ hg (bl_ HB)) ?_; clear HB hb hbox hg; intro HB BK143 GE143; have hcz19 := cf10_ BK143) | ((with_reducible refine gate_callee (f := 101) rfl ?_); refine gl_ 10 Try.func101 (spec_l1In.calls a1 0 (wrap64 ((l0_1.length : Int) - 1)) false _ A3.out) ?_; rintro e w' ⟨rfl, ⟨nd, rfl⟩⟩; refine ⟨_, rfl, ?_⟩) | ((with_reducible refine gate_callee (f := 118) rfl ?_); refine goesL_ (some 19) rfl rfl Try.func118 (by kernel_rfl) rfl #[.agg #[.int .i64 a0_0, .slice A0_1 l0_1.length c0_1, .slice A0_2 l0_2.length c0_2, .int .i64 a0_3, .int .i64 a0_4, .int .i64 a0_5, .int .i64 a0_6, .int .i64 a0_7, .slice A0_8 l0_8.length c0_8, .int .i64 a0_9], .int .i64 a1] rfl mp_ ?_; (with_reducible refine (spec_IsSite.calls a0_0 _ _ l0_1 _ _ l0_2 a0_3 a0_4 a0_5 a0_6 a0_7 _ _ l0_8 a0_9 a1 false _ ?side1 ?side2 ?side3 ?side4 ?side5 ?side6 A9.out).mono ?_); (case side1 => repeat (first | exact (Kd.C_below HR0_1.out (bl1_ HB GE143)) | (with_reducible refine Kd.C_alloc ?_ _) | (with_reducible refine Kd.C_drewN ?_ _) | (with_reducible refine Kd.C_drew ?_))); (case side2 => exact HC0_1.out); (case side3 => repeat (first | exact (Kd.C_below HR0_2.out (bl1_ HB GE143)) | (with_reducible refine Kd.C_alloc ?_ _) | (with_reducible refine Kd.C_drewN ?_ _) | (with_reducible refine Kd.C_drew ?_))); (case side4 => exact HC0_2.out); (case side5 => repeat (first | exact (Kd.C_below HR0_8.out (bl1_ HB GE143)) | (with_reducible refine Kd.C_alloc ?_ _) | (with_reducible refine Kd.C_drewN ?_ _) | (with_reducible refine Kd.C_drew ?_))); (case side6 => exact HC0_8.out); rintro e w20 ⟨rfl, hb⟩; refine ⟨_, rfl, sh2_ (blk_below (bk_ BK143) hb) (below_step (bl1_ HB GE143) hb) ?_⟩; clear BK143 HB hb; intro BK143 HB))
   go_ret
   exact ⟨er_, bl1_ HB GE143⟩

/-! ### spec_Max: function 73 -/
def spec_Max.f (a0 : Int) (a1 : Int) : Option (Int) := if a1 > a0 then (some a1) else (some a0)
set_option maxHeartbeats 8000000 in
set_option maxRecDepth 100000 in
theorem spec_Max.calls (a0 : Int) (a1 : Int) (r : Int) (w : World) (h : spec_Max.f a0 a1 = some r) :
  Calls Try.prog 73 #[.int .i64 a0, .int .i64 a1] w fun e w' => e = .returned (.int .i64 r) ∧ Drawn0 w w' := by
 have H := h
 clear h
 unfold spec_Max.f at H
 by_cases c3 : a1 > a0
 ·rw [if_pos c3] at H
  have c3b0 : decide (a0 < a1) = true := decide_eq_true c3
  clear c3
  obtain rfl := Option.some.inj H
  go_enter Try.func73, Try.ntmps73
  go_wp2
  go_ret
  exact ⟨by first | rfl | (simp; done) | (simp [*]; done), by repeat (first | exact Drawn0.refl _ | apply Drawn0.step)⟩
 ·rw [if_neg c3] at H
  have c3b0 : decide (a0 < a1) = false := decide_eq_false c3
  clear c3
  obtain rfl := Option.some.inj H
  go_enter Try.func73, Try.ntmps73
  go_wp2
  go_ret
  exact ⟨by first | rfl | (simp; done) | (simp [*]; done), by repeat (first | exact Drawn0.refl _ | apply Drawn0.step)⟩

end Go.Proofs.Ytcjfalmhohcifaa.PFnExactSpeakingSpans
