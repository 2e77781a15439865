-- Written by a program of this session for this claim (the kit's printer with changes).
import Derived.Test.YtopbkdcicidajaaQFnShadowsx0
namespace Go.Proofs.Ytopbkdcicidajaa.PFnShadows
open Go.RowKit Go.Proofs.YtopbkdcicidajaaW.PrintWords Go.Proofs.YtopbkdcicidajaaW.PrintLast Go.Proofs.YtopbkdcicidajaaW.PrintMore
attribute [local go_sem] max2_int min2_int max_two min_two max_three min_three max_four min_four   -- for this text's walks alone
set_option linter.unusedVariables false
set_option linter.unusedSimpArgs false

/-! ### laws_big: function 8 -/
def laws_big.f (l0 : List Int) : Option (Bool) := some (decide ((l0.length : Int) > 1048576))
set_option maxHeartbeats 8000000 in
set_option maxRecDepth 100000 in
theorem laws_big.calls (A0 : Option Addr) (c0 : Nat) (l0 : List Int) (r : Bool) (w : World) (hr0 : Kd.C (Kd.int .u8) w A0 l0.length l0) (hc0 : l0.length ≤ c0) (h : laws_big.f l0 = some r) :
  Calls Try.prog 8 #[.slice A0 l0.length c0] w fun e w' => e = .returned (.bool r) ∧ Drawn0 w w' := by
 have HR0 := Aside0.mk hr0
 have HC0 := Aside0.mk hc0
 clear hr0 hc0
 have H := h
 clear h
 unfold laws_big.f at H
 obtain rfl := Option.some.inj H
 go_enter Try.func8, Try.ntmps8
 go_wp2
 go_ret
 exact ⟨by first | rfl | (simp; done) | (simp [*]; done), by repeat (first | exact Drawn0.refl _ | apply Drawn0.step)⟩

/-! ### impl_InRange: function 93 -/
def impl_InRange.f (a0 : Int) (a1 : Int) (a2 : Int) : Option (Bool) := if a1 ≤ a0 then (some (decide (a0 ≤ a2))) else (some false)
set_option maxHeartbeats 8000000 in
set_option maxRecDepth 100000 in
theorem impl_InRange.calls (a0 : Int) (a1 : Int) (a2 : Int) (r : Bool) (w : World) (h : impl_InRange.f a0 a1 a2 = some r) :
  Calls Try.prog 93 #[iv_ a0, iv_ a1, iv_ a2] w fun e w' => e = .returned (.bool r) ∧ Drawn0 w w' := by
 have H := h
 clear h
 unfold impl_InRange.f at H
 by_cases c4 : a1 ≤ a0
 ·rw [if_pos c4] at H
  have c4b0 := decide_eq_true c4
  clear c4
  obtain rfl := Option.some.inj H
  go_enter Try.func93, Try.ntmps93
  go_wp2
  go_ret
  exact ⟨by first | rfl | (simp; done) | (simp [*]; done), by repeat (first | exact Drawn0.refl _ | apply Drawn0.step)⟩
 ·rw [if_neg c4] at H
  have c4b0 := decide_eq_false c4
  clear c4
  obtain rfl := Option.some.inj H
  go_enter Try.func93, Try.ntmps93
  go_wp2
  go_ret
  exact ⟨by first | rfl | (simp; done) | (simp [*]; done), by repeat (first | exact Drawn0.refl _ | apply Drawn0.step)⟩

/-! ### impl_isSatellite: function 53 -/
def impl_isSatellite.f (a0_0 : Int) (l0_1 : List (S72)) (l0_2 : List (S74)) (a0_3 : Int) (a0_4 : Int) (a0_5 : Int) (a0_6 : Int) (a0_7 : Int) (l0_8 : List (S88)) (a0_9 : Int) (a1 : Int) : Option (Bool) := (impl_InRange.f a1 0 (wrap64 ((l0_1.length : Int) - 1))).bind fun t102 => (some t102)
set_option maxHeartbeats 8000000 in
set_option maxRecDepth 100000 in
theorem impl_isSatellite.calls (a0_0 : Int) (A0_1 : Option Addr) (c0_1 : Nat) (l0_1 : List (S72)) (A0_2 : Option Addr) (c0_2 : Nat) (l0_2 : List (S74)) (a0_3 : Int) (a0_4 : Int) (a0_5 : Int) (a0_6 : Int) (a0_7 : Int) (A0_8 : Option Addr) (c0_8 : Nat) (l0_8 : List (S88)) (a0_9 : Int) (a1 : Int) (r : Bool) (w : World) (hr0_1 : Kd.C k72 w A0_1 l0_1.length l0_1) (hc0_1 : l0_1.length ≤ c0_1) (hr0_2 : Kd.C k74 w A0_2 l0_2.length l0_2) (hc0_2 : l0_2.length ≤ c0_2) (hr0_8 : Kd.C k88 w A0_8 l0_8.length l0_8) (hc0_8 : l0_8.length ≤ c0_8) (h : impl_isSatellite.f a0_0 l0_1 l0_2 a0_3 a0_4 a0_5 a0_6 a0_7 l0_8 a0_9 a1 = some r) :
  Calls Try.prog 53 #[.agg #[iv_ a0_0, .slice A0_1 l0_1.length c0_1, .slice A0_2 l0_2.length c0_2, iv_ a0_3, iv_ a0_4, iv_ a0_5, iv_ a0_6, iv_ a0_7, .slice A0_8 l0_8.length c0_8, iv_ a0_9], iv_ a1] w fun e w' => e = .returned (.bool r) ∧ Below w.heap.size w w' := by
 have hu28 := Try.underlying28
 have HR0_1 := Aside0.mk hr0_1
 have HC0_1 := Aside0.mk hc0_1
 clear hr0_1 hc0_1
 have HR0_2 := Aside0.mk hr0_2
 have HC0_2 := Aside0.mk hc0_2
 clear hr0_2 hc0_2
 have HR0_8 := Aside0.mk hr0_8
 have HC0_8 := Aside0.mk hc0_8
 clear hr0_8 hc0_8
 have HB := Aside0.mk (Below.refl w.heap.size w)
 have H := h
 clear h
 unfold impl_isSatellite.f at H
 replace H := bs_ H
 obtain ⟨t102, A3, H⟩ := H
 obtain rfl := Option.some.inj H
 go_enter Try.func53, Try.ntmps53
 go_wp2_with (first | ((with_reducible refine gd_ 2 ?_); refine bx_ 2 28 #[iv_ a0_0, .slice A0_1 l0_1.length c0_1, .slice A0_2 l0_2.length c0_2, iv_ a0_3, iv_ a0_4, iv_ a0_5, iv_ a0_6, iv_ a0_7, .slice A0_8 l0_8.length c0_8, iv_ a0_9] ?_; intro gb101 hg w4 hbox hb; refine sh3_ (below_step (bl_ HB) hb) hbox (ge_ hg (bl_ HB)) ?_; clear HB hb hbox hg; intro HB BK101 GE101; have hcz5 := cf10_ BK101) | ((with_reducible refine gate_callee (f := 93) rfl ?_); refine gl_ 10 Try.func93 (impl_InRange.calls a1 0 (wrap64 ((l0_1.length : Int) - 1)) t102 _ A3.out) ?_; rintro e w' ⟨rfl, ⟨nd, rfl⟩⟩; refine ⟨_, rfl, ?_⟩))
 go_ret
 exact ⟨by first | (rw [hRT_.out]; rfl) | exact er_, bl1_ HB GE101⟩

/-! ### impl_NodesOf: function 41 -/
def impl_NodesOf.f (a0_0 : Int) (l0_1 : List (S72)) (l0_2 : List (S74)) (a0_3 : Int) (a0_4 : Int) (a0_5 : Int) (a0_6 : Int) (a0_7 : Int) (l0_8 : List (S88)) (a0_9 : Int) : Option (Int) := some (wrap64 ((l0_1.length : Int) + (l0_2.length : Int)))
set_option maxHeartbeats 8000000 in
set_option maxRecDepth 100000 in
theorem impl_NodesOf.calls (a0_0 : Int) (A0_1 : Option Addr) (c0_1 : Nat) (l0_1 : List (S72)) (A0_2 : Option Addr) (c0_2 : Nat) (l0_2 : List (S74)) (a0_3 : Int) (a0_4 : Int) (a0_5 : Int) (a0_6 : Int) (a0_7 : Int) (A0_8 : Option Addr) (c0_8 : Nat) (l0_8 : List (S88)) (a0_9 : Int) (r : Int) (w : World) (hr0_1 : Kd.C k72 w A0_1 l0_1.length l0_1) (hc0_1 : l0_1.length ≤ c0_1) (hr0_2 : Kd.C k74 w A0_2 l0_2.length l0_2) (hc0_2 : l0_2.length ≤ c0_2) (hr0_8 : Kd.C k88 w A0_8 l0_8.length l0_8) (hc0_8 : l0_8.length ≤ c0_8) (h : impl_NodesOf.f a0_0 l0_1 l0_2 a0_3 a0_4 a0_5 a0_6 a0_7 l0_8 a0_9 = some r) :
  Calls Try.prog 41 #[.agg #[iv_ a0_0, .slice A0_1 l0_1.length c0_1, .slice A0_2 l0_2.length c0_2, iv_ a0_3, iv_ a0_4, iv_ a0_5, iv_ a0_6, iv_ a0_7, .slice A0_8 l0_8.length c0_8, iv_ a0_9]] w fun e w' => e = .returned (iv_ r) ∧ Below w.heap.size w w' := by
 have hu28 := Try.underlying28
 have HR0_1 := Aside0.mk hr0_1
 have HC0_1 := Aside0.mk hc0_1
 clear hr0_1 hc0_1
 have HR0_2 := Aside0.mk hr0_2
 have HC0_2 := Aside0.mk hc0_2
 clear hr0_2 hc0_2
 have HR0_8 := Aside0.mk hr0_8
 have HC0_8 := Aside0.mk hc0_8
 clear hr0_8 hc0_8
 have HB := Aside0.mk (Below.refl w.heap.size w)
 have H := h
 clear h
 unfold impl_NodesOf.f at H
 obtain rfl := Option.some.inj H
 go_enter Try.func41, Try.ntmps41
 go_wp2_with (first | ((with_reducible refine gd_ 1 ?_); refine bx_ 1 28 #[iv_ a0_0, .slice A0_1 l0_1.length c0_1, .slice A0_2 l0_2.length c0_2, iv_ a0_3, iv_ a0_4, iv_ a0_5, iv_ a0_6, iv_ a0_7, .slice A0_8 l0_8.length c0_8, iv_ a0_9] ?_; intro gb103 hg w2 hbox hb; refine sh3_ (below_step (bl_ HB) hb) hbox (ge_ hg (bl_ HB)) ?_; clear HB hb hbox hg; intro HB BK103 GE103; have hcz3 := cf10_ BK103))
 go_ret
 exact ⟨by first | (rw [hRT_.out]; rfl) | exact er_, bl1_ HB GE103⟩

/-! ### impl_IsSite: function 54 -/
def impl_IsSite.f (a0_0 : Int) (l0_1 : List (S72)) (l0_2 : List (S74)) (a0_3 : Int) (a0_4 : Int) (a0_5 : Int) (a0_6 : Int) (a0_7 : Int) (l0_8 : List (S88)) (a0_9 : Int) (a1 : Int) : Option (Bool) := (impl_NodesOf.f a0_0 l0_1 l0_2 a0_3 a0_4 a0_5 a0_6 a0_7 l0_8 a0_9).bind fun t105 => ((impl_InRange.f a1 (l0_1.length : Int) (wrap64 (t105 - 1))).bind fun t106 => (some t106))
def impl_IsSite.T1 : Bool × List (List Nat × List Nat) := (true, [([], []), ([], []), ([1], [1]), ([2], [2]), ([], []), ([4], [4]), ([5], [5]), ([0, 3, 6, 5], [0, 3, 6]), ([7, 7, 0, 1, 2, 3, 4, 5, 6, 7], [7])])
def impl_IsSite.B1 : List Nat := [0, 0, 2, 6, 0, 16, 48, 127, 255]
theorem impl_IsSite.tab1 : rtab .any (opsOf Try.f54 1) = impl_IsSite.T1 := by kernel_rfl
theorem impl_IsSite.bits1 : waitsOk impl_IsSite.T1.2 impl_IsSite.B1 = true := by kernel_rfl
set_option maxHeartbeats 8000000 in
set_option maxRecDepth 100000 in
theorem impl_IsSite.calls (a0_0 : Int) (A0_1 : Option Addr) (c0_1 : Nat) (l0_1 : List (S72)) (A0_2 : Option Addr) (c0_2 : Nat) (l0_2 : List (S74)) (a0_3 : Int) (a0_4 : Int) (a0_5 : Int) (a0_6 : Int) (a0_7 : Int) (A0_8 : Option Addr) (c0_8 : Nat) (l0_8 : List (S88)) (a0_9 : Int) (a1 : Int) (r : Bool) (w : World) (hr0_1 : Kd.C k72 w A0_1 l0_1.length l0_1) (hc0_1 : l0_1.length ≤ c0_1) (hr0_2 : Kd.C k74 w A0_2 l0_2.length l0_2) (hc0_2 : l0_2.length ≤ c0_2) (hr0_8 : Kd.C k88 w A0_8 l0_8.length l0_8) (hc0_8 : l0_8.length ≤ c0_8) (h : impl_IsSite.f a0_0 l0_1 l0_2 a0_3 a0_4 a0_5 a0_6 a0_7 l0_8 a0_9 a1 = some r) :
  Calls Try.prog 54 #[.agg #[iv_ a0_0, .slice A0_1 l0_1.length c0_1, .slice A0_2 l0_2.length c0_2, iv_ a0_3, iv_ a0_4, iv_ a0_5, iv_ a0_6, iv_ a0_7, .slice A0_8 l0_8.length c0_8, iv_ a0_9], iv_ a1] w fun e w' => e = .returned (.bool r) ∧ Below w.heap.size w w' := by
 have hu28 := Try.underlying28
 have HR0_1 := Aside0.mk hr0_1
 have HC0_1 := Aside0.mk hc0_1
 clear hr0_1 hc0_1
 have HR0_2 := Aside0.mk hr0_2
 have HC0_2 := Aside0.mk hc0_2
 clear hr0_2 hc0_2
 have HR0_8 := Aside0.mk hr0_8
 have HC0_8 := Aside0.mk hc0_8
 clear hr0_8 hc0_8
 have HB := Aside0.mk (Below.refl w.heap.size w)
 have H := h
 clear h
 unfold impl_IsSite.f at H
 replace H := bs_ H
 obtain ⟨t105, A3, H⟩ := H
 replace H := bs_ H
 obtain ⟨t106, A4, H⟩ := H
 obtain rfl := Option.some.inj H
 go_enter Try.func54, Try.ntmps54
 try go_wp2_with (first | ((with_reducible refine gd_ 2 ?_); refine bx_ 2 28 #[iv_ a0_0, .slice A0_1 l0_1.length c0_1, .slice A0_2 l0_2.length c0_2, iv_ a0_3, iv_ a0_4, iv_ a0_5, iv_ a0_6, iv_ a0_7, .slice A0_8 l0_8.length c0_8, iv_ a0_9] ?_; intro gb104 hg w5 hbox hb; refine sh3_ (below_step (bl_ HB) hb) hbox (ge_ hg (bl_ HB)) ?_; clear HB hb hbox hg; intro HB BK104 GE104))
 refine sh2_ (blk_drew BK104.out) (below_drew1 HB.out) ?_
 clear BK104 HB
 intro BK104 HB
 refine start_ (n := 9) (S := fun w' => Cz10 w' gb104 (iv_ a0_0) (.slice A0_1 l0_1.length c0_1) (.slice A0_2 l0_2.length c0_2) (iv_ a0_3) (iv_ a0_4) (iv_ a0_5) (iv_ a0_6) (iv_ a0_7) (.slice A0_8 l0_8.length c0_8) (iv_ a0_9)) (ds := []) (bo_ 9 0) (by kernel_rfl) rfl rfl (cz10_ BK104) (fun hHeld => ?_); refine with_tabW impl_IsSite.tab1 impl_IsSite.bits1 (fun HT_ HW_ => ?_)
 generalize w5.drew = w6 at BK104 HB hHeld ⊢
 refine pur_ 0 (bo_ 9 1) (some 5) HT_ ?_
 refine pur_ 1 (bo_ 9 3) (some 6) HT_ ?_
 refine tak_ 2 (bo_ 9 7) (some 7) HT_ HW_ hHeld ?_
 refine pur_ 3 (bo_ 9 15) (some 8) HT_ ?_
 refine tak_ 4 (bo_ 9 31) (some 9) HT_ HW_ hHeld ?_
 refine onc_ 5 (bo_ 9 63) (some 10) HT_ Try.func41 (impl_NodesOf.calls a0_0 _ _ l0_1 _ _ l0_2 a0_3 a0_4 a0_5 a0_6 a0_7 _ _ l0_8 a0_9 t105 _ (ck_ HR0_1 HB) HC0_1.out (ck_ HR0_2 HB) HC0_2.out (ck_ HR0_8 HB) HC0_8.out A3.out) ?_
 rintro e w7 ⟨rfl, hb⟩
 refine sh2_ (blk_below (bk_ BK104) hb) (below_step (bl1_ HB GE104) hb) ?_
 clear BK104 HB hb
 intro BK104 HB
 refine ⟨_, _, rfl, (cz10_ BK104), pt_, fun hHeld => ?_⟩
 refine pur_ 6 (bo_ 9 127) (some 11) HT_ ?_
 refine onc_ 7 (bo_ 9 255) (some 12) HT_ Try.func93 (impl_InRange.calls a1 (l0_1.length : Int) (wrap64 (t105 - 1)) t106 _ A4.out) ?_
 rintro e w' ⟨rfl, ⟨nd, rfl⟩⟩
 refine ⟨_, _, rfl, (cz10_ BK104), pt_, fun hHeld => ?_⟩
 refine pur_ 8 (bo_ 9 511) (some 4) HT_ ?_
 refine done_ (done_of HT_.out (by kernel_rfl)) ?_
 try go_wp2
 go_ret
 exact ⟨by first | (rw [hRT_.out]; rfl) | exact er_, bl1_ HB GE104⟩

/-! ### impl_Mod: function 96 -/
def impl_Mod.f (a0 : Int) (a1 : Int) : Option (Int) := (impl_InRange.f a1 1 1000000000000).bind fun t107 => (if t107 = true then (if a1 = 0 then (none) else (if (Int.tmod a0 a1) < 0 then (some (wrap64 ((Int.tmod a0 a1) + a1))) else (some (Int.tmod a0 a1)))) else (some 0))
set_option maxHeartbeats 8000000 in
set_option maxRecDepth 100000 in
theorem impl_Mod.calls (a0 : Int) (a1 : Int) (r : Int) (w : World) (h : impl_Mod.f a0 a1 = some r) :
  Calls Try.prog 96 #[iv_ a0, iv_ a1] w fun e w' => e = .returned (iv_ r) ∧ Drawn0 w w' := by
 have H := h
 clear h
 unfold impl_Mod.f at H
 replace H := bs_ H
 obtain ⟨t107, A3, H⟩ := H
 by_cases c4 : t107 = true
 ·subst c4
  rw [if_pos rfl] at H
  by_cases c5 : a1 = 0
  ·rw [if_pos c5] at H
   exact absurd H (by simp)
  ·rw [if_neg c5] at H
   obtain ⟨c5b0, c5b1⟩ := bn_ c5
   by_cases c6 : (Int.tmod a0 a1) < 0
   ·rw [if_pos c6] at H
    have c6b0 := decide_eq_true c6
    clear c6
    obtain rfl := Option.some.inj H
    go_enter Try.func96, Try.ntmps96
    go_wp2_with (first | ((with_reducible refine gate_callee (f := 93) rfl ?_); refine gl_ 7 Try.func93 (impl_InRange.calls a1 1 1000000000000 true _ A3.out) ?_; rintro e w' ⟨rfl, ⟨nd, rfl⟩⟩; refine ⟨_, rfl, ?_⟩))
    go_ret
    exact ⟨by first | rfl | (simp; done) | (simp [*]; done), by repeat (first | exact Drawn0.refl _ | apply Drawn0.step)⟩
   ·rw [if_neg c6] at H
    have c6b0 := decide_eq_false c6
    clear c6
    obtain rfl := Option.some.inj H
    go_enter Try.func96, Try.ntmps96
    go_wp2_with (first | ((with_reducible refine gate_callee (f := 93) rfl ?_); refine gl_ 7 Try.func93 (impl_InRange.calls a1 1 1000000000000 true _ A3.out) ?_; rintro e w' ⟨rfl, ⟨nd, rfl⟩⟩; refine ⟨_, rfl, ?_⟩))
    go_ret
    exact ⟨by first | rfl | (simp; done) | (simp [*]; done), by repeat (first | exact Drawn0.refl _ | apply Drawn0.step)⟩
 ·replace c4 := Bool.eq_false_iff.mpr c4
  subst c4
  have H1 : (some 0) = some r := by rw [if_neg (show ¬ (false = true) by decide)] at H; exact H
  clear H
  have H := H1
  clear H1
  obtain rfl := Option.some.inj H
  go_enter Try.func96, Try.ntmps96
  go_wp2_with (first | ((with_reducible refine gate_callee (f := 93) rfl ?_); refine gl_ 7 Try.func93 (impl_InRange.calls a1 1 1000000000000 false _ A3.out) ?_; rintro e w' ⟨rfl, ⟨nd, rfl⟩⟩; refine ⟨_, rfl, ?_⟩))
  go_ret
  exact ⟨by first | rfl | (simp; done) | (simp [*]; done), by repeat (first | exact Drawn0.refl _ | apply Drawn0.step)⟩

/-! ### impl_AngleOf: function 58 -/
def impl_AngleOf.f (a0 : Int) : Option (Int) := (impl_Mod.f a0 360).bind fun t108 => (some t108)
set_option maxHeartbeats 8000000 in
set_option maxRecDepth 100000 in
theorem impl_AngleOf.calls (a0 : Int) (r : Int) (w : World) (h : impl_AngleOf.f a0 = some r) :
  Calls Try.prog 58 #[iv_ a0] w fun e w' => e = .returned (iv_ r) ∧ Drawn0 w w' := by
 have H := h
 clear h
 unfold impl_AngleOf.f at H
 replace H := bs_ H
 obtain ⟨t108, A2, H⟩ := H
 obtain rfl := Option.some.inj H
 go_enter Try.func58, Try.ntmps58
 go_wp2_with (first | ((with_reducible refine gate_callee (f := 96) rfl ?_); refine gl_ 4 Try.func96 (impl_Mod.calls a0 360 t108 _ A2.out) ?_; rintro e w' ⟨rfl, ⟨nd, rfl⟩⟩; refine ⟨_, rfl, ?_⟩))
 go_ret
 exact ⟨by first | rfl | (simp; done) | (simp [*]; done), by repeat (first | exact Drawn0.refl _ | apply Drawn0.step)⟩

/-! ### impl_speedOf: function 95 -/
def impl_speedOf.f (a0_0 : Int) (a0_1 : Int) (a0_2 : Int) (a0_3 : Int) : Option (Int) := (impl_InRange.f a0_2 (-60) 60).bind fun t110 => (if t110 = true then (some a0_2) else (some 0))
set_option maxHeartbeats 8000000 in
set_option maxRecDepth 100000 in
theorem impl_speedOf.calls (a0_0 : Int) (a0_1 : Int) (a0_2 : Int) (a0_3 : Int) (r : Int) (w : World) (h : impl_speedOf.f a0_0 a0_1 a0_2 a0_3 = some r) :
  Calls Try.prog 95 #[.agg #[iv_ a0_0, iv_ a0_1, iv_ a0_2, iv_ a0_3]] w fun e w' => e = .returned (iv_ r) ∧ Below w.heap.size w w' := by
 have hu72 := Try.underlying72
 have HB := Aside0.mk (Below.refl w.heap.size w)
 have H := h
 clear h
 unfold impl_speedOf.f at H
 replace H := bs_ H
 obtain ⟨t110, A2, H⟩ := H
 by_cases c3 : t110 = true
 ·subst c3
  rw [if_pos rfl] at H
  obtain rfl := Option.some.inj H
  go_enter Try.func95, Try.ntmps95
  go_wp2_with (first | ((with_reducible refine gd_ 1 ?_); refine bx_ 1 72 #[iv_ a0_0, iv_ a0_1, iv_ a0_2, iv_ a0_3] ?_; intro gb109 hg w4 hbox hb; refine sh3_ (below_step (bl_ HB) hb) hbox (ge_ hg (bl_ HB)) ?_; clear HB hb hbox hg; intro HB BK109 GE109; have hcz5 := cf4_ BK109) | ((with_reducible refine gate_callee (f := 93) rfl ?_); refine gl_ 5 Try.func93 (impl_InRange.calls a0_2 (-60) 60 true _ A2.out) ?_; rintro e w' ⟨rfl, ⟨nd, rfl⟩⟩; refine ⟨_, rfl, ?_⟩))
  go_ret
  exact ⟨by first | (rw [hRT_.out]; rfl) | exact er_, bl1_ HB GE109⟩
 ·replace c3 := Bool.eq_false_iff.mpr c3
  subst c3
  have H1 : (some 0) = some r := by rw [if_neg (show ¬ (false = true) by decide)] at H; exact H
  clear H
  have H := H1
  clear H1
  obtain rfl := Option.some.inj H
  go_enter Try.func95, Try.ntmps95
  go_wp2_with (first | ((with_reducible refine gd_ 1 ?_); refine bx_ 1 72 #[iv_ a0_0, iv_ a0_1, iv_ a0_2, iv_ a0_3] ?_; intro gb109 hg w6 hbox hb; refine sh3_ (below_step (bl_ HB) hb) hbox (ge_ hg (bl_ HB)) ?_; clear HB hb hbox hg; intro HB BK109 GE109; have hcz7 := cf4_ BK109) | ((with_reducible refine gate_callee (f := 93) rfl ?_); refine gl_ 5 Try.func93 (impl_InRange.calls a0_2 (-60) 60 false _ A2.out) ?_; rintro e w' ⟨rfl, ⟨nd, rfl⟩⟩; refine ⟨_, rfl, ?_⟩))
  go_ret
  exact ⟨by first | (rw [hRT_.out]; rfl) | exact er_, bl1_ HB GE109⟩

/-! ### impl_PlaceAt: function 57 -/
def impl_PlaceAt.f (a0_0 : Int) (a0_1 : Int) (a0_2 : Int) (a0_3 : Int) (a1 : Int) : Option (Int) := (impl_InRange.f a1 0 1000).bind fun t112 => (if t112 = true then ((impl_AngleOf.f a0_1).bind fun t113 => ((impl_speedOf.f a0_0 a0_1 a0_2 a0_3).bind fun t114 => ((impl_AngleOf.f (wrap64 (t113 + (wrap64 (t114 * a1))))).bind fun t115 => (some t115)))) else ((impl_AngleOf.f a0_1).bind fun t116 => ((impl_speedOf.f a0_0 a0_1 a0_2 a0_3).bind fun t117 => ((impl_AngleOf.f (wrap64 (t116))).bind fun t118 => (some t118)))))
def impl_PlaceAt.T3 : Bool × List (List Nat × List Nat) := (true, [([], []), ([0], [0]), ([1], [1]), ([], []), ([3, 2], [3]), ([], []), ([4, 5], [4, 5]), ([2, 6], [2, 6]), ([7, 4], [7]), ([8, 8, 0, 1, 2, 3, 4, 5, 6, 7, 8], [8])])
def impl_PlaceAt.B3 : List Nat := [0, 1, 3, 0, 15, 0, 63, 127, 255, 511]
theorem impl_PlaceAt.tab3 : rtab .any (opsOf Try.f57 3) = impl_PlaceAt.T3 := by kernel_rfl
theorem impl_PlaceAt.bits3 : waitsOk impl_PlaceAt.T3.2 impl_PlaceAt.B3 = true := by kernel_rfl
set_option maxHeartbeats 8000000 in
set_option maxRecDepth 100000 in
theorem impl_PlaceAt.calls (a0_0 : Int) (a0_1 : Int) (a0_2 : Int) (a0_3 : Int) (a1 : Int) (r : Int) (w : World) (h : impl_PlaceAt.f a0_0 a0_1 a0_2 a0_3 a1 = some r) :
  Calls Try.prog 57 #[.agg #[iv_ a0_0, iv_ a0_1, iv_ a0_2, iv_ a0_3], iv_ a1] w fun e w' => e = .returned (iv_ r) ∧ Below w.heap.size w w' := by
 have hu72 := Try.underlying72
 have HB := Aside0.mk (Below.refl w.heap.size w)
 have H := h
 clear h
 unfold impl_PlaceAt.f at H
 replace H := bs_ H
 obtain ⟨t112, A3, H⟩ := H
 by_cases c4 : t112 = true
 ·subst c4
  rw [if_pos rfl] at H
  replace H := bs_ H
  obtain ⟨t113, A5, H⟩ := H
  replace H := bs_ H
  obtain ⟨t114, A6, H⟩ := H
  replace H := bs_ H
  obtain ⟨t115, A7, H⟩ := H
  obtain rfl := Option.some.inj H
  go_enter Try.func57, Try.ntmps57
  try go_wp2_with (first | ((with_reducible refine gd_ 2 ?_); refine bx_ 2 72 #[iv_ a0_0, iv_ a0_1, iv_ a0_2, iv_ a0_3] ?_; intro gb111 hg w8 hbox hb; refine sh3_ (below_step (bl_ HB) hb) hbox (ge_ hg (bl_ HB)) ?_; clear HB hb hbox hg; intro HB BK111 GE111) | ((with_reducible refine gate_callee (f := 93) rfl ?_); refine gl_ 6 Try.func93 (impl_InRange.calls a1 0 1000 true _ A3.out) ?_; rintro e w' ⟨rfl, ⟨nd, rfl⟩⟩; refine ⟨_, rfl, ?_⟩))
  (try (rw [drewN_self w8]; generalize hq_ : World.drewN w8 _ = w8; have n0_ : Aside0 (w8.heap[gb111]? = some (.cells #[iv_ a0_0, iv_ a0_1, iv_ a0_2, iv_ a0_3] 72 (0, 0))) := ⟨by rw [← hq_]; exact (bk_ BK111)⟩; have n1_ : Aside0 (Below w.heap.size w w8) := ⟨by rw [← hq_]; exact (bl1_ HB GE111)⟩; clear BK111 HB hq_; have BK111 := n0_; have HB := n1_; clear n0_ n1_))
  refine sh2_ (blk_drew BK111.out) (below_drew1 HB.out) ?_
  clear BK111 HB
  intro BK111 HB
  refine start_ (n := 10) (S := fun w' => Cz4 w' gb111 (iv_ a0_0) (iv_ a0_1) (iv_ a0_2) (iv_ a0_3)) (ds := []) (bo_ 10 0) (by kernel_rfl) rfl rfl (cz4_ BK111) (fun hHeld => ?_); refine with_tabW impl_PlaceAt.tab3 impl_PlaceAt.bits3 (fun HT_ HW_ => ?_)
  generalize w8.drew = w9 at BK111 HB hHeld ⊢
  refine pur_ 0 (bo_ 10 1) (some 8) HT_ ?_
  refine pur_ 5 (bo_ 10 33) (some 13) HT_ ?_
  refine tak_ 1 (bo_ 10 35) (some 9) HT_ HW_ hHeld ?_
  refine tak_ 3 (bo_ 10 43) (some 11) HT_ HW_ hHeld ?_
  refine onc_ 2 (bo_ 10 47) (some 10) HT_ Try.func58 (impl_AngleOf.calls a0_1 t113 _ A5.out) ?_
  rintro e w' ⟨rfl, ⟨nd, rfl⟩⟩
  refine ⟨_, _, rfl, (cz4_ BK111), pt_, fun hHeld => ?_⟩
  refine onc_ 4 (bo_ 10 63) (some 12) HT_ Try.func95 (impl_speedOf.calls a0_0 a0_1 a0_2 a0_3 t114 _ A6.out) ?_
  rintro e w10 ⟨rfl, hb⟩
  refine sh2_ (blk_below (bk_ BK111) hb) (below_step (bl1_ HB GE111) hb) ?_
  clear BK111 HB hb
  intro BK111 HB
  refine ⟨_, _, rfl, (cz4_ BK111), pt_, fun hHeld => ?_⟩
  refine pur_ 6 (bo_ 10 127) (some 14) HT_ ?_
  refine pur_ 7 (bo_ 10 255) (some 15) HT_ ?_
  refine onc_ 8 (bo_ 10 511) (some 16) HT_ Try.func58 (impl_AngleOf.calls (wrap64 (t113 + (wrap64 (t114 * a1)))) t115 _ A7.out) ?_
  rintro e w' ⟨rfl, ⟨nd, rfl⟩⟩
  refine ⟨_, _, rfl, (cz4_ BK111), pt_, fun hHeld => ?_⟩
  refine pur_ 9 (bo_ 10 1023) (some 4) HT_ ?_
  refine done_ (done_of HT_.out (by kernel_rfl)) ?_
  try go_wp2
  go_ret
  exact ⟨by first | (rw [hRT_.out]; rfl) | exact er_, bl1_ HB GE111⟩
 ·replace c4 := Bool.eq_false_iff.mpr c4
  subst c4
  have H1 : ((impl_AngleOf.f a0_1).bind fun t116 => ((impl_speedOf.f a0_0 a0_1 a0_2 a0_3).bind fun t117 => ((impl_AngleOf.f (wrap64 (t116))).bind fun t118 => (some t118)))) = some r := by rw [if_neg (show ¬ (false = true) by decide)] at H; exact H
  clear H
  have H := H1
  clear H1
  replace H := bs_ H
  obtain ⟨t116, A11, H⟩ := H
  replace H := bs_ H
  obtain ⟨t117, A12, H⟩ := H
  replace H := bs_ H
  obtain ⟨t118, A13, H⟩ := H
  obtain rfl := Option.some.inj H
  go_enter Try.func57, Try.ntmps57
  try go_wp2_with (first | ((with_reducible refine gd_ 2 ?_); refine bx_ 2 72 #[iv_ a0_0, iv_ a0_1, iv_ a0_2, iv_ a0_3] ?_; intro gb111 hg w14 hbox hb; refine sh3_ (below_step (bl_ HB) hb) hbox (ge_ hg (bl_ HB)) ?_; clear HB hb hbox hg; intro HB BK111 GE111) | ((with_reducible refine gate_callee (f := 93) rfl ?_); refine gl_ 6 Try.func93 (impl_InRange.calls a1 0 1000 false _ A3.out) ?_; rintro e w' ⟨rfl, ⟨nd, rfl⟩⟩; refine ⟨_, rfl, ?_⟩))
  (try (rw [drewN_self w14]; generalize hq_ : World.drewN w14 _ = w14; have n0_ : Aside0 (w14.heap[gb111]? = some (.cells #[iv_ a0_0, iv_ a0_1, iv_ a0_2, iv_ a0_3] 72 (0, 0))) := ⟨by rw [← hq_]; exact (bk_ BK111)⟩; have n1_ : Aside0 (Below w.heap.size w w14) := ⟨by rw [← hq_]; exact (bl1_ HB GE111)⟩; clear BK111 HB hq_; have BK111 := n0_; have HB := n1_; clear n0_ n1_))
  refine sh2_ (blk_drew BK111.out) (below_drew1 HB.out) ?_
  clear BK111 HB
  intro BK111 HB
  refine start_ (n := 10) (S := fun w' => Cz4 w' gb111 (iv_ a0_0) (iv_ a0_1) (iv_ a0_2) (iv_ a0_3)) (ds := []) (bo_ 10 0) (by kernel_rfl) rfl rfl (cz4_ BK111) (fun hHeld => ?_); refine with_tabW impl_PlaceAt.tab3 impl_PlaceAt.bits3 (fun HT_ HW_ => ?_)
  generalize w14.drew = w15 at BK111 HB hHeld ⊢
  refine pur_ 0 (bo_ 10 1) (some 8) HT_ ?_
  refine pur_ 5 (bo_ 10 33) (some 13) HT_ ?_
  refine tak_ 1 (bo_ 10 35) (some 9) HT_ HW_ hHeld ?_
  refine tak_ 3 (bo_ 10 43) (some 11) HT_ HW_ hHeld ?_
  refine onc_ 2 (bo_ 10 47) (some 10) HT_ Try.func58 (impl_AngleOf.calls a0_1 t116 _ A11.out) ?_
  rintro e w' ⟨rfl, ⟨nd, rfl⟩⟩
  refine ⟨_, _, rfl, (cz4_ BK111), pt_, fun hHeld => ?_⟩
  refine onc_ 4 (bo_ 10 63) (some 12) HT_ Try.func95 (impl_speedOf.calls a0_0 a0_1 a0_2 a0_3 t117 _ A12.out) ?_
  rintro e w16 ⟨rfl, hb⟩
  refine sh2_ (blk_below (bk_ BK111) hb) (below_step (bl1_ HB GE111) hb) ?_
  clear BK111 HB hb
  intro BK111 HB
  refine ⟨_, _, rfl, (cz4_ BK111), pt_, fun hHeld => ?_⟩
  refine pur_ 6 (bo_ 10 127) (some 14) HT_ ?_
  refine pur_ 7 (bo_ 10 255) (some 15) HT_ ?_
  refine one_ (i := 8) (N := some 16) (bo_ 10 511) rfl rfl (one_of HT_.out (by kernel_rfl)) (by decide) (fun K hK => ?_)
  refine goes_ Try.func58 (by kernel_rfl) rfl #[iv_ (wrap64 (t116))] (by rfl) rfl rfl (by (try simp only [List.map_toArray, List.map_cons, List.map_nil]); first | done | rfl | (exact congrArg (fun z_ => #[Value.int IntKind.i64 (wrap64 z_)]) (show t116 + wrap64 0 = t116 by (have h_ : wrap64 0 = 0 := (by (unfold wrap64; omega)); omega)))) ?_
  with_reducible refine (impl_AngleOf.calls (wrap64 (t116)) t118 _ A13.out).mono ?_
  rintro e w' ⟨rfl, ⟨nd, rfl⟩⟩
  refine ⟨_, rfl, ?_⟩
  refine hK.out _ _ (cz4_ BK111) (fun hHeld => ?_)
  clear hK K
  refine norm_ (show Act.put _ (some 16) _ = _ from pt_) ?_
  refine pur_ 9 (bo_ 10 1023) (some 4) HT_ ?_
  refine done_ (done_of HT_.out (by kernel_rfl)) ?_
  try go_wp2
  go_ret
  exact ⟨by first | (rw [hRT_.out]; rfl) | exact er_, bl1_ HB GE111⟩

/-! ### impl_isWidth: function 92 -/
def impl_isWidth.f (a0 : Int) : Option (Bool) := (impl_InRange.f a0 0 359).bind fun t119 => (some t119)
set_option maxHeartbeats 8000000 in
set_option maxRecDepth 100000 in
theorem impl_isWidth.calls (a0 : Int) (r : Bool) (w : World) (h : impl_isWidth.f a0 = some r) :
  Calls Try.prog 92 #[iv_ a0] w fun e w' => e = .returned (.bool r) ∧ Drawn0 w w' := by
 have H := h
 clear h
 unfold impl_isWidth.f at H
 replace H := bs_ H
 obtain ⟨t119, A2, H⟩ := H
 obtain rfl := Option.some.inj H
 go_enter Try.func92, Try.ntmps92
 go_wp2_with (first | ((with_reducible refine gate_callee (f := 93) rfl ?_); refine gl_ 4 Try.func93 (impl_InRange.calls a0 0 359 t119 _ A2.out) ?_; rintro e w' ⟨rfl, ⟨nd, rfl⟩⟩; refine ⟨_, rfl, ?_⟩))
 go_ret
 exact ⟨by first | rfl | (simp; done) | (simp [*]; done), by repeat (first | exact Drawn0.refl _ | apply Drawn0.step)⟩

/-! ### impl_WidenArc: function 94 -/
def impl_WidenArc.f (a0_0 : Int) (a0_1 : Int) (a1 : Int) : Option (Int × Int) := (impl_AngleOf.f a0_0).bind fun t122 => ((impl_InRange.f a1 0 360).bind fun t123 => (if t123 = true then ((impl_isWidth.f a0_1).bind fun t124 => (if t124 = true then ((impl_AngleOf.f (wrap64 (t122 - a1))).bind fun t125 => (some (t125, mn (wrap64 (a0_1 + (wrap64 (2 * a1)))) 359))) else (some (t122, a0_1)))) else (some (t122, a0_1))))
def impl_WidenArc.T4 : Bool × List (List Nat × List Nat) := (true, [([], []), ([0], [0]), ([], []), ([1, 2], [1, 2]), ([3], [3]), ([], []), ([5], [5]), ([], []), ([7], [7]), ([6, 8], [6, 8]), ([9], [9]), ([4, 10], [4, 10]), ([11, 4, 0, 1, 2, 3, 4, 5, 6, 7, 8, 9, 10, 11], [11])])
def impl_WidenArc.B4 : List Nat := [0, 1, 0, 7, 15, 0, 32, 0, 128, 480, 992, 2047, 4095]
theorem impl_WidenArc.tab4 : rtab .any (opsOf Try.f94 4) = impl_WidenArc.T4 := by kernel_rfl
theorem impl_WidenArc.bits4 : waitsOk impl_WidenArc.T4.2 impl_WidenArc.B4 = true := by kernel_rfl
set_option maxHeartbeats 8000000 in
set_option maxRecDepth 100000 in
theorem impl_WidenArc.calls (a0_0 : Int) (a0_1 : Int) (a1 : Int) (r1 : Int) (r2 : Int) (w : World) (h : impl_WidenArc.f a0_0 a0_1 a1 = some (r1, r2)) :
  Calls Try.prog 94 #[.agg #[iv_ a0_0, iv_ a0_1], iv_ a1] w fun e w' => e = .returned (.agg #[iv_ r1, iv_ r2]) ∧ Below w.heap.size w w' := by
 have hu35 := Try.underlying35
 have HB := Aside0.mk (Below.refl w.heap.size w)
 have H := h
 clear h
 unfold impl_WidenArc.f at H
 replace H := bs_ H
 obtain ⟨t122, A3, H⟩ := H
 replace H := bs_ H
 obtain ⟨t123, A4, H⟩ := H
 by_cases c5 : t123 = true
 ·subst c5
  have H1 : ((impl_isWidth.f a0_1).bind fun t124 => (if t124 = true then ((impl_AngleOf.f (wrap64 (t122 - a1))).bind fun t125 => (some (t125, mn (wrap64 (a0_1 + (wrap64 (2 * a1)))) 359))) else (some (t122, a0_1)))) = some (r1, r2) := by rw [if_pos rfl] at H; exact H
  clear H
  have H := H1
  clear H1
  replace H := bs_ H
  obtain ⟨t124, A6, H⟩ := H
  by_cases c7 : t124 = true
  ·subst c7
   have H1 : ((impl_AngleOf.f (wrap64 (t122 - a1))).bind fun t125 => (some (t125, mn (wrap64 (a0_1 + (wrap64 (2 * a1)))) 359))) = some (r1, r2) := by rw [if_pos rfl] at H; exact H
   clear H
   have H := H1
   clear H1
   replace H := bs_ H
   obtain ⟨t125, A8, H⟩ := H
   obtain ⟨ji9, hji9⟩ : ∃ j_ : Int, (mn (wrap64 (a0_1 + (wrap64 (2 * a1)))) 359) = j_ := ⟨_, rfl⟩
   replace H : (some (t125, ji9)) = some (r1, r2) := by first | (rw [hji9] at H; exact H) | (simp only [hji9] at H ⊢; exact H)
   (try rw [hji9] at A3)
   (try rw [hji9] at A4)
   (try rw [hji9] at A6)
   (try rw [hji9] at A8)
   (try (have hji9h : ji9 ≤ 359 := by (rw [← hji9]; unfold mn; (repeat' split) <;> omega)))
   (try (have hji9g : ji9 ≤ 64 := by omega))
   have hji9_ : (if 359 < (wrap64 (a0_1 + (wrap64 (2 * a1)))) then 359 else (wrap64 (a0_1 + (wrap64 (2 * a1))))) = ji9 := hji9
   simp only [Option.some.injEq, Prod.mk.injEq] at H
   obtain ⟨rfl, rfl⟩ := H
   go_enter Try.func94, Try.ntmps94
   try go_wp2_with (first | ((with_reducible refine gd_ 2 ?_); refine bx_ 2 35 #[iv_ a0_0, iv_ a0_1] ?_; intro gb120 hg w10 hbox hb; refine sh3_ (below_step (bl_ HB) hb) hbox (ge_ hg (bl_ HB)) ?_; clear HB hb hbox hg; intro HB BK120 GE120) | ((with_reducible refine gd_ 4 ?_); refine bx_ 4 35 #[iv_ 0, iv_ 0] ?_; intro gb121 hg w11 hbox hb; refine sh6_ (blk_below (bk_ BK120) hb) (below_step (bl1_ HB GE120) hb) hbox (ge_ hg (bl1_ HB GE120)) (nl_ hg (bk_ BK120)) (ng_ hg (bk_ BK120)) ?_; clear BK120 HB hb hbox hg; intro BK120 HB BK121 GE121 NB120_121 NB121_120; have hnb12 := NB120_121.out; have hnc12 := NB121_120.out; have hcz13 := cf2_ BK120) | ((with_reducible refine gate_callee (f := 58) rfl ?_); refine gl_ 7 Try.func58 (impl_AngleOf.calls a0_0 t122 _ A3.out) ?_; rintro e w' ⟨rfl, ⟨nd, rfl⟩⟩; refine ⟨_, rfl, ?_⟩; (try (rw [drewN_self w11]; generalize hq_ : World.drewN w11 _ = w11; have n0_ : Aside0 (w11.heap[gb120]? = some (.cells #[iv_ a0_0, iv_ a0_1] 35 (0, 0))) := ⟨by rw [← hq_]; exact (bk_ BK120)⟩; have n1_ : Aside0 (w11.heap[gb121]? = some (.cells #[iv_ 0, iv_ 0] 35 (0, 0))) := ⟨by rw [← hq_]; exact (bk_ BK121)⟩; have n2_ : Aside0 (Below w.heap.size w w11) := ⟨by rw [← hq_]; exact (bl2_ HB GE120 GE121)⟩; clear BK120 BK121 HB hq_; have BK120 := n0_; have BK121 := n1_; have HB := n2_; clear n0_ n1_ n2_)); have hcz14 := cf2_ BK120) | ((with_reducible refine gate_callee (f := 93) rfl ?_); refine gl_ 10 Try.func93 (impl_InRange.calls a1 0 360 true _ A4.out) ?_; rintro e w' ⟨rfl, ⟨nd, rfl⟩⟩; refine ⟨_, rfl, ?_⟩) | (go_at_call 92; (with_reducible refine (impl_isWidth.calls a0_1 true _ A6.out).mono ?_); rintro e w' ⟨rfl, ⟨nd, rfl⟩⟩))
   have n0_ : Aside0 ((w11.setCell ⟨gb120, 0, none⟩ (iv_ t122)).heap[gb120]? = some (.cells #[iv_ t122, iv_ a0_1] 35 (0, 0))) := ⟨by (with_reducible repeat (first | refine blk_drewN ?_ _ | refine blk_drew ?_ | refine blk_alloc ?_ _)); refine blk_put (cs := #[iv_ a0_0, iv_ a0_1]) ?_ 0 _ rfl; (with_reducible repeat (first | refine blk_drewN ?_ _ | refine blk_drew ?_ | refine blk_alloc ?_ _)); exact BK120.out⟩
   have n1_ : Aside0 ((w11.setCell ⟨gb120, 0, none⟩ (iv_ t122)).heap[gb121]? = some (.cells #[iv_ 0, iv_ 0] 35 (0, 0))) := ⟨by (with_reducible repeat (first | refine blk_drewN ?_ _ | refine blk_drew ?_ | refine blk_alloc ?_ _)); refine blk_far ?_ NB121_120.out _; (with_reducible repeat (first | refine blk_drewN ?_ _ | refine blk_drew ?_ | refine blk_alloc ?_ _)); exact BK121.out⟩
   have n2_ : Aside0 (Below w.heap.size w (w11.setCell ⟨gb120, 0, none⟩ (iv_ t122))) := ⟨bl2_ HB GE120 GE121⟩
   (try clear BK120)
   (try clear BK121)
   (try clear HB)
   generalize (w11.setCell ⟨gb120, 0, none⟩ (iv_ t122)) = w15 at n0_ n1_ n2_ ⊢
   have BK120 := n0_
   have BK121 := n1_
   have HB := n2_
   clear n0_ n1_ n2_
   (try (rw [drewN_self w15]; generalize hq_ : World.drewN w15 _ = w15; have n0_ : Aside0 (w15.heap[gb120]? = some (.cells #[iv_ t122, iv_ a0_1] 35 (0, 0))) := ⟨by rw [← hq_]; exact (bk_ BK120)⟩; have n1_ : Aside0 (w15.heap[gb121]? = some (.cells #[iv_ 0, iv_ 0] 35 (0, 0))) := ⟨by rw [← hq_]; exact (bk_ BK121)⟩; have n2_ : Aside0 (Below w.heap.size w w15) := ⟨by rw [← hq_]; exact (bl2_ HB GE120 GE121)⟩; clear BK120 BK121 HB hq_; have BK120 := n0_; have BK121 := n1_; have HB := n2_; clear n0_ n1_ n2_))
   refine sh3_ (blk_drew BK120.out) (blk_drew BK121.out) (below_drew1 HB.out) ?_
   clear BK120 BK121 HB
   intro BK120 BK121 HB
   refine start_ (n := 13) (S := fun w' => Cz2 w' gb120 (iv_ t122) (iv_ a0_1)) (ds := []) (bo_ 13 0) (by kernel_rfl) rfl rfl (cz2_ BK120) (fun hHeld => ?_); refine with_tabW impl_WidenArc.tab4 impl_WidenArc.bits4 (fun HT_ HW_ => ?_)
   generalize w15.drew = w16 at BK120 BK121 HB hHeld ⊢
   refine pur_ 0 (bo_ 13 1) (some 19) HT_ ?_
   refine pur_ 2 (bo_ 13 5) (some 21) HT_ ?_
   refine pur_ 5 (bo_ 13 37) (some 24) HT_ ?_
   refine pur_ 7 (bo_ 13 165) (some 26) HT_ ?_
   refine pur_ 8 (bo_ 13 421) (some 27) HT_ ?_
   refine tak_ 1 (bo_ 13 423) (some 20) HT_ HW_ hHeld ?_
   refine pur_ 3 (bo_ 13 431) (some 22) HT_ ?_
   refine tak_ 6 (bo_ 13 495) (some 25) HT_ HW_ hHeld ?_
   refine pur_ 9 (bo_ 13 1007) (some 28) HT_ ?_
   refine pur_ 10 (bo_ 13 2031) (some 29) HT_ ?_
   refine onc_ 4 (bo_ 13 2047) (some 23) HT_ Try.func58 (impl_AngleOf.calls (wrap64 (t122 - a1)) t125 _ A8.out) ?_
   rintro e w' ⟨rfl, ⟨nd, rfl⟩⟩
   refine ⟨_, _, rfl, (cz2_ BK120), pt_, fun hHeld => ?_⟩
   refine pur_ 11 (bo_ 13 4095) (some 30) HT_ ?_
   refine one_ (i := 12) (N := none) (bo_ 13 8191) rfl rfl (one_of HT_.out (by kernel_rfl)) (by decide) (fun K hK => ?_)
   have hs17 : w16.cell? ⟨gb121, 0, none⟩ = some (iv_ 0) := bc_ BK121 0 rfl
   have hfs17 := bf_ BK121 0
   have hns17_0 := NB120_121.out
   have hms17_0 := NB121_120.out
   have hs18 : w16.cell? ⟨gb121, 1, none⟩ = some (iv_ 0) := bc_ BK121 1 rfl
   have hfs18 := bf_ BK121 1
   have hns18_0 := NB120_121.out
   have hms18_0 := NB121_120.out
   refine skip_ (w1 := ?_) (by rfl) rfl ?_ ?_
   rotate_left
   ·go_simp
    rfl
   refine hK.out _ _ ⟨((cell_far (p := ⟨gb121, _, none⟩) NB120_121.out _).trans (((cell_far (p := ⟨gb121, _, none⟩) NB120_121.out _).trans (hHeld.1)))), ((cell_far (p := ⟨gb121, _, none⟩) NB120_121.out _).trans (((cell_far (p := ⟨gb121, _, none⟩) NB120_121.out _).trans (hHeld.2))))⟩ (fun hHeld => ?_)
   clear hK K
   refine done_ (done_of HT_.out (by kernel_rfl)) ?_
   try go_wp2
   refine bodyPost_ret (results_cell_row rfl _ _ gb121 35 #[iv_ t125, iv_ ji9] (0, 0) _ rfl (bp_ BK121) Try.underlying35 rfl (by kernel_rfl)) rfl ?_
   exact ⟨by first | rfl | (rw [hRT_.out]; rfl) | (simp [errW_none, errW_some] <;> rfl) | (simp only [← hji9]; first | rfl | (simp [errW_none, errW_some] <;> rfl)) | (simp [*, errW_none, errW_some] <;> rfl), bl2_ HB GE120 GE121⟩
  ·replace c7 := Bool.eq_false_iff.mpr c7
   subst c7
   have H1 : (some (t122, a0_1)) = some (r1, r2) := by rw [if_neg (show ¬ (false = true) by decide)] at H; exact H
   clear H
   have H := H1
   clear H1
   simp only [Option.some.injEq, Prod.mk.injEq] at H
   obtain ⟨rfl, rfl⟩ := H
   go_enter Try.func94, Try.ntmps94
   go_wp2_with (first | ((with_reducible refine gd_ 2 ?_); refine bx_ 2 35 #[iv_ a0_0, iv_ a0_1] ?_; intro gb120 hg w19 hbox hb; refine sh3_ (below_step (bl_ HB) hb) hbox (ge_ hg (bl_ HB)) ?_; clear HB hb hbox hg; intro HB BK120 GE120) | ((with_reducible refine gd_ 4 ?_); refine bx_ 4 35 #[iv_ 0, iv_ 0] ?_; intro gb121 hg w20 hbox hb; refine sh6_ (blk_below (bk_ BK120) hb) (below_step (bl1_ HB GE120) hb) hbox (ge_ hg (bl1_ HB GE120)) (nl_ hg (bk_ BK120)) (ng_ hg (bk_ BK120)) ?_; clear BK120 HB hb hbox hg; intro BK120 HB BK121 GE121 NB120_121 NB121_120; have hnb21 := NB120_121.out; have hnc21 := NB121_120.out; have hcz22 := cf2_ BK120) | ((with_reducible refine gate_callee (f := 58) rfl ?_); refine gl_ 7 Try.func58 (impl_AngleOf.calls a0_0 t122 _ A3.out) ?_; rintro e w' ⟨rfl, ⟨nd, rfl⟩⟩; refine ⟨_, rfl, ?_⟩; (try (rw [drewN_self w20]; generalize hq_ : World.drewN w20 _ = w20; have n0_ : Aside0 (w20.heap[gb120]? = some (.cells #[iv_ a0_0, iv_ a0_1] 35 (0, 0))) := ⟨by rw [← hq_]; exact (bk_ BK120)⟩; have n1_ : Aside0 (w20.heap[gb121]? = some (.cells #[iv_ 0, iv_ 0] 35 (0, 0))) := ⟨by rw [← hq_]; exact (bk_ BK121)⟩; have n2_ : Aside0 (Below w.heap.size w w20) := ⟨by rw [← hq_]; exact (bl2_ HB GE120 GE121)⟩; clear BK120 BK121 HB hq_; have BK120 := n0_; have BK121 := n1_; have HB := n2_; clear n0_ n1_ n2_)); have hcz23 := cf2_ BK120) | ((with_reducible refine gate_callee (f := 93) rfl ?_); refine gl_ 10 Try.func93 (impl_InRange.calls a1 0 360 true _ A4.out) ?_; rintro e w' ⟨rfl, ⟨nd, rfl⟩⟩; refine ⟨_, rfl, ?_⟩) | (go_at_call 92; (with_reducible refine (impl_isWidth.calls a0_1 false _ A6.out).mono ?_); rintro e w' ⟨rfl, ⟨nd, rfl⟩⟩; have hcz24 := cf2_ BK121))
   refine bodyPost_ret (results_cell_row rfl _ _ gb121 35 #[iv_ t122, iv_ a0_1] (0, 0) _ rfl (bp_ BK121) Try.underlying35 rfl (by kernel_rfl)) rfl ?_
   exact ⟨by first | (rw [hRT_.out]; rfl) | exact er_, bl2_ HB GE120 GE121⟩
 ·replace c5 := Bool.eq_false_iff.mpr c5
  subst c5
  have H1 : (some (t122, a0_1)) = some (r1, r2) := by rw [if_neg (show ¬ (false = true) by decide)] at H; exact H
  clear H
  have H := H1
  clear H1
  simp only [Option.some.injEq, Prod.mk.injEq] at H
  obtain ⟨rfl, rfl⟩ := H
  go_enter Try.func94, Try.ntmps94
  go_wp2_with (first | ((with_reducible refine gd_ 2 ?_); refine bx_ 2 35 #[iv_ a0_0, iv_ a0_1] ?_; intro gb120 hg w25 hbox hb; refine sh3_ (below_step (bl_ HB) hb) hbox (ge_ hg (bl_ HB)) ?_; clear HB hb hbox hg; intro HB BK120 GE120) | ((with_reducible refine gd_ 4 ?_); refine bx_ 4 35 #[iv_ 0, iv_ 0] ?_; intro gb121 hg w26 hbox hb; refine sh6_ (blk_below (bk_ BK120) hb) (below_step (bl1_ HB GE120) hb) hbox (ge_ hg (bl1_ HB GE120)) (nl_ hg (bk_ BK120)) (ng_ hg (bk_ BK120)) ?_; clear BK120 HB hb hbox hg; intro BK120 HB BK121 GE121 NB120_121 NB121_120; have hnb27 := NB120_121.out; have hnc27 := NB121_120.out; have hcz28 := cf2_ BK120) | ((with_reducible refine gate_callee (f := 58) rfl ?_); refine gl_ 7 Try.func58 (impl_AngleOf.calls a0_0 t122 _ A3.out) ?_; rintro e w' ⟨rfl, ⟨nd, rfl⟩⟩; refine ⟨_, rfl, ?_⟩; (try (rw [drewN_self w26]; generalize hq_ : World.drewN w26 _ = w26; have n0_ : Aside0 (w26.heap[gb120]? = some (.cells #[iv_ a0_0, iv_ a0_1] 35 (0, 0))) := ⟨by rw [← hq_]; exact (bk_ BK120)⟩; have n1_ : Aside0 (w26.heap[gb121]? = some (.cells #[iv_ 0, iv_ 0] 35 (0, 0))) := ⟨by rw [← hq_]; exact (bk_ BK121)⟩; have n2_ : Aside0 (Below w.heap.size w w26) := ⟨by rw [← hq_]; exact (bl2_ HB GE120 GE121)⟩; clear BK120 BK121 HB hq_; have BK120 := n0_; have BK121 := n1_; have HB := n2_; clear n0_ n1_ n2_)); have hcz29 := cf2_ BK120) | ((with_reducible refine gate_callee (f := 93) rfl ?_); refine gl_ 10 Try.func93 (impl_InRange.calls a1 0 360 false _ A4.out) ?_; rintro e w' ⟨rfl, ⟨nd, rfl⟩⟩; refine ⟨_, rfl, ?_⟩; have hcz30 := cf2_ BK121))
  refine bodyPost_ret (results_cell_row rfl _ _ gb121 35 #[iv_ t122, iv_ a0_1] (0, 0) _ rfl (bp_ BK121) Try.underlying35 rfl (by kernel_rfl)) rfl ?_
  exact ⟨by first | (rw [hRT_.out]; rfl) | exact er_, bl2_ HB GE120 GE121⟩

/-! ### impl_PlacesAt: function 56 -/
def impl_PlacesAt.f (a0_0 : Int) (a0_1 : Int) (a0_2 : Int) (a0_3 : Int) (a1 : Int) : Option (Int × Int) := (impl_PlaceAt.f a0_0 a0_1 a0_2 a0_3 a1).bind fun t128 => ((impl_WidenArc.f t128 0 a0_3).bind fun bt129 => (some (bt129.1, bt129.2)))
def impl_PlacesAt.T1 : Bool × List (List Nat × List Nat) := (true, [([], []), ([], []), ([0, 1], [0, 1]), ([2], [2]), ([], []), ([4], [4]), ([3, 5, 2], [3, 5]), ([6, 6, 0, 1, 2, 3, 4, 5, 6], [6])])
def impl_PlacesAt.B1 : List Nat := [0, 0, 3, 7, 0, 16, 63, 127]
theorem impl_PlacesAt.tab1 : rtab .any (opsOf Try.f56 1) = impl_PlacesAt.T1 := by kernel_rfl
theorem impl_PlacesAt.bits1 : waitsOk impl_PlacesAt.T1.2 impl_PlacesAt.B1 = true := by kernel_rfl
set_option maxHeartbeats 8000000 in
set_option maxRecDepth 100000 in
theorem impl_PlacesAt.calls (a0_0 : Int) (a0_1 : Int) (a0_2 : Int) (a0_3 : Int) (a1 : Int) (r1 : Int) (r2 : Int) (w : World) (h : impl_PlacesAt.f a0_0 a0_1 a0_2 a0_3 a1 = some (r1, r2)) :
  Calls Try.prog 56 #[.agg #[iv_ a0_0, iv_ a0_1, iv_ a0_2, iv_ a0_3], iv_ a1] w fun e w' => e = .returned (.agg #[iv_ r1, iv_ r2]) ∧ Below w.heap.size w w' := by
 have hu72 := Try.underlying72
 have hu35 := Try.underlying35
 have HB := Aside0.mk (Below.refl w.heap.size w)
 have H := h
 clear h
 unfold impl_PlacesAt.f at H
 replace H := bs_ H
 obtain ⟨t128, A3, H⟩ := H
 replace H := bs_ H
 obtain ⟨⟨t129, t130⟩, A4, H⟩ := H
 dsimp only at H
 simp only [Option.some.injEq, Prod.mk.injEq] at H
 obtain ⟨rfl, rfl⟩ := H
 go_enter Try.func56, Try.ntmps56
 try go_wp2_with (first | ((with_reducible refine gd_ 2 ?_); refine bx_ 2 72 #[iv_ a0_0, iv_ a0_1, iv_ a0_2, iv_ a0_3] ?_; intro gb126 hg w5 hbox hb; refine sh3_ (below_step (bl_ HB) hb) hbox (ge_ hg (bl_ HB)) ?_; clear HB hb hbox hg; intro HB BK126 GE126) | ((with_reducible refine gd_ 4 ?_); refine bx_ 4 35 #[iv_ 0, iv_ 0] ?_; intro gb127 hg w6 hbox hb; refine sh6_ (blk_below (bk_ BK126) hb) (below_step (bl1_ HB GE126) hb) hbox (ge_ hg (bl1_ HB GE126)) (nl_ hg (bk_ BK126)) (ng_ hg (bk_ BK126)) ?_; clear BK126 HB hb hbox hg; intro BK126 HB BK127 GE127 NB126_127 NB127_126))
 refine sh3_ (blk_drew BK126.out) (blk_drew BK127.out) (below_drew1 HB.out) ?_
 clear BK126 BK127 HB
 intro BK126 BK127 HB
 refine start_ (n := 8) (S := fun w' => Cz4 w' gb126 (iv_ a0_0) (iv_ a0_1) (iv_ a0_2) (iv_ a0_3)) (ds := []) (bo_ 8 0) (by kernel_rfl) rfl rfl (cz4_ BK126) (fun hHeld => ?_); refine with_tabW impl_PlacesAt.tab1 impl_PlacesAt.bits1 (fun HT_ HW_ => ?_)
 generalize w6.drew = w7 at BK126 BK127 HB hHeld ⊢
 refine pur_ 1 (bo_ 8 2) (some 6) HT_ ?_
 refine pur_ 4 (bo_ 8 18) (some 9) HT_ ?_
 refine tak_ 0 (bo_ 8 19) (some 5) HT_ HW_ hHeld ?_
 refine tak_ 5 (bo_ 8 51) (some 10) HT_ HW_ hHeld ?_
 refine onc_ 2 (bo_ 8 55) (some 7) HT_ Try.func57 (impl_PlaceAt.calls a0_0 a0_1 a0_2 a0_3 a1 t128 _ A3.out) ?_
 rintro e w8 ⟨rfl, hb⟩
 refine sh3_ (blk_below (bk_ BK126) hb) (blk_below (bk_ BK127) hb) (below_step (bl2_ HB GE126 GE127) hb) ?_
 clear BK126 BK127 HB hb
 intro BK126 BK127 HB
 refine ⟨_, _, rfl, (cz4_ BK126), pt_, fun hHeld => ?_⟩
 refine pur_ 3 (bo_ 8 63) (some 8) HT_ ?_
 refine onc_ 6 (bo_ 8 127) (some 11) HT_ Try.func94 (impl_WidenArc.calls t128 0 a0_3 t129 t130 _ A4.out) ?_
 rintro e w9 ⟨rfl, hb⟩
 refine sh3_ (blk_below (bk_ BK126) hb) (blk_below (bk_ BK127) hb) (below_step (bl2_ HB GE126 GE127) hb) ?_
 clear BK126 BK127 HB hb
 intro BK126 BK127 HB
 refine ⟨_, _, rfl, (cz4_ BK126), pt_, fun hHeld => ?_⟩
 refine one_ (i := 7) (N := none) (bo_ 8 255) rfl rfl (one_of HT_.out (by kernel_rfl)) (by decide) (fun K hK => ?_)
 have hs10 : w9.cell? ⟨gb127, 0, none⟩ = some (iv_ 0) := bc_ BK127 0 rfl
 have hfs10 := bf_ BK127 0
 have hns10_0 := NB126_127.out
 have hms10_0 := NB127_126.out
 have hs11 : w9.cell? ⟨gb127, 1, none⟩ = some (iv_ 0) := bc_ BK127 1 rfl
 have hfs11 := bf_ BK127 1
 have hns11_0 := NB126_127.out
 have hms11_0 := NB127_126.out
 refine skip_ (w1 := ?_) (by rfl) rfl ?_ ?_
 rotate_left
 ·go_simp
  rfl
 refine hK.out _ _ ⟨((cell_far (p := ⟨gb127, _, none⟩) NB126_127.out _).trans (((cell_far (p := ⟨gb127, _, none⟩) NB126_127.out _).trans (hHeld.1)))), ((cell_far (p := ⟨gb127, _, none⟩) NB126_127.out _).trans (((cell_far (p := ⟨gb127, _, none⟩) NB126_127.out _).trans (hHeld.2.1)))), ((cell_far (p := ⟨gb127, _, none⟩) NB126_127.out _).trans (((cell_far (p := ⟨gb127, _, none⟩) NB126_127.out _).trans (hHeld.2.2.1)))), ((cell_far (p := ⟨gb127, _, none⟩) NB126_127.out _).trans (((cell_far (p := ⟨gb127, _, none⟩) NB126_127.out _).trans (hHeld.2.2.2))))⟩ (fun hHeld => ?_)
 clear hK K
 refine done_ (done_of HT_.out (by kernel_rfl)) ?_
 try go_wp2
 refine bodyPost_ret (results_cell_row rfl _ _ gb127 35 #[iv_ t129, iv_ t130] (0, 0) _ rfl (bp_ BK127) Try.underlying35 rfl (by kernel_rfl)) rfl ?_
 exact ⟨by first | (rw [hRT_.out]; rfl) | exact er_, bl2_ HB GE126 GE127⟩

/-! ### impl_NodeAt: function 13 -/
def impl_NodeAt.f (a0_0 : Int) (l0_1 : List (S72)) (l0_2 : List (S74)) (a0_3 : Int) (a0_4 : Int) (a0_5 : Int) (a0_6 : Int) (a0_7 : Int) (l0_8 : List (S88)) (a0_9 : Int) (a1 : Int) (a2 : Int) : Option (Int × Int) := (impl_isSatellite.f a0_0 l0_1 l0_2 a0_3 a0_4 a0_5 a0_6 a0_7 l0_8 a0_9 a1).bind fun t133 => (if t133 = true then (if 0 ≤ a1 then (if a1 < (l0_1.length : Int) then ((impl_PlacesAt.f ((rd_T72 l0_1 a1).f0) ((rd_T72 l0_1 a1).f1) ((rd_T72 l0_1 a1).f2) ((rd_T72 l0_1 a1).f3) a2).bind fun bt135 => (some (bt135.1, bt135.2))) else (none)) else (none)) else ((impl_IsSite.f a0_0 l0_1 l0_2 a0_3 a0_4 a0_5 a0_6 a0_7 l0_8 a0_9 a1).bind fun t137 => (if t137 = true then (if 0 ≤ (wrap64 (a1 - (l0_1.length : Int))) then (if (wrap64 (a1 - (l0_1.length : Int))) < (l0_2.length : Int) then ((impl_PlaceAt.f 0 ((rd_T74 l0_2 (wrap64 (a1 - (l0_1.length : Int)))).f1) ((rd_T74 l0_2 (wrap64 (a1 - (l0_1.length : Int)))).f2) 0 a2).bind fun t140 => (some (t140, 0))) else (none)) else (none)) else (some (0, 0)))))
set_option maxHeartbeats 8000000 in
set_option maxRecDepth 100000 in
theorem impl_NodeAt.calls (a0_0 : Int) (A0_1 : Option Addr) (c0_1 : Nat) (l0_1 : List (S72)) (A0_2 : Option Addr) (c0_2 : Nat) (l0_2 : List (S74)) (a0_3 : Int) (a0_4 : Int) (a0_5 : Int) (a0_6 : Int) (a0_7 : Int) (A0_8 : Option Addr) (c0_8 : Nat) (l0_8 : List (S88)) (a0_9 : Int) (a1 : Int) (a2 : Int) (r1 : Int) (r2 : Int) (w : World) (hr0_1 : Kd.C k72 w A0_1 l0_1.length l0_1) (hc0_1 : l0_1.length ≤ c0_1) (hr0_2 : Kd.C k74 w A0_2 l0_2.length l0_2) (hc0_2 : l0_2.length ≤ c0_2) (hr0_8 : Kd.C k88 w A0_8 l0_8.length l0_8) (hc0_8 : l0_8.length ≤ c0_8) (h : impl_NodeAt.f a0_0 l0_1 l0_2 a0_3 a0_4 a0_5 a0_6 a0_7 l0_8 a0_9 a1 a2 = some (r1, r2)) :
  Calls Try.prog 13 #[.agg #[iv_ a0_0, .slice A0_1 l0_1.length c0_1, .slice A0_2 l0_2.length c0_2, iv_ a0_3, iv_ a0_4, iv_ a0_5, iv_ a0_6, iv_ a0_7, .slice A0_8 l0_8.length c0_8, iv_ a0_9], iv_ a1, iv_ a2] w fun e w' => e = .returned (.agg #[iv_ r1, iv_ r2]) ∧ Below w.heap.size w w' := by
 have hu28 := Try.underlying28
 have hu35 := Try.underlying35
 have hu72 := Try.underlying72
 have hu74 := Try.underlying74
 have HR0_1 := Aside0.mk hr0_1
 have HC0_1 := Aside0.mk hc0_1
 clear hr0_1 hc0_1
 have HR0_2 := Aside0.mk hr0_2
 have HC0_2 := Aside0.mk hc0_2
 clear hr0_2 hc0_2
 have HR0_8 := Aside0.mk hr0_8
 have HC0_8 := Aside0.mk hc0_8
 clear hr0_8 hc0_8
 have HB := Aside0.mk (Below.refl w.heap.size w)
 have H := h
 clear h
 unfold impl_NodeAt.f at H
 replace H := bs_ H
 obtain ⟨t133, A4, H⟩ := H
 by_cases c5 : t133 = true
 ·subst c5
  have H1 : (if 0 ≤ a1 then (if a1 < (l0_1.length : Int) then ((impl_PlacesAt.f ((rd_T72 l0_1 a1).f0) ((rd_T72 l0_1 a1).f1) ((rd_T72 l0_1 a1).f2) ((rd_T72 l0_1 a1).f3) a2).bind fun bt135 => (some (bt135.1, bt135.2))) else (none)) else (none)) = some (r1, r2) := by rw [if_pos rfl] at H; exact H
  clear H
  have H := H1
  clear H1
  replace H := ifn_ H
  obtain ⟨c6, H⟩ := H
  have c6b0 := decide_eq_true c6
  clear c6
  replace H := ifn_ H
  obtain ⟨c7, H⟩ := H
  have c7b0 := decide_eq_true c7
  clear c7
  replace H := bs_ H
  obtain ⟨⟨t135, t136⟩, A8, H⟩ := H
  dsimp only at H
  simp only [Option.some.injEq, Prod.mk.injEq] at H
  obtain ⟨rfl, rfl⟩ := H
  go_enter Try.func13, Try.ntmps13
  go_wp2_with (first | ((with_reducible refine gd_ 3 ?_); refine bx_ 3 28 #[iv_ a0_0, .slice A0_1 l0_1.length c0_1, .slice A0_2 l0_2.length c0_2, iv_ a0_3, iv_ a0_4, iv_ a0_5, iv_ a0_6, iv_ a0_7, .slice A0_8 l0_8.length c0_8, iv_ a0_9] ?_; intro gb131 hg w9 hbox hb; refine sh3_ (below_step (bl_ HB) hb) hbox (ge_ hg (bl_ HB)) ?_; clear HB hb hbox hg; intro HB BK131 GE131) | ((with_reducible refine gd_ 6 ?_); refine bx_ 6 35 #[iv_ 0, iv_ 0] ?_; intro gb132 hg w10 hbox hb; refine sh6_ (blk_below (bk_ BK131) hb) (below_step (bl1_ HB GE131) hb) hbox (ge_ hg (bl1_ HB GE131)) (nl_ hg (bk_ BK131)) (ng_ hg (bk_ BK131)) ?_; clear BK131 HB hb hbox hg; intro BK131 HB BK132 GE132 NB131_132 NB132_131; have hnb11 := NB131_132.out; have hnc11 := NB132_131.out; have hcz12 := cf10_ BK131) | ((with_reducible refine gate_callee (f := 53) rfl ?_); refine gl_ 11 Try.func53 (impl_isSatellite.calls a0_0 _ _ l0_1 _ _ l0_2 a0_3 a0_4 a0_5 a0_6 a0_7 _ _ l0_8 a0_9 a1 true _ (ck_ HR0_1 HB) HC0_1.out (ck_ HR0_2 HB) HC0_2.out (ck_ HR0_8 HB) HC0_8.out A4.out) ?_; rintro e w13 ⟨rfl, hb⟩; refine ⟨_, rfl, sh3_ (blk_below (bk_ BK131) hb) (blk_below (bk_ BK132) hb) (below_step (bl2_ HB GE131 GE132) hb) ?_⟩; clear BK131 BK132 HB hb; intro BK131 BK132 HB; have hcz14 := cf10_ BK131; have p134 : 0 ≤ (a1 : Int) := od_; have q134 : a1 < (l0_1.length : Int) := od_; obtain ⟨ad134, e134, hx134_0, hx134_1, hx134_2, hx134_3⟩ := at_T72 HR0_1.out a1 p134 q134; cases e134; replace hx134_0 := hbc_ HB hx134_0; replace hx134_1 := hbc_ HB hx134_1; replace hx134_2 := hbc_ HB hx134_2; replace hx134_3 := hbc_ HB hx134_3; replace p134 := eq_true p134; replace q134 := eq_true q134) | ((with_reducible refine gate_callee (f := 56) rfl ?_); refine gl_ 18 Try.func56 (impl_PlacesAt.calls ((rd_T72 l0_1 a1).f0) ((rd_T72 l0_1 a1).f1) ((rd_T72 l0_1 a1).f2) ((rd_T72 l0_1 a1).f3) a2 t135 t136 _ A8.out) ?_; rintro e w15 ⟨rfl, hb⟩; refine ⟨_, rfl, sh3_ (blk_below (bk_ BK131) hb) (blk_below (bk_ BK132) hb) (below_step (bl2_ HB GE131 GE132) hb) ?_⟩; clear BK131 BK132 HB hb; intro BK131 BK132 HB; have hcz16 := cf2_ BK132))
  refine bodyPost_ret (results_cell_row rfl _ _ gb132 35 #[iv_ t135, iv_ t136] (0, 0) _ rfl (bp_ BK132) Try.underlying35 rfl (by kernel_rfl)) rfl ?_
  exact ⟨by first | (rw [hRT_.out]; rfl) | exact er_, bl2_ HB GE131 GE132⟩
 ·replace c5 := Bool.eq_false_iff.mpr c5
  subst c5
  have H1 : ((impl_IsSite.f a0_0 l0_1 l0_2 a0_3 a0_4 a0_5 a0_6 a0_7 l0_8 a0_9 a1).bind fun t137 => (if t137 = true then (if 0 ≤ (wrap64 (a1 - (l0_1.length : Int))) then (if (wrap64 (a1 - (l0_1.length : Int))) < (l0_2.length : Int) then ((impl_PlaceAt.f 0 ((rd_T74 l0_2 (wrap64 (a1 - (l0_1.length : Int)))).f1) ((rd_T74 l0_2 (wrap64 (a1 - (l0_1.length : Int)))).f2) 0 a2).bind fun t140 => (some (t140, 0))) else (none)) else (none)) else (some (0, 0)))) = some (r1, r2) := by rw [if_neg (show ¬ (false = true) by decide)] at H; exact H
  clear H
  have H := H1
  clear H1
  replace H := bs_ H
  obtain ⟨t137, A17, H⟩ := H
  by_cases c18 : t137 = true
  ·subst c18
   have H1 : (if 0 ≤ (wrap64 (a1 - (l0_1.length : Int))) then (if (wrap64 (a1 - (l0_1.length : Int))) < (l0_2.length : Int) then ((impl_PlaceAt.f 0 ((rd_T74 l0_2 (wrap64 (a1 - (l0_1.length : Int)))).f1) ((rd_T74 l0_2 (wrap64 (a1 - (l0_1.length : Int)))).f2) 0 a2).bind fun t140 => (some (t140, 0))) else (none)) else (none)) = some (r1, r2) := by rw [if_pos rfl] at H; exact H
   clear H
   have H := H1
   clear H1
   obtain ⟨ji19, hji19⟩ : ∃ j_ : Int, (wrap64 (a1 - (l0_1.length : Int))) = j_ := ⟨_, rfl⟩
   replace H : (if 0 ≤ (ji19) then (if (ji19) < (l0_2.length : Int) then ((impl_PlaceAt.f 0 ((rd_T74 l0_2 (ji19)).f1) ((rd_T74 l0_2 (ji19)).f2) 0 a2).bind fun t140 => (some (t140, 0))) else (none)) else (none)) = some (r1, r2) := by first | (rw [hji19] at H; exact H) | (simp only [hji19] at H ⊢; exact H)
   (try rw [hji19] at A4)
   (try rw [hji19] at A17)
   have hji19w : (IntKind.i64.wrap (a1 - (l0_1.length : Int))) = ji19 := (i64_w _).trans hji19
   replace H := ifn_ H
   obtain ⟨c20, H⟩ := H
   have c20b0 := decide_eq_true c20
   clear c20
   replace H := ifn_ H
   obtain ⟨c21, H⟩ := H
   have c21b0 := decide_eq_true c21
   clear c21
   replace H := bs_ H
   obtain ⟨t140, A22, H⟩ := H
   simp only [Option.some.injEq, Prod.mk.injEq] at H
   obtain ⟨rfl, rfl⟩ := H
   go_enter Try.func13, Try.ntmps13
   go_wp2_with (first | ((with_reducible refine gd_ 3 ?_); refine bx_ 3 28 #[iv_ a0_0, .slice A0_1 l0_1.length c0_1, .slice A0_2 l0_2.length c0_2, iv_ a0_3, iv_ a0_4, iv_ a0_5, iv_ a0_6, iv_ a0_7, .slice A0_8 l0_8.length c0_8, iv_ a0_9] ?_; intro gb131 hg w23 hbox hb; refine sh3_ (below_step (bl_ HB) hb) hbox (ge_ hg (bl_ HB)) ?_; clear HB hb hbox hg; intro HB BK131 GE131) | ((with_reducible refine gd_ 6 ?_); refine bx_ 6 35 #[iv_ 0, iv_ 0] ?_; intro gb132 hg w24 hbox hb; refine sh6_ (blk_below (bk_ BK131) hb) (below_step (bl1_ HB GE131) hb) hbox (ge_ hg (bl1_ HB GE131)) (nl_ hg (bk_ BK131)) (ng_ hg (bk_ BK131)) ?_; clear BK131 HB hb hbox hg; intro BK131 HB BK132 GE132 NB131_132 NB132_131; have hnb25 := NB131_132.out; have hnc25 := NB132_131.out; have hcz26 := cf10_ BK131) | ((with_reducible refine gate_callee (f := 53) rfl ?_); refine gl_ 11 Try.func53 (impl_isSatellite.calls a0_0 _ _ l0_1 _ _ l0_2 a0_3 a0_4 a0_5 a0_6 a0_7 _ _ l0_8 a0_9 a1 false _ (ck_ HR0_1 HB) HC0_1.out (ck_ HR0_2 HB) HC0_2.out (ck_ HR0_8 HB) HC0_8.out A4.out) ?_; rintro e w27 ⟨rfl, hb⟩; refine ⟨_, rfl, sh3_ (blk_below (bk_ BK131) hb) (blk_below (bk_ BK132) hb) (below_step (bl2_ HB GE131 GE132) hb) ?_⟩; clear BK131 BK132 HB hb; intro BK131 BK132 HB; have hcz28 := cf10_ BK131) | ((with_reducible refine gate_callee (f := 54) rfl ?_); refine gl_ 22 Try.func54 (impl_IsSite.calls a0_0 _ _ l0_1 _ _ l0_2 a0_3 a0_4 a0_5 a0_6 a0_7 _ _ l0_8 a0_9 a1 true _ (ck_ HR0_1 HB) HC0_1.out (ck_ HR0_2 HB) HC0_2.out (ck_ HR0_8 HB) HC0_8.out A17.out) ?_; rintro e w29 ⟨rfl, hb⟩; refine ⟨_, rfl, sh3_ (blk_below (bk_ BK131) hb) (blk_below (bk_ BK132) hb) (below_step (bl2_ HB GE131 GE132) hb) ?_⟩; clear BK131 BK132 HB hb; intro BK131 BK132 HB; have hcz30 := cf10_ BK131; have p138 : 0 ≤ ((ji19) : Int) := od_; have q138 : (ji19) < (l0_2.length : Int) := od_; obtain ⟨ad138, e138, hx138_0, hx138_1, hx138_2⟩ := at_T74 HR0_2.out (ji19) p138 q138; cases e138; replace hx138_0 := hbc_ HB hx138_0; replace hx138_1 := hbc_ HB hx138_1; replace hx138_2 := hbc_ HB hx138_2; replace p138 := eq_true p138; replace q138 := eq_true q138) | ((with_reducible refine gd_ 7 ?_); refine bx_ 7 74 #[iv_ 0, iv_ 0, iv_ 0] ?_; intro gb139 hg w31 hbox hb; refine sh9_ (blk_below (bk_ BK131) hb) (blk_below (bk_ BK132) hb) (below_step (bl2_ HB GE131 GE132) hb) hbox (ge_ hg (bl2_ HB GE131 GE132)) (nl_ hg (bk_ BK131)) (ng_ hg (bk_ BK131)) (nl_ hg (bk_ BK132)) (ng_ hg (bk_ BK132)) ?_; clear BK131 BK132 HB hb hbox hg; intro BK131 BK132 HB BK139 GE139 NB131_139 NB139_131 NB132_139 NB139_132; have hnb32 := NB139_131.out; have hnc32 := NB131_139.out; have hnb33 := NB139_132.out; have hnc33 := NB132_139.out; have hcz34 := cf3_ BK139) | ((with_reducible refine gate_callee (f := 57) rfl ?_); refine goesL_ (some 38) rfl rfl Try.func57 (by kernel_rfl) rfl #[.agg #[iv_ 0, iv_ ((rd_T74 l0_2 (ji19)).f1), iv_ ((rd_T74 l0_2 (ji19)).f2), iv_ 0], iv_ a2] rfl (by (try simp only [List.map_toArray, List.map_cons, List.map_nil]); first | done | (simp only [hji19]; rfl) | rfl | (simp only [List.length_drop, List.length_take]; rfl)) ?_; (with_reducible refine (impl_PlaceAt.calls 0 ((rd_T74 l0_2 (ji19)).f1) ((rd_T74 l0_2 (ji19)).f2) 0 a2 t140 _ A22.out).mono ?_); rintro e w35 ⟨rfl, hb⟩; refine ⟨_, rfl, sh4_ (blk_below (g := gb131) (o := .cells #[iv_ a0_0, .slice A0_1 l0_1.length c0_1, .slice (some ad138) l0_2.length c0_2, iv_ a0_3, iv_ a0_4, iv_ a0_5, iv_ a0_6, iv_ a0_7, .slice A0_8 l0_8.length c0_8, iv_ a0_9] 28 (0, 0)) (bp_ BK131) hb) (blk_below (g := gb132) (o := .cells #[iv_ 0, iv_ 0] 35 (0, 0)) (bp_ BK132) hb) (blk_below (g := gb139) (o := .cells #[iv_ ((rd_T74 l0_2 (ji19)).f0), iv_ ((rd_T74 l0_2 (ji19)).f1), iv_ ((rd_T74 l0_2 (ji19)).f2)] 74 (0, 0)) (bp_ BK139) hb) (below_step (bl3_ HB GE131 GE132 GE139) hb) ?_⟩; clear BK131 BK132 BK139 HB hb; intro BK131 BK132 BK139 HB; have hcz36 := cf2_ BK132))
   refine bodyPost_ret (results_cell_row rfl _ _ gb132 35 #[iv_ t140, iv_ 0] (0, 0) _ rfl (bp_ BK132) Try.underlying35 rfl (by kernel_rfl)) rfl ?_
   exact ⟨by first | rfl | (rw [hRT_.out]; rfl) | (simp [errW_none, errW_some] <;> rfl) | (simp only [← hji19]; first | rfl | (simp [errW_none, errW_some] <;> rfl)) | (simp [*, errW_none, errW_some] <;> rfl), bl3_ HB GE131 GE132 GE139⟩
  ·replace c18 := Bool.eq_false_iff.mpr c18
   subst c18
   have H1 : (some (0, 0)) = some (r1, r2) := by rw [if_neg (show ¬ (false = true) by decide)] at H; exact H
   clear H
   have H := H1
   clear H1
   simp only [Option.some.injEq, Prod.mk.injEq] at H
   obtain ⟨rfl, rfl⟩ := H
   go_enter Try.func13, Try.ntmps13
   go_wp2_with (first | ((with_reducible refine gd_ 3 ?_); refine bx_ 3 28 #[iv_ a0_0, .slice A0_1 l0_1.length c0_1, .slice A0_2 l0_2.length c0_2, iv_ a0_3, iv_ a0_4, iv_ a0_5, iv_ a0_6, iv_ a0_7, .slice A0_8 l0_8.length c0_8, iv_ a0_9] ?_; intro gb131 hg w37 hbox hb; refine sh3_ (below_step (bl_ HB) hb) hbox (ge_ hg (bl_ HB)) ?_; clear HB hb hbox hg; intro HB BK131 GE131) | ((with_reducible refine gd_ 6 ?_); refine bx_ 6 35 #[iv_ 0, iv_ 0] ?_; intro gb132 hg w38 hbox hb; refine sh6_ (blk_below (bk_ BK131) hb) (below_step (bl1_ HB GE131) hb) hbox (ge_ hg (bl1_ HB GE131)) (nl_ hg (bk_ BK131)) (ng_ hg (bk_ BK131)) ?_; clear BK131 HB hb hbox hg; intro BK131 HB BK132 GE132 NB131_132 NB132_131; have hnb39 := NB131_132.out; have hnc39 := NB132_131.out; have hcz40 := cf10_ BK131) | ((with_reducible refine gate_callee (f := 53) rfl ?_); refine gl_ 11 Try.func53 (impl_isSatellite.calls a0_0 _ _ l0_1 _ _ l0_2 a0_3 a0_4 a0_5 a0_6 a0_7 _ _ l0_8 a0_9 a1 false _ (ck_ HR0_1 HB) HC0_1.out (ck_ HR0_2 HB) HC0_2.out (ck_ HR0_8 HB) HC0_8.out A4.out) ?_; rintro e w41 ⟨rfl, hb⟩; refine ⟨_, rfl, sh3_ (blk_below (bk_ BK131) hb) (blk_below (bk_ BK132) hb) (below_step (bl2_ HB GE131 GE132) hb) ?_⟩; clear BK131 BK132 HB hb; intro BK131 BK132 HB; have hcz42 := cf10_ BK131) | ((with_reducible refine gate_callee (f := 54) rfl ?_); refine gl_ 22 Try.func54 (impl_IsSite.calls a0_0 _ _ l0_1 _ _ l0_2 a0_3 a0_4 a0_5 a0_6 a0_7 _ _ l0_8 a0_9 a1 false _ (ck_ HR0_1 HB) HC0_1.out (ck_ HR0_2 HB) HC0_2.out (ck_ HR0_8 HB) HC0_8.out A17.out) ?_; rintro e w43 ⟨rfl, hb⟩; refine ⟨_, rfl, sh3_ (blk_below (bk_ BK131) hb) (blk_below (bk_ BK132) hb) (below_step (bl2_ HB GE131 GE132) hb) ?_⟩; clear BK131 BK132 HB hb; intro BK131 BK132 HB; have hcz44 := cf2_ BK132))
   refine bodyPost_ret (results_cell_row rfl _ _ gb132 35 #[iv_ 0, iv_ 0] (0, 0) _ rfl (bp_ BK132) Try.underlying35 rfl (by kernel_rfl)) rfl ?_
   exact ⟨by first | (rw [hRT_.out]; rfl) | exact er_, bl2_ HB GE131 GE132⟩

/-! ### impl_GapOf: function 14 -/
def impl_GapOf.f (a0 : Int) (a1 : Int) : Option (Int) := (impl_AngleOf.f a0).bind fun t141 => ((impl_AngleOf.f a1).bind fun t142 => ((impl_AngleOf.f (wrap64 (t141 - t142))).bind fun t143 => (some (mn t143 (wrap64 (360 - t143))))))
set_option maxHeartbeats 8000000 in
set_option maxRecDepth 100000 in
theorem impl_GapOf.calls (a0 : Int) (a1 : Int) (r : Int) (w : World) (h : impl_GapOf.f a0 a1 = some r) :
  Calls Try.prog 14 #[iv_ a0, iv_ a1] w fun e w' => e = .returned (iv_ r) ∧ Below w.heap.size w w' := by
 have HB := Aside0.mk (Below.refl w.heap.size w)
 have H := h
 clear h
 unfold impl_GapOf.f at H
 replace H := bs_ H
 obtain ⟨t141, A3, H⟩ := H
 replace H := bs_ H
 obtain ⟨t142, A4, H⟩ := H
 replace H := bs_ H
 obtain ⟨t143, A5, H⟩ := H
 obtain ⟨ji6, hji6⟩ : ∃ j_ : Int, (mn t143 (wrap64 (360 - t143))) = j_ := ⟨_, rfl⟩
 replace H : (some ji6) = some r := by first | (rw [hji6] at H; exact H) | (simp only [hji6] at H ⊢; exact H)
 (try rw [hji6] at A3)
 (try rw [hji6] at A4)
 (try rw [hji6] at A5)
 have hji6_ : (if (wrap64 (360 - t143)) < t143 then (wrap64 (360 - t143)) else t143) = ji6 := hji6
 obtain rfl := Option.some.inj H
 go_enter Try.func14, Try.ntmps14
 go_wp2_with (first | ((with_reducible refine gate_callee (f := 58) rfl ?_); refine gl_ 7 Try.func58 (impl_AngleOf.calls a0 t141 _ A3.out) ?_; rintro e w' ⟨rfl, ⟨nd, rfl⟩⟩; refine ⟨_, rfl, ?_⟩) | ((with_reducible refine gate_callee (f := 58) rfl ?_); refine gl_ 9 Try.func58 (impl_AngleOf.calls a1 t142 _ A4.out) ?_; rintro e w' ⟨rfl, ⟨nd, rfl⟩⟩; refine ⟨_, rfl, ?_⟩) | ((with_reducible refine gate_callee (f := 58) rfl ?_); refine gl_ 11 Try.func58 (impl_AngleOf.calls (wrap64 (t141 - t142)) t143 _ A5.out) ?_; rintro e w' ⟨rfl, ⟨nd, rfl⟩⟩; refine ⟨_, rfl, ?_⟩))
 go_ret
 exact ⟨by first | rfl | (rw [hRT_.out]; rfl) | (simp [errW_none, errW_some] <;> rfl) | (simp only [← hji6]; first | rfl | (simp [errW_none, errW_some] <;> rfl)) | (simp [*, errW_none, errW_some] <;> rfl), bl_ HB⟩

/-! ### impl_IsSpan: function 99 -/
def impl_IsSpan.f (a0_0 : Int) (a0_1 : Int) : Option (Bool) := if a0_0 ≥ 0 then (if a0_1 ≤ 1000 then (some (decide (a0_0 < a0_1))) else (some false)) else (some false)
set_option maxHeartbeats 8000000 in
set_option maxRecDepth 100000 in
theorem impl_IsSpan.calls (a0_0 : Int) (a0_1 : Int) (r : Bool) (w : World) (h : impl_IsSpan.f a0_0 a0_1 = some r) :
  Calls Try.prog 99 #[.agg #[iv_ a0_0, iv_ a0_1]] w fun e w' => e = .returned (.bool r) ∧ Below w.heap.size w w' := by
 have hu82 := Try.underlying82
 have HB := Aside0.mk (Below.refl w.heap.size w)
 have H := h
 clear h
 unfold impl_IsSpan.f at H
 by_cases c2 : a0_0 ≥ 0
 ·rw [if_pos c2] at H
  have c2b0 : decide (0 ≤ a0_0) = true := decide_eq_true c2
  clear c2
  by_cases c3 : a0_1 ≤ 1000
  ·rw [if_pos c3] at H
   have c3b0 := decide_eq_true c3
   clear c3
   obtain rfl := Option.some.inj H
   go_enter Try.func99, Try.ntmps99
   go_wp2_with (first | ((with_reducible refine gd_ 1 ?_); refine bx_ 1 82 #[iv_ a0_0, iv_ a0_1] ?_; intro gb144 hg w4 hbox hb; refine sh3_ (below_step (bl_ HB) hb) hbox (ge_ hg (bl_ HB)) ?_; clear HB hb hbox hg; intro HB BK144 GE144; have hcz5 := cf2_ BK144))
   go_ret
   exact ⟨by first | (rw [hRT_.out]; rfl) | exact er_, bl1_ HB GE144⟩
  ·rw [if_neg c3] at H
   have c3b0 := decide_eq_false c3
   clear c3
   obtain rfl := Option.some.inj H
   go_enter Try.func99, Try.ntmps99
   go_wp2_with (first | ((with_reducible refine gd_ 1 ?_); refine bx_ 1 82 #[iv_ a0_0, iv_ a0_1] ?_; intro gb144 hg w6 hbox hb; refine sh3_ (below_step (bl_ HB) hb) hbox (ge_ hg (bl_ HB)) ?_; clear HB hb hbox hg; intro HB BK144 GE144; have hcz7 := cf2_ BK144))
   go_ret
   exact ⟨by first | (rw [hRT_.out]; rfl) | exact er_, bl1_ HB GE144⟩
 ·rw [if_neg c2] at H
  have c2b0 : decide (0 ≤ a0_0) = false := decide_eq_false c2
  clear c2
  obtain rfl := Option.some.inj H
  go_enter Try.func99, Try.ntmps99
  go_wp2_with (first | ((with_reducible refine gd_ 1 ?_); refine bx_ 1 82 #[iv_ a0_0, iv_ a0_1] ?_; intro gb144 hg w8 hbox hb; refine sh3_ (below_step (bl_ HB) hb) hbox (ge_ hg (bl_ HB)) ?_; clear HB hb hbox hg; intro HB BK144 GE144; have hcz9 := cf2_ BK144))
  go_ret
  exact ⟨by first | (rw [hRT_.out]; rfl) | exact er_, bl1_ HB GE144⟩

/-! ### impl_InSpan: function 63 -/
def impl_InSpan.f (a0_0 : Int) (a0_1 : Int) (a1 : Int) : Option (Bool) := (impl_IsSpan.f a0_0 a0_1).bind fun t146 => (if t146 = true then (if a0_0 ≤ a1 then (some (decide (a1 < a0_1))) else (some false)) else (some false))
set_option maxHeartbeats 8000000 in
set_option maxRecDepth 100000 in
theorem impl_InSpan.calls (a0_0 : Int) (a0_1 : Int) (a1 : Int) (r : Bool) (w : World) (h : impl_InSpan.f a0_0 a0_1 a1 = some r) :
  Calls Try.prog 63 #[.agg #[iv_ a0_0, iv_ a0_1], iv_ a1] w fun e w' => e = .returned (.bool r) ∧ Below w.heap.size w w' := by
 have hu82 := Try.underlying82
 have HB := Aside0.mk (Below.refl w.heap.size w)
 have H := h
 clear h
 unfold impl_InSpan.f at H
 replace H := bs_ H
 obtain ⟨t146, A3, H⟩ := H
 by_cases c4 : t146 = true
 ·subst c4
  rw [if_pos rfl] at H
  by_cases c5 : a0_0 ≤ a1
  ·rw [if_pos c5] at H
   have c5b0 := decide_eq_true c5
   clear c5
   obtain rfl := Option.some.inj H
   go_enter Try.func63, Try.ntmps63
   go_wp2_with (first | ((with_reducible refine gd_ 2 ?_); refine bx_ 2 82 #[iv_ a0_0, iv_ a0_1] ?_; intro gb145 hg w6 hbox hb; refine sh3_ (below_step (bl_ HB) hb) hbox (ge_ hg (bl_ HB)) ?_; clear HB hb hbox hg; intro HB BK145 GE145; have hcz7 := cf2_ BK145) | ((with_reducible refine gate_callee (f := 99) rfl ?_); refine gl_ 6 Try.func99 (impl_IsSpan.calls a0_0 a0_1 true _ A3.out) ?_; rintro e w8 ⟨rfl, hb⟩; refine ⟨_, rfl, sh2_ (blk_below (bk_ BK145) hb) (below_step (bl1_ HB GE145) hb) ?_⟩; clear BK145 HB hb; intro BK145 HB; have hcz9 := cf2_ BK145))
   go_ret
   exact ⟨by first | (rw [hRT_.out]; rfl) | exact er_, bl1_ HB GE145⟩
  ·rw [if_neg c5] at H
   have c5b0 := decide_eq_false c5
   clear c5
   obtain rfl := Option.some.inj H
   go_enter Try.func63, Try.ntmps63
   go_wp2_with (first | ((with_reducible refine gd_ 2 ?_); refine bx_ 2 82 #[iv_ a0_0, iv_ a0_1] ?_; intro gb145 hg w10 hbox hb; refine sh3_ (below_step (bl_ HB) hb) hbox (ge_ hg (bl_ HB)) ?_; clear HB hb hbox hg; intro HB BK145 GE145; have hcz11 := cf2_ BK145) | ((with_reducible refine gate_callee (f := 99) rfl ?_); refine gl_ 6 Try.func99 (impl_IsSpan.calls a0_0 a0_1 true _ A3.out) ?_; rintro e w12 ⟨rfl, hb⟩; refine ⟨_, rfl, sh2_ (blk_below (bk_ BK145) hb) (below_step (bl1_ HB GE145) hb) ?_⟩; clear BK145 HB hb; intro BK145 HB; have hcz13 := cf2_ BK145))
   go_ret
   exact ⟨by first | (rw [hRT_.out]; rfl) | exact er_, bl1_ HB GE145⟩
 ·replace c4 := Bool.eq_false_iff.mpr c4
  subst c4
  have H1 : (some false) = some r := by rw [if_neg (show ¬ (false = true) by decide)] at H; exact H
  clear H
  have H := H1
  clear H1
  obtain rfl := Option.some.inj H
  go_enter Try.func63, Try.ntmps63
  go_wp2_with (first | ((with_reducible refine gd_ 2 ?_); refine bx_ 2 82 #[iv_ a0_0, iv_ a0_1] ?_; intro gb145 hg w14 hbox hb; refine sh3_ (below_step (bl_ HB) hb) hbox (ge_ hg (bl_ HB)) ?_; clear HB hb hbox hg; intro HB BK145 GE145; have hcz15 := cf2_ BK145) | ((with_reducible refine gate_callee (f := 99) rfl ?_); refine gl_ 6 Try.func99 (impl_IsSpan.calls a0_0 a0_1 false _ A3.out) ?_; rintro e w16 ⟨rfl, hb⟩; refine ⟨_, rfl, sh2_ (blk_below (bk_ BK145) hb) (below_step (bl1_ HB GE145) hb) ?_⟩; clear BK145 HB hb; intro BK145 HB))
  go_ret
  exact ⟨by first | (rw [hRT_.out]; rfl) | exact er_, bl1_ HB GE145⟩

/-! ### impl_InSpans: function 17 -/
def impl_InSpans.l0 : Nat → Int → List (S82) → Int → Int → Option (Bool)
 | 0, _, _, _, _ => none
 | k + 1, x1, x7, x8, x9 => if x9 < x8 then (if 0 ≤ x9 then (if x9 < (x7.length : Int) then ((impl_InSpan.f ((rd_T82 x7 x9).f0) ((rd_T82 x7 x9).f1) x1).bind fun t149 => (if t149 = true then (some true) else (impl_InSpans.l0 k x1 x7 x8 (wrap64 (x9 + 1))))) else (none)) else (none)) else (some false)
def impl_InSpans.f (k : Nat) (l0 : List (S82)) (a1 : Int) : Option (Bool) := impl_InSpans.l0 k a1 l0 (l0.length : Int) 0
theorem impl_InSpans.mono_l : ∀ k, (∀ y0 y1 y2 y3, LeO (impl_InSpans.l0 k y0 y1 y2 y3) (impl_InSpans.l0 (k + 1) y0 y1 y2 y3))
 | 0 => fun _ _ _ _ r h => by simp [impl_InSpans.l0] at h
 | k + 1 => by
  have ih0 := impl_InSpans.mono_l k
  ·intro y0 y1 y2 y3
   unfold impl_InSpans.l0
   repeat' first | (with_reducible first | exact ih0 _ _ _ _ | exact LeO.refl _ | exact LeO.none _ | refine LeO.ite ?_ ?_ | refine LeO.bind ?_ (fun _ => ?_)) | exact LeO.none _ | refine LeO.ite ?_ ?_ | refine LeO.bind ?_ (fun _ => ?_)
theorem impl_InSpans.mono : ∀ a0 a1 k, LeO (impl_InSpans.f k a0 a1) (impl_InSpans.f (k + 1) a0 a1) := by
 intro a0 a1 k
 have ih0 := impl_InSpans.mono_l k
 unfold impl_InSpans.f
 repeat' first | (with_reducible first | exact ih0 _ _ _ _ | exact LeO.refl _ | exact LeO.none _ | refine LeO.ite ?_ ?_ | refine LeO.bind ?_ (fun _ => ?_)) | exact LeO.none _ | refine LeO.ite ?_ ?_ | refine LeO.bind ?_ (fun _ => ?_)
set_option maxHeartbeats 8000000 in
set_option maxRecDepth 100000 in
theorem impl_InSpans.calls (k : Nat) (A0 : Option Addr) (c0 : Nat) (l0 : List (S82)) (a1 : Int) (r : Bool) (w : World) (hr0 : Kd.C k82 w A0 l0.length l0) (hc0 : l0.length ≤ c0) (h : impl_InSpans.f k l0 a1 = some r) :
  Calls Try.prog 17 #[.slice A0 l0.length c0, iv_ a1] w fun e w' => e = .returned (.bool r) ∧ Below w.heap.size w w' := by
 have hu82 := Try.underlying82
 have HR0 := Aside0.mk hr0
 have HC0 := Aside0.mk hc0
 clear hr0 hc0
 have HB := Aside0.mk (Below.refl w.heap.size w)
 have H := h
 clear h
 unfold impl_InSpans.f at H
 have H' := Aside0.mk H
 clear H
 go_enter Try.func17, Try.ntmps17
 go_wp2
 go_loopg [9] k (fun kq v9 w' => ∃ (x9_1 : Int), v9 = iv_ x9_1 ∧ Aside0 (impl_InSpans.l0 kq a1 l0 (l0.length : Int) x9_1 = some r) ∧ Aside0 (kq ≤ k) ∧ Aside0 (Below w.heap.size w w'))
 case atStart => exact ⟨(0), (by first | rfl | (simp; done) | (simp [*]; done)), H', ⟨Nat.le_refl _⟩, ⟨bl_ HB⟩⟩
 case round =>
  clear H'
  obtain ⟨x9_1, rfl, HA, HK1, HB⟩ := hrel
  cases gk with
  | zero => exact absurd HA.out (by simp [impl_InSpans.l0])
  | succ k1 =>
   have H := HA.out
   clear HA
   simp only [impl_InSpans.l0] at H
   by_cases c3 : x9_1 < (l0.length : Int)
   ·rw [if_pos c3] at H
    have c3b0 := decide_eq_true c3
    clear c3
    replace H := ifn_ H
    obtain ⟨c4, H⟩ := H
    have c4b0 := decide_eq_true c4
    clear c4
    replace H := ifn_ H
    obtain ⟨c5, H⟩ := H
    have c5b0 := decide_eq_true c5
    clear c5
    replace H := bs_ H
    obtain ⟨t149, A6, H⟩ := H
    by_cases c7 : t149 = true
    ·subst c7
     rw [if_pos rfl] at H
     obtain rfl := Option.some.inj H
     have p147 : 0 ≤ (x9_1 : Int) := od_
     have q147 : x9_1 < (l0.length : Int) := od_
     obtain ⟨ad147, e147, hx147_0, hx147_1⟩ := at_T82 HR0.out x9_1 p147 q147
     cases e147
     replace hx147_0 := hbc_ HB hx147_0
     replace hx147_1 := hbc_ HB hx147_1
     replace p147 := eq_true p147
     replace q147 := eq_true q147
     go_wp2_with (first | ((with_reducible refine gd_ 6 ?_); refine bx_ 6 82 #[iv_ 0, iv_ 0] ?_; intro gb148 hg w8 hbox hb; refine sh3_ (below_step (bl_ HB) hb) hbox (ge_ hg (bl_ HB)) ?_; clear HB hb hbox hg; intro HB BK148 GE148; have hcz9 := cf2_ BK148) | ((with_reducible refine gate_callee (f := 63) rfl ?_); refine gl_ 15 Try.func63 (impl_InSpan.calls ((rd_T82 l0 x9_1).f0) ((rd_T82 l0 x9_1).f1) a1 true _ A6.out) ?_; rintro e w10 ⟨rfl, hb⟩; refine ⟨_, rfl, sh2_ (blk_below (g := gb148) (o := .cells #[iv_ ((rd_T82 l0 x9_1).f0), iv_ ((rd_T82 l0 x9_1).f1)] 82 (0, 0)) (bp_ BK148) hb) (below_step (bl1_ HB GE148) hb) ?_⟩; clear BK148 HB hb; intro BK148 HB))
     go_ret
     exact ⟨by first | (rw [hRT_.out]; rfl) | exact er_, bl1_ HB GE148⟩
    ·replace c7 := Bool.eq_false_iff.mpr c7
     subst c7
     have H1 : (impl_InSpans.l0 k1 a1 l0 (l0.length : Int) (wrap64 (x9_1 + 1))) = some r := by rw [if_neg (show ¬ (false = true) by decide)] at H; exact H
     clear H
     have H := H1
     clear H1
     have H' := Aside0.mk H
     clear H
     have p147 : 0 ≤ (x9_1 : Int) := od_
     have q147 : x9_1 < (l0.length : Int) := od_
     obtain ⟨ad147, e147, hx147_0, hx147_1⟩ := at_T82 HR0.out x9_1 p147 q147
     cases e147
     replace hx147_0 := hbc_ HB hx147_0
     replace hx147_1 := hbc_ HB hx147_1
     replace p147 := eq_true p147
     replace q147 := eq_true q147
     go_wp2_with (first | ((with_reducible refine gd_ 6 ?_); refine bx_ 6 82 #[iv_ 0, iv_ 0] ?_; intro gb148 hg w11 hbox hb; refine sh3_ (below_step (bl_ HB) hb) hbox (ge_ hg (bl_ HB)) ?_; clear HB hb hbox hg; intro HB BK148 GE148; have hcz12 := cf2_ BK148) | ((with_reducible refine gate_callee (f := 63) rfl ?_); refine gl_ 15 Try.func63 (impl_InSpan.calls ((rd_T82 l0 x9_1).f0) ((rd_T82 l0 x9_1).f1) a1 false _ A6.out) ?_; rintro e w13 ⟨rfl, hb⟩; refine ⟨_, rfl, sh2_ (blk_below (g := gb148) (o := .cells #[iv_ ((rd_T82 l0 x9_1).f0), iv_ ((rd_T82 l0 x9_1).f1)] 82 (0, 0)) (bp_ BK148) hb) (below_step (bl1_ HB GE148) hb) ?_⟩; clear BK148 HB hb; intro BK148 HB))
     go_roundg k1
     case measure => have := HK1.out; omega
     case rel => exact ⟨(wrap64 (x9_1 + 1)), (by first | rfl | (simp; done) | (simp [*]; done)), H', ⟨by have := HK1.out; omega⟩, ⟨bl1_ HB GE148⟩⟩
   ·rw [if_neg c3] at H
    have c3b0 := decide_eq_false c3
    clear c3
    obtain rfl := Option.some.inj H
    go_wp2
    go_ret
    exact ⟨by first | (rw [hRT_.out]; rfl) | exact er_, bl_ HB⟩

end Go.Proofs.Ytopbkdcicidajaa.PFnShadows
