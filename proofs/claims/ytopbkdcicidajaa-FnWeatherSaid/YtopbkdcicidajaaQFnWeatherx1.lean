-- Written by a program of this session for this claim (the kit's printer with changes).
import Derived.Test.YtopbkdcicidajaaQFnWeatherx0
namespace Go.Proofs.Ytopbkdcicidajaa.PFnWeather
open Go.RowKit Go.Proofs.YtopbkdcicidajaaW.PrintWords Go.Proofs.YtopbkdcicidajaaW.PrintLast Go.Proofs.YtopbkdcicidajaaW.PrintMore
attribute [local go_sem] max2_int min2_int max_two min_two max_three min_three max_four min_four   -- for this text's walks alone
set_option linter.unusedVariables false
set_option linter.unusedSimpArgs false

/-! ### laws_big: function 8 -/
def laws_big.f (l0 : List Int) : Option (Bool) := some (decide ((l0.length : Int) > 1048576))
set_option maxHeartbeats 8000000 in
set_option maxRecDepth 100000 in
theorem laws_big.calls (A0 : Option Addr) (c0 : Nat) (l0 : List Int) (r : Bool) (w : World) (hr0 : Kd.C (Kd.int .u8) w A0 l0.length l0) (hc0 : l0.length ≤ c0) (h : laws_big.f l0 = some r) :
  Calls Try.prog 8 #[.slice A0 l0.length c0] w fun e w' => e = .returned (.bool r) ∧ Drawn0 w w' := by
 have HR0 := Aside0.mk hr0
 have HC0 := Aside0.mk hc0
 clear hr0 hc0
 have H := h
 clear h
 unfold laws_big.f at H
 obtain rfl := Option.some.inj H
 go_enter Try.func8, Try.ntmps8
 go_wp2
 go_ret
 exact ⟨by first | rfl | (simp; done) | (simp [*]; done), by repeat (first | exact Drawn0.refl _ | apply Drawn0.step)⟩

/-! ### impl_spanOf: function 86 -/
def impl_spanOf.f (a0_0 : Int) (a0_1 : Int) (a0_2 : Int) (a0_3 : Int) : Option (Int × Int) := some (a0_2, a0_3)
set_option maxHeartbeats 8000000 in
set_option maxRecDepth 100000 in
theorem impl_spanOf.calls (a0_0 : Int) (a0_1 : Int) (a0_2 : Int) (a0_3 : Int) (r1 : Int) (r2 : Int) (w : World) (h : impl_spanOf.f a0_0 a0_1 a0_2 a0_3 = some (r1, r2)) :
  Calls Try.prog 86 #[.agg #[.int .i64 a0_0, .int .i64 a0_1, .int .i64 a0_2, .int .i64 a0_3]] w fun e w' => e = .returned (.agg #[.int .i64 r1, .int .i64 r2]) ∧ Below w.heap.size w w' := by
 have hu53 := Try.underlying53
 have hu82 := Try.underlying82
 have HB := Aside0.mk (Below.refl w.heap.size w)
 have H := h
 clear h
 unfold impl_spanOf.f at H
 simp only [Option.some.injEq, Prod.mk.injEq] at H
 obtain ⟨rfl, rfl⟩ := H
 go_enter Try.func86, Try.ntmps86
 go_wp2_with (first | ((with_reducible refine gd_ 1 ?_); refine bx_ 1 53 #[.int .i64 a0_0, .int .i64 a0_1, .int .i64 a0_2, .int .i64 a0_3] ?_; intro gb101 hg w2 hbox hb; refine sh4_ (below_step (bl_ HB) hb) hbox (ge_ hg (bl_ HB)) (ge_ hg (bl_ HB)) ?_; clear HB hb hbox hg; intro HB BK101 GW101 GE101) | ((with_reducible refine gd_ 2 ?_); refine bx_ 2 82 #[.int .i64 0, .int .i64 0] ?_; intro gb102 hg w3 hbox hb; refine sh7_ (blk_below (bk_ BK101) hb) (below_step (bl1_ HB GE101) hb) hbox (ge_ hg (bl1_ HB GE101)) (ge_ hg (bl1_ HB GE101)) (nl_ hg (bk_ BK101)) (ng_ hg (bk_ BK101)) ?_; clear BK101 HB hb hbox hg; intro BK101 HB BK102 GW102 GE102 NB101_102 NB102_101; have hnb4 := NB101_102.out; have hnc4 := NB102_101.out; have hcz5 := cf4_ BK101; have hcz6 := cf2_ BK102))
 refine bodyPost_ret (results_cell_row rfl _ _ gb102 82 #[.int .i64 a0_2, .int .i64 a0_3] (0, 0) _ rfl (by (with_reducible repeat (first | refine blk_drewN ?_ _ | refine blk_drew ?_ | refine blk_alloc ?_ _)); refine blk_put (cs := #[.int .i64 a0_2, .int .i64 0]) ?_ 1 _ rfl; (with_reducible repeat (first | refine blk_drewN ?_ _ | refine blk_drew ?_ | refine blk_alloc ?_ _)); refine blk_put (cs := #[.int .i64 0, .int .i64 0]) ?_ 0 _ rfl; (with_reducible repeat (first | refine blk_drewN ?_ _ | refine blk_drew ?_ | refine blk_alloc ?_ _)); exact BK102.out) Try.underlying82 rfl (by kernel_rfl)) rfl ?_
 exact ⟨by first | (rw [hRT_.out]; rfl) | exact er_, bl2_ HB GE101 GE102⟩

/-! ### impl_IsSpan: function 99 -/
def impl_IsSpan.f (a0_0 : Int) (a0_1 : Int) : Option (Bool) := if a0_0 ≥ 0 then (if a0_1 ≤ 1000 then (some (decide (a0_0 < a0_1))) else (some false)) else (some false)
set_option maxHeartbeats 8000000 in
set_option maxRecDepth 100000 in
theorem impl_IsSpan.calls (a0_0 : Int) (a0_1 : Int) (r : Bool) (w : World) (h : impl_IsSpan.f a0_0 a0_1 = some r) :
  Calls Try.prog 99 #[.agg #[.int .i64 a0_0, .int .i64 a0_1]] w fun e w' => e = .returned (.bool r) ∧ Below w.heap.size w w' := by
 have hu82 := Try.underlying82
 have HB := Aside0.mk (Below.refl w.heap.size w)
 have H := h
 clear h
 unfold impl_IsSpan.f at H
 by_cases c2 : a0_0 ≥ 0
 ·rw [if_pos c2] at H
  have c2b0 : decide (0 ≤ a0_0) = true := decide_eq_true c2
  clear c2
  by_cases c3 : a0_1 ≤ 1000
  ·rw [if_pos c3] at H
   have c3b0 := decide_eq_true c3
   clear c3
   obtain rfl := Option.some.inj H
   go_enter Try.func99, Try.ntmps99
   go_wp2_with (first | ((with_reducible refine gd_ 1 ?_); refine bx_ 1 82 #[.int .i64 a0_0, .int .i64 a0_1] ?_; intro gb103 hg w4 hbox hb; refine sh4_ (below_step (bl_ HB) hb) hbox (ge_ hg (bl_ HB)) (ge_ hg (bl_ HB)) ?_; clear HB hb hbox hg; intro HB BK103 GW103 GE103; have hcz5 := cf2_ BK103))
   go_ret
   exact ⟨by first | (rw [hRT_.out]; rfl) | exact er_, bl1_ HB GE103⟩
  ·rw [if_neg c3] at H
   have c3b0 := decide_eq_false c3
   clear c3
   obtain rfl := Option.some.inj H
   go_enter Try.func99, Try.ntmps99
   go_wp2_with (first | ((with_reducible refine gd_ 1 ?_); refine bx_ 1 82 #[.int .i64 a0_0, .int .i64 a0_1] ?_; intro gb103 hg w6 hbox hb; refine sh4_ (below_step (bl_ HB) hb) hbox (ge_ hg (bl_ HB)) (ge_ hg (bl_ HB)) ?_; clear HB hb hbox hg; intro HB BK103 GW103 GE103; have hcz7 := cf2_ BK103))
   go_ret
   exact ⟨by first | (rw [hRT_.out]; rfl) | exact er_, bl1_ HB GE103⟩
 ·rw [if_neg c2] at H
  have c2b0 : decide (0 ≤ a0_0) = false := decide_eq_false c2
  clear c2
  obtain rfl := Option.some.inj H
  go_enter Try.func99, Try.ntmps99
  go_wp2_with (first | ((with_reducible refine gd_ 1 ?_); refine bx_ 1 82 #[.int .i64 a0_0, .int .i64 a0_1] ?_; intro gb103 hg w8 hbox hb; refine sh4_ (below_step (bl_ HB) hb) hbox (ge_ hg (bl_ HB)) (ge_ hg (bl_ HB)) ?_; clear HB hb hbox hg; intro HB BK103 GW103 GE103; have hcz9 := cf2_ BK103))
  go_ret
  exact ⟨by first | (rw [hRT_.out]; rfl) | exact er_, bl1_ HB GE103⟩

/-! ### impl_IsContact: function 83 -/
def impl_IsContact.f (a0_0 : Int) (a0_1 : Int) (a0_2 : Int) (a0_3 : Int) (a1 : Int) : Option (Bool) := if a0_0 ≥ 0 then (if a0_0 < a0_1 then (if a0_1 < a1 then ((impl_spanOf.f a0_0 a0_1 a0_2 a0_3).bind fun bt105 => ((impl_IsSpan.f bt105.1 bt105.2).bind fun t107 => (some t107))) else (some false)) else (some false)) else (some false)
set_option maxHeartbeats 8000000 in
set_option maxRecDepth 100000 in
theorem impl_IsContact.calls (a0_0 : Int) (a0_1 : Int) (a0_2 : Int) (a0_3 : Int) (a1 : Int) (r : Bool) (w : World) (h : impl_IsContact.f a0_0 a0_1 a0_2 a0_3 a1 = some r) :
  Calls Try.prog 83 #[.agg #[.int .i64 a0_0, .int .i64 a0_1, .int .i64 a0_2, .int .i64 a0_3], .int .i64 a1] w fun e w' => e = .returned (.bool r) ∧ Below w.heap.size w w' := by
 have hu53 := Try.underlying53
 have HB := Aside0.mk (Below.refl w.heap.size w)
 have H := h
 clear h
 unfold impl_IsContact.f at H
 by_cases c3 : a0_0 ≥ 0
 ·rw [if_pos c3] at H
  have c3b0 : decide (0 ≤ a0_0) = true := decide_eq_true c3
  clear c3
  by_cases c4 : a0_0 < a0_1
  ·rw [if_pos c4] at H
   have c4b0 := decide_eq_true c4
   clear c4
   by_cases c5 : a0_1 < a1
   ·rw [if_pos c5] at H
    have c5b0 := decide_eq_true c5
    clear c5
    replace H := bs_ H
    obtain ⟨⟨t105, t106⟩, A6, H⟩ := H
    dsimp only at H
    replace H := bs_ H
    obtain ⟨t107, A7, H⟩ := H
    obtain rfl := Option.some.inj H
    go_enter Try.func83, Try.ntmps83
    go_wp2_with (first | ((with_reducible refine gd_ 2 ?_); refine bx_ 2 53 #[.int .i64 a0_0, .int .i64 a0_1, .int .i64 a0_2, .int .i64 a0_3] ?_; intro gb104 hg w8 hbox hb; refine sh4_ (below_step (bl_ HB) hb) hbox (ge_ hg (bl_ HB)) (ge_ hg (bl_ HB)) ?_; clear HB hb hbox hg; intro HB BK104 GW104 GE104; have hcz9 := cf4_ BK104) | (go_at_call 86; (with_reducible refine (impl_spanOf.calls a0_0 a0_1 a0_2 a0_3 t105 t106 _ A6.out).mono ?_); rintro e w10 ⟨rfl, hb⟩; refine sh2_ (blk_below (bk_ BK104) hb) (below_step (bl1_ HB GE104) hb) ?_; clear BK104 HB hb; intro BK104 HB) | (go_at_call 99; (with_reducible refine (impl_IsSpan.calls t105 t106 t107 _ A7.out).mono ?_); rintro e w11 ⟨rfl, hb⟩; refine sh2_ (blk_below (bk_ BK104) hb) (below_step (bl1_ HB GE104) hb) ?_; clear BK104 HB hb; intro BK104 HB))
    go_ret
    exact ⟨by first | (rw [hRT_.out]; rfl) | exact er_, bl1_ HB GE104⟩
   ·rw [if_neg c5] at H
    have c5b0 := decide_eq_false c5
    clear c5
    obtain rfl := Option.some.inj H
    go_enter Try.func83, Try.ntmps83
    go_wp2_with (first | ((with_reducible refine gd_ 2 ?_); refine bx_ 2 53 #[.int .i64 a0_0, .int .i64 a0_1, .int .i64 a0_2, .int .i64 a0_3] ?_; intro gb104 hg w12 hbox hb; refine sh4_ (below_step (bl_ HB) hb) hbox (ge_ hg (bl_ HB)) (ge_ hg (bl_ HB)) ?_; clear HB hb hbox hg; intro HB BK104 GW104 GE104; have hcz13 := cf4_ BK104))
    go_ret
    exact ⟨by first | (rw [hRT_.out]; rfl) | exact er_, bl1_ HB GE104⟩
  ·rw [if_neg c4] at H
   have c4b0 := decide_eq_false c4
   clear c4
   obtain rfl := Option.some.inj H
   go_enter Try.func83, Try.ntmps83
   go_wp2_with (first | ((with_reducible refine gd_ 2 ?_); refine bx_ 2 53 #[.int .i64 a0_0, .int .i64 a0_1, .int .i64 a0_2, .int .i64 a0_3] ?_; intro gb104 hg w14 hbox hb; refine sh4_ (below_step (bl_ HB) hb) hbox (ge_ hg (bl_ HB)) (ge_ hg (bl_ HB)) ?_; clear HB hb hbox hg; intro HB BK104 GW104 GE104; have hcz15 := cf4_ BK104))
   go_ret
   exact ⟨by first | (rw [hRT_.out]; rfl) | exact er_, bl1_ HB GE104⟩
 ·rw [if_neg c3] at H
  have c3b0 : decide (0 ≤ a0_0) = false := decide_eq_false c3
  clear c3
  obtain rfl := Option.some.inj H
  go_enter Try.func83, Try.ntmps83
  go_wp2_with (first | ((with_reducible refine gd_ 2 ?_); refine bx_ 2 53 #[.int .i64 a0_0, .int .i64 a0_1, .int .i64 a0_2, .int .i64 a0_3] ?_; intro gb104 hg w16 hbox hb; refine sh4_ (below_step (bl_ HB) hb) hbox (ge_ hg (bl_ HB)) (ge_ hg (bl_ HB)) ?_; clear HB hb hbox hg; intro HB BK104 GW104 GE104; have hcz17 := cf4_ BK104))
  go_ret
  exact ⟨by first | (rw [hRT_.out]; rfl) | exact er_, bl1_ HB GE104⟩

/-! ### cmp_Or_int: function 84 -/
def cmp_Or_int.l0 : Nat → Int → List Int → Int → Int → Option (Int)
 | 0, _, _, _, _ => none
 | k + 1, x3, x6, x7, x8 => if x8 < x7 then (if 0 ≤ x8 then (if x8 < (x6.length : Int) then (if (rd x6 x8) = x3 then (cmp_Or_int.l0 k x3 x6 x7 (wrap64 (x8 + 1))) else (some (rd x6 x8))) else (none)) else (none)) else (some x3)
def cmp_Or_int.f (k : Nat) (l0 : List Int) : Option (Int) := cmp_Or_int.l0 k 0 l0 (l0.length : Int) 0
theorem cmp_Or_int.mono_l : ∀ k, (∀ y0 y1 y2 y3, LeO (cmp_Or_int.l0 k y0 y1 y2 y3) (cmp_Or_int.l0 (k + 1) y0 y1 y2 y3))
 | 0 => fun _ _ _ _ r h => by simp [cmp_Or_int.l0] at h
 | k + 1 => by
  have ih0 := cmp_Or_int.mono_l k
  ·intro y0 y1 y2 y3
   unfold cmp_Or_int.l0
   repeat' first | (with_reducible first | exact ih0 _ _ _ _ | exact LeO.refl _ | exact LeO.none _ | refine LeO.ite ?_ ?_ | refine LeO.bind ?_ (fun _ => ?_)) | exact LeO.none _ | refine LeO.ite ?_ ?_ | refine LeO.bind ?_ (fun _ => ?_)
theorem cmp_Or_int.mono : ∀ a0 k, LeO (cmp_Or_int.f k a0) (cmp_Or_int.f (k + 1) a0) := by
 intro a0 k
 have ih0 := cmp_Or_int.mono_l k
 unfold cmp_Or_int.f
 repeat' first | (with_reducible first | exact ih0 _ _ _ _ | exact LeO.refl _ | exact LeO.none _ | refine LeO.ite ?_ ?_ | refine LeO.bind ?_ (fun _ => ?_)) | exact LeO.none _ | refine LeO.ite ?_ ?_ | refine LeO.bind ?_ (fun _ => ?_)
set_option maxHeartbeats 8000000 in
set_option maxRecDepth 100000 in
theorem cmp_Or_int.calls (k : Nat) (A0 : Option Addr) (c0 : Nat) (l0 : List Int) (r : Int) (w : World) (hr0 : Kd.C (Kd.int .i64) w A0 l0.length l0) (hc0 : l0.length ≤ c0) (h : cmp_Or_int.f k l0 = some r) :
  Calls Try.prog 84 #[.slice A0 l0.length c0] w fun e w' => e = .returned (.int .i64 r) ∧ Drawn0 w w' := by
 have HR0 := Aside0.mk hr0
 have HC0 := Aside0.mk hc0
 clear hr0 hc0
 have H := h
 clear h
 unfold cmp_Or_int.f at H
 have H' := Aside0.mk H
 clear H
 go_enter Try.func84, Try.ntmps84
 go_wp2
 go_loopg [8] k (fun kq v8 w' => ∃ (x8_1 : Int), v8 = .int .i64 x8_1 ∧ Aside0 (cmp_Or_int.l0 kq 0 l0 (l0.length : Int) x8_1 = some r) ∧ Aside0 (kq ≤ k) ∧ Drawn0 w w')
 case atStart => exact ⟨(0), (by first | rfl | (simp; done) | (simp [*]; done)), H', ⟨Nat.le_refl _⟩, by repeat (first | exact Drawn0.refl _ | apply Drawn0.step)⟩
 case round =>
  clear H'
  obtain ⟨x8_1, rfl, HA, HK1, ⟨m1, rfl⟩⟩ := hrel
  cases gk with
  | zero => exact absurd HA.out (by simp [cmp_Or_int.l0])
  | succ k1 =>
   have H := HA.out
   clear HA
   simp only [cmp_Or_int.l0] at H
   by_cases c2 : x8_1 < (l0.length : Int)
   ·rw [if_pos c2] at H
    have c2b0 := decide_eq_true c2
    clear c2
    replace H := ifn_ H
    obtain ⟨c3, H⟩ := H
    have c3b0 := decide_eq_true c3
    clear c3
    replace H := ifn_ H
    obtain ⟨c4, H⟩ := H
    have c4b0 := decide_eq_true c4
    clear c4
    by_cases c5 : (rd l0 x8_1) = 0
    ·rw [if_pos c5] at H
     obtain ⟨c5b0, c5b1⟩ := bt_ c5
     clear c5
     have H' := Aside0.mk H
     clear H
     have p108 : 0 ≤ (x8_1 : Int) := od_
     have q108 : x8_1 < (l0.length : Int) := od_
     obtain ⟨ad108, e108, hx108_0⟩ := Kd.at_int HR0.out x8_1 p108 q108
     cases e108
     replace p108 := eq_true p108
     replace q108 := eq_true q108
     go_wp2
     go_roundg k1
     case measure => have := HK1.out; omega
     case rel => exact ⟨(wrap64 (x8_1 + 1)), (by first | rfl | (simp; done) | (simp [*]; done)), H', ⟨by have := HK1.out; omega⟩, by repeat (first | exact Drawn0.refl _ | apply Drawn0.step)⟩
    ·rw [if_neg c5] at H
     obtain ⟨c5b0, c5b1⟩ := bn_ c5
     obtain rfl := Option.some.inj H
     have p108 : 0 ≤ (x8_1 : Int) := od_
     have q108 : x8_1 < (l0.length : Int) := od_
     obtain ⟨ad108, e108, hx108_0⟩ := Kd.at_int HR0.out x8_1 p108 q108
     cases e108
     replace p108 := eq_true p108
     replace q108 := eq_true q108
     go_wp2
     go_ret
     exact ⟨by first | rfl | (simp; done) | (simp [*]; done), by repeat (first | exact Drawn0.refl _ | apply Drawn0.step)⟩
   ·rw [if_neg c2] at H
    have c2b0 := decide_eq_false c2
    clear c2
    obtain rfl := Option.some.inj H
    go_wp2
    go_ret
    exact ⟨by first | rfl | (simp; done) | (simp [*]; done), by repeat (first | exact Drawn0.refl _ | apply Drawn0.step)⟩

/-! ### cmp_isNaN_int: function 115 -/
def cmp_isNaN_int.f (a0 : Int) : Option (Bool) := some (a0 != a0)
set_option maxHeartbeats 8000000 in
set_option maxRecDepth 100000 in
theorem cmp_isNaN_int.calls (a0 : Int) (r : Bool) (w : World) (h : cmp_isNaN_int.f a0 = some r) :
  Calls Try.prog 115 #[.int .i64 a0] w fun e w' => e = .returned (.bool r) ∧ Drawn0 w w' := by
 have H := h
 clear h
 unfold cmp_isNaN_int.f at H
 obtain rfl := Option.some.inj H
 go_enter Try.func115, Try.ntmps115
 go_wp2
 go_ret
 exact ⟨by first | rfl | (simp; done) | (simp [*]; done), by repeat (first | exact Drawn0.refl _ | apply Drawn0.step)⟩

/-! ### cmp_Compare_int: function 85 -/
def cmp_Compare_int.f (a0 : Int) (a1 : Int) : Option (Int) := (cmp_isNaN_int.f a0).bind fun t109 => ((cmp_isNaN_int.f a1).bind fun t110 => (if t109 = true then (if t110 = true then (some 0) else (some (-1))) else (if t110 = true then (some 1) else (if a0 < a1 then (some (-1)) else (if a0 > a1 then (some 1) else (some 0))))))
set_option maxHeartbeats 8000000 in
set_option maxRecDepth 100000 in
theorem cmp_Compare_int.calls (a0 : Int) (a1 : Int) (r : Int) (w : World) (h : cmp_Compare_int.f a0 a1 = some r) :
  Calls Try.prog 85 #[.int .i64 a0, .int .i64 a1] w fun e w' => e = .returned (.int .i64 r) ∧ Drawn0 w w' := by
 have H := h
 clear h
 unfold cmp_Compare_int.f at H
 replace H := bs_ H
 obtain ⟨t109, A3, H⟩ := H
 replace H := bs_ H
 obtain ⟨t110, A4, H⟩ := H
 by_cases c5 : t109 = true
 ·subst c5
  rw [if_pos rfl] at H
  by_cases c6 : t110 = true
  ·subst c6
   rw [if_pos rfl] at H
   obtain rfl := Option.some.inj H
   go_enter Try.func85, Try.ntmps85
   go_wp2_with (first | ((with_reducible refine gate_callee (f := 115) rfl ?_); refine gl_ 8 Try.func115 (cmp_isNaN_int.calls a0 true _ A3.out) ?_; rintro e w' ⟨rfl, ⟨nd, rfl⟩⟩; refine ⟨_, rfl, ?_⟩) | ((with_reducible refine gate_callee (f := 115) rfl ?_); refine gl_ 10 Try.func115 (cmp_isNaN_int.calls a1 true _ A4.out) ?_; rintro e w' ⟨rfl, ⟨nd, rfl⟩⟩; refine ⟨_, rfl, ?_⟩))
   go_ret
   exact ⟨by first | rfl | (simp; done) | (simp [*]; done), by repeat (first | exact Drawn0.refl _ | apply Drawn0.step)⟩
  ·replace c6 := Bool.eq_false_iff.mpr c6
   subst c6
   have H1 : (some (-1)) = some r := by rw [if_neg (show ¬ (false = true) by decide)] at H; exact H
   clear H
   have H := H1
   clear H1
   obtain rfl := Option.some.inj H
   go_enter Try.func85, Try.ntmps85
   go_wp2_with (first | ((with_reducible refine gate_callee (f := 115) rfl ?_); refine gl_ 8 Try.func115 (cmp_isNaN_int.calls a0 true _ A3.out) ?_; rintro e w' ⟨rfl, ⟨nd, rfl⟩⟩; refine ⟨_, rfl, ?_⟩) | ((with_reducible refine gate_callee (f := 115) rfl ?_); refine gl_ 10 Try.func115 (cmp_isNaN_int.calls a1 false _ A4.out) ?_; rintro e w' ⟨rfl, ⟨nd, rfl⟩⟩; refine ⟨_, rfl, ?_⟩))
   go_ret
   exact ⟨by first | rfl | (simp; done) | (simp [*]; done), by repeat (first | exact Drawn0.refl _ | apply Drawn0.step)⟩
 ·replace c5 := Bool.eq_false_iff.mpr c5
  subst c5
  have H1 : (if t110 = true then (some 1) else (if a0 < a1 then (some (-1)) else (if a0 > a1 then (some 1) else (some 0)))) = some r := by rw [if_neg (show ¬ (false = true) by decide)] at H; exact H
  clear H
  have H := H1
  clear H1
  by_cases c7 : t110 = true
  ·subst c7
   rw [if_pos rfl] at H
   obtain rfl := Option.some.inj H
   go_enter Try.func85, Try.ntmps85
   go_wp2_with (first | ((with_reducible refine gate_callee (f := 115) rfl ?_); refine gl_ 8 Try.func115 (cmp_isNaN_int.calls a0 false _ A3.out) ?_; rintro e w' ⟨rfl, ⟨nd, rfl⟩⟩; refine ⟨_, rfl, ?_⟩) | ((with_reducible refine gate_callee (f := 115) rfl ?_); refine gl_ 10 Try.func115 (cmp_isNaN_int.calls a1 true _ A4.out) ?_; rintro e w' ⟨rfl, ⟨nd, rfl⟩⟩; refine ⟨_, rfl, ?_⟩))
   go_ret
   exact ⟨by first | rfl | (simp; done) | (simp [*]; done), by repeat (first | exact Drawn0.refl _ | apply Drawn0.step)⟩
  ·replace c7 := Bool.eq_false_iff.mpr c7
   subst c7
   have H1 : (if a0 < a1 then (some (-1)) else (if a0 > a1 then (some 1) else (some 0))) = some r := by rw [if_neg (show ¬ (false = true) by decide)] at H; exact H
   clear H
   have H := H1
   clear H1
   by_cases c8 : a0 < a1
   ·rw [if_pos c8] at H
    have c8b0 := decide_eq_true c8
    clear c8
    obtain rfl := Option.some.inj H
    go_enter Try.func85, Try.ntmps85
    go_wp2_with (first | ((with_reducible refine gate_callee (f := 115) rfl ?_); refine gl_ 8 Try.func115 (cmp_isNaN_int.calls a0 false _ A3.out) ?_; rintro e w' ⟨rfl, ⟨nd, rfl⟩⟩; refine ⟨_, rfl, ?_⟩) | ((with_reducible refine gate_callee (f := 115) rfl ?_); refine gl_ 10 Try.func115 (cmp_isNaN_int.calls a1 false _ A4.out) ?_; rintro e w' ⟨rfl, ⟨nd, rfl⟩⟩; refine ⟨_, rfl, ?_⟩))
    go_ret
    exact ⟨by first | rfl | (simp; done) | (simp [*]; done), by repeat (first | exact Drawn0.refl _ | apply Drawn0.step)⟩
   ·rw [if_neg c8] at H
    have c8b0 := decide_eq_false c8
    clear c8
    by_cases c9 : a0 > a1
    ·rw [if_pos c9] at H
     have c9b0 : decide (a1 < a0) = true := decide_eq_true c9
     clear c9
     obtain rfl := Option.some.inj H
     go_enter Try.func85, Try.ntmps85
     go_wp2_with (first | ((with_reducible refine gate_callee (f := 115) rfl ?_); refine gl_ 8 Try.func115 (cmp_isNaN_int.calls a0 false _ A3.out) ?_; rintro e w' ⟨rfl, ⟨nd, rfl⟩⟩; refine ⟨_, rfl, ?_⟩) | ((with_reducible refine gate_callee (f := 115) rfl ?_); refine gl_ 10 Try.func115 (cmp_isNaN_int.calls a1 false _ A4.out) ?_; rintro e w' ⟨rfl, ⟨nd, rfl⟩⟩; refine ⟨_, rfl, ?_⟩))
     go_ret
     exact ⟨by first | rfl | (simp; done) | (simp [*]; done), by repeat (first | exact Drawn0.refl _ | apply Drawn0.step)⟩
    ·rw [if_neg c9] at H
     have c9b0 : decide (a1 < a0) = false := decide_eq_false c9
     clear c9
     obtain rfl := Option.some.inj H
     go_enter Try.func85, Try.ntmps85
     go_wp2_with (first | ((with_reducible refine gate_callee (f := 115) rfl ?_); refine gl_ 8 Try.func115 (cmp_isNaN_int.calls a0 false _ A3.out) ?_; rintro e w' ⟨rfl, ⟨nd, rfl⟩⟩; refine ⟨_, rfl, ?_⟩) | ((with_reducible refine gate_callee (f := 115) rfl ?_); refine gl_ 10 Try.func115 (cmp_isNaN_int.calls a1 false _ A4.out) ?_; rintro e w' ⟨rfl, ⟨nd, rfl⟩⟩; refine ⟨_, rfl, ?_⟩))
     go_ret
     exact ⟨by first | rfl | (simp; done) | (simp [*]; done), by repeat (first | exact Drawn0.refl _ | apply Drawn0.step)⟩

/-! ### impl_IsPlan: function 40 -/
def impl_IsPlan.l0 : Nat → List (S53) → Int → List (S53) → Int → Int → Option (Bool)
 | 0, _, _, _, _, _ => none
 | k + 1, x0, x1, x9, x10, x11 => if x11 < x10 then (if 0 ≤ x11 then (if x11 < (x9.length : Int) then ((impl_IsContact.f ((rd_T53 x9 x11).f0) ((rd_T53 x9 x11).f1) ((rd_T53 x9 x11).f2) ((rd_T53 x9 x11).f3) x1).bind fun t113 => (if t113 = true then (if x11 = 0 then (impl_IsPlan.l0 k x0 x1 x9 x10 (wrap64 (x11 + 1))) else (if 0 ≤ (wrap64 (x11 - 1)) then (if (wrap64 (x11 - 1)) < (x0.length : Int) then ((cmp_Compare_int.f ((rd_T53 x0 (wrap64 (x11 - 1))).f0) ((rd_T53 x9 x11).f0)).bind fun t116 => ((cmp_Compare_int.f ((rd_T53 x0 (wrap64 (x11 - 1))).f1) ((rd_T53 x9 x11).f1)).bind fun t117 => ((cmp_Or_int.f k (([t116, t117] : List Int))).bind fun t121 => (if t121 > 0 then (some false) else (if t121 = 0 then (if ((rd_T53 x0 (wrap64 (x11 - 1))).f3) ≥ ((rd_T53 x9 x11).f2) then (some false) else (impl_IsPlan.l0 k x0 x1 x9 x10 (wrap64 (x11 + 1)))) else (impl_IsPlan.l0 k x0 x1 x9 x10 (wrap64 (x11 + 1)))))))) else (none)) else (none))) else (some false))) else (none)) else (none)) else (some true)
def impl_IsPlan.f (k : Nat) (l0 : List (S53)) (a1 : Int) : Option (Bool) := impl_IsPlan.l0 k l0 a1 l0 (l0.length : Int) 0
theorem impl_IsPlan.mono_l : ∀ k, (∀ y0 y1 y2 y3 y4, LeO (impl_IsPlan.l0 k y0 y1 y2 y3 y4) (impl_IsPlan.l0 (k + 1) y0 y1 y2 y3 y4))
 | 0 => fun _ _ _ _ _ r h => by simp [impl_IsPlan.l0] at h
 | k + 1 => by
  have ih0 := impl_IsPlan.mono_l k
  ·intro y0 y1 y2 y3 y4
   unfold impl_IsPlan.l0
   repeat' first | (with_reducible first | exact ih0 _ _ _ _ _ | exact cmp_Or_int.mono _ _ | exact LeO.refl _ | exact LeO.none _ | refine LeO.ite ?_ ?_ | refine LeO.bind ?_ (fun _ => ?_)) | exact LeO.none _ | refine LeO.ite ?_ ?_ | refine LeO.bind ?_ (fun _ => ?_)
theorem impl_IsPlan.mono : ∀ a0 a1 k, LeO (impl_IsPlan.f k a0 a1) (impl_IsPlan.f (k + 1) a0 a1) := by
 intro a0 a1 k
 have ih0 := impl_IsPlan.mono_l k
 unfold impl_IsPlan.f
 repeat' first | (with_reducible first | exact ih0 _ _ _ _ _ | exact cmp_Or_int.mono _ _ | exact LeO.refl _ | exact LeO.none _ | refine LeO.ite ?_ ?_ | refine LeO.bind ?_ (fun _ => ?_)) | exact LeO.none _ | refine LeO.ite ?_ ?_ | refine LeO.bind ?_ (fun _ => ?_)
def impl_IsPlan.T8 : Bool × List (List Nat × List Nat) := (true, [([], []), ([0], [0]), ([], []), ([2], [2]), ([1, 3], [1, 3]), ([], []), ([5], [5]), ([], []), ([7], [7]), ([6, 8, 4], [6, 8]), ([4, 9], [4, 9]), ([10, 9], [10]), ([11, 11, 0, 1, 2, 3, 4, 5, 6, 7, 8, 9, 10, 11], [11])])
def impl_IsPlan.B8 : List Nat := [0, 1, 0, 4, 15, 0, 32, 0, 128, 511, 1023, 2047, 4095]
theorem impl_IsPlan.tab8 : rtab .any (opsOf Try.f40 8) = impl_IsPlan.T8 := by kernel_rfl
theorem impl_IsPlan.bits8 : waitsOk impl_IsPlan.T8.2 impl_IsPlan.B8 = true := by kernel_rfl
set_option maxHeartbeats 8000000 in
set_option maxRecDepth 100000 in
theorem impl_IsPlan.calls (k : Nat) (A0 : Option Addr) (c0 : Nat) (l0 : List (S53)) (a1 : Int) (r : Bool) (w : World) (hr0 : Kd.C k53 w A0 l0.length l0) (hc0 : l0.length ≤ c0) (h : impl_IsPlan.f k l0 a1 = some r) :
  Calls Try.prog 40 #[.slice A0 l0.length c0, .int .i64 a1] w fun e w' => e = .returned (.bool r) ∧ Below w.heap.size w w' := by
 have hu53 := Try.underlying53
 have HR0 := Aside0.mk hr0
 have HC0 := Aside0.mk hc0
 clear hr0 hc0
 have HB := Aside0.mk (Below.refl w.heap.size w)
 have H := h
 clear h
 unfold impl_IsPlan.f at H
 have H' := Aside0.mk H
 clear H
 go_enter Try.func40, Try.ntmps40
 go_wp2
 go_loopg [11] k (fun kq v11 w' => ∃ (x11_1 : Int), v11 = .int .i64 x11_1 ∧ Aside0 (impl_IsPlan.l0 kq l0 a1 l0 (l0.length : Int) x11_1 = some r) ∧ Aside0 (kq ≤ k) ∧ Aside0 (Below w.heap.size w w'))
 case atStart => exact ⟨(0), (by first | rfl | (simp; done) | (simp [*]; done)), H', ⟨Nat.le_refl _⟩, ⟨bl_ HB⟩⟩
 case round =>
  clear H'
  try clear p2
  obtain ⟨x11_1, rfl, HA, HK1, HB⟩ := hrel
  cases gk with
  | zero => exact absurd HA.out (by simp [impl_IsPlan.l0])
  | succ k1 =>
   have H := HA.out
   clear HA
   simp only [impl_IsPlan.l0] at H
   by_cases c3 : x11_1 < (l0.length : Int)
   ·rw [if_pos c3] at H
    have c3b0 := decide_eq_true c3
    clear c3
    replace H := ifn_ H
    obtain ⟨c4, H⟩ := H
    have c4b0 := decide_eq_true c4
    clear c4
    replace H := ifn_ H
    obtain ⟨c5, H⟩ := H
    have c5b0 := decide_eq_true c5
    clear c5
    replace H := bs_ H
    obtain ⟨t113, A6, H⟩ := H
    by_cases c7 : t113 = true
    ·subst c7
     rw [if_pos rfl] at H
     by_cases c8 : x11_1 = 0
     ·rw [if_pos c8] at H
      obtain ⟨c8b0, c8b1⟩ := bt_ c8
      clear c8
      have H' := Aside0.mk H
      clear H
      have p111 : 0 ≤ (x11_1 : Int) := od_
      have q111 : x11_1 < (l0.length : Int) := od_
      obtain ⟨ad111, e111, hx111_0, hx111_1, hx111_2, hx111_3⟩ := at_T53 HR0.out x11_1 p111 q111
      cases e111
      replace hx111_0 := hbc_ HB hx111_0
      replace hx111_1 := hbc_ HB hx111_1
      replace hx111_2 := hbc_ HB hx111_2
      replace hx111_3 := hbc_ HB hx111_3
      replace p111 := eq_true p111
      replace q111 := eq_true q111
      go_wp2_with (first | ((with_reducible refine gd_ 6 ?_); refine bx_ 6 53 #[.int .i64 0, .int .i64 0, .int .i64 0, .int .i64 0] ?_; intro gb112 hg w9 hbox hb; refine sh4_ (below_step (bl_ HB) hb) hbox (ge_ hg (bl_ HB)) (ge_ hg (bl_ HB)) ?_; clear HB hb hbox hg; intro HB BK112 GW112 GE112; have hcz10 := cf4_ BK112) | ((with_reducible refine gate_callee (f := 83) rfl ?_); refine gl_ 18 Try.func83 (impl_IsContact.calls ((rd_T53 l0 x11_1).f0) ((rd_T53 l0 x11_1).f1) ((rd_T53 l0 x11_1).f2) ((rd_T53 l0 x11_1).f3) a1 true _ A6.out) ?_; rintro e w11 ⟨rfl, hb⟩; refine ⟨_, rfl, sh2_ (blk_below (g := gb112) (o := .cells #[.int .i64 ((rd_T53 l0 x11_1).f0), .int .i64 ((rd_T53 l0 x11_1).f1), .int .i64 ((rd_T53 l0 x11_1).f2), .int .i64 ((rd_T53 l0 x11_1).f3)] 53 (0, 0)) (by (with_reducible repeat (first | refine blk_drewN ?_ _ | refine blk_drew ?_ | refine blk_alloc ?_ _)); refine blk_put (cs := #[.int .i64 ((rd_T53 l0 x11_1).f0), .int .i64 ((rd_T53 l0 x11_1).f1), .int .i64 ((rd_T53 l0 x11_1).f2), .int .i64 0]) ?_ 3 _ rfl; (with_reducible repeat (first | refine blk_drewN ?_ _ | refine blk_drew ?_ | refine blk_alloc ?_ _)); refine blk_put (cs := #[.int .i64 ((rd_T53 l0 x11_1).f0), .int .i64 ((rd_T53 l0 x11_1).f1), .int .i64 0, .int .i64 0]) ?_ 2 _ rfl; (with_reducible repeat (first | refine blk_drewN ?_ _ | refine blk_drew ?_ | refine blk_alloc ?_ _)); refine blk_put (cs := #[.int .i64 ((rd_T53 l0 x11_1).f0), .int .i64 0, .int .i64 0, .int .i64 0]) ?_ 1 _ rfl; (with_reducible repeat (first | refine blk_drewN ?_ _ | refine blk_drew ?_ | refine blk_alloc ?_ _)); refine blk_put (cs := #[.int .i64 0, .int .i64 0, .int .i64 0, .int .i64 0]) ?_ 0 _ rfl; (with_reducible repeat (first | refine blk_drewN ?_ _ | refine blk_drew ?_ | refine blk_alloc ?_ _)); exact BK112.out) hb) (below_step (bl1_ HB GE112) hb) ?_⟩; clear BK112 HB hb; intro BK112 HB))
      go_roundg k1
      case measure => have := HK1.out; omega
      case rel => exact ⟨(wrap64 (x11_1 + 1)), (by first | rfl | (simp; done) | (simp [*]; done)), H', ⟨by have := HK1.out; omega⟩, ⟨bl1_ HB GE112⟩⟩
     ·rw [if_neg c8] at H
      obtain ⟨c8b0, c8b1⟩ := bn_ c8
      obtain ⟨ji12, hji12⟩ : ∃ j_ : Int, (wrap64 (x11_1 - 1)) = j_ := ⟨_, rfl⟩
      replace H : (if 0 ≤ (ji12) then (if (ji12) < (l0.length : Int) then ((cmp_Compare_int.f ((rd_T53 l0 (ji12)).f0) ((rd_T53 l0 x11_1).f0)).bind fun t116 => ((cmp_Compare_int.f ((rd_T53 l0 (ji12)).f1) ((rd_T53 l0 x11_1).f1)).bind fun t117 => ((cmp_Or_int.f k1 (([t116, t117] : List Int))).bind fun t121 => (if t121 > 0 then (some false) else (if t121 = 0 then (if ((rd_T53 l0 (ji12)).f3) ≥ ((rd_T53 l0 x11_1).f2) then (some false) else (impl_IsPlan.l0 k1 l0 a1 l0 (l0.length : Int) (wrap64 (x11_1 + 1)))) else (impl_IsPlan.l0 k1 l0 a1 l0 (l0.length : Int) (wrap64 (x11_1 + 1)))))))) else (none)) else (none)) = some r := by first | (rw [hji12] at H; exact H) | (simp only [hji12] at H ⊢; exact H)
      (try rw [hji12] at A6)
      have hji12w : (IntKind.i64.wrap (x11_1 - 1)) = ji12 := (i64_w _).trans hji12
      replace H := ifn_ H
      obtain ⟨c13, H⟩ := H
      have c13b0 := decide_eq_true c13
      clear c13
      replace H := ifn_ H
      obtain ⟨c14, H⟩ := H
      have c14b0 := decide_eq_true c14
      clear c14
      replace H := bs_ H
      obtain ⟨t116, A15, H⟩ := H
      replace H := bs_ H
      obtain ⟨t117, A16, H⟩ := H
      replace H : ∃ y_ : List Int, Aside0 (y_ = (([t116, t117] : List Int))) ∧ ((cmp_Or_int.f k1 y_).bind fun t121 => (if t121 > 0 then (some false) else (if t121 = 0 then (if ((rd_T53 l0 (ji12)).f3) ≥ ((rd_T53 l0 x11_1).f2) then (some false) else (impl_IsPlan.l0 k1 l0 a1 l0 (l0.length : Int) (wrap64 (x11_1 + 1)))) else (impl_IsPlan.l0 k1 l0 a1 l0 (l0.length : Int) (wrap64 (x11_1 + 1)))))) = some r := ⟨_, ⟨rfl⟩, yh_ H⟩
      obtain ⟨y118, Ny118, H⟩ := H
      replace H := bs_ H
      obtain ⟨t121, A17, H⟩ := H
      by_cases c18 : t121 > 0
      ·rw [if_pos c18] at H
       have c18b0 : decide (0 < t121) = true := decide_eq_true c18
       clear c18
       obtain rfl := Option.some.inj H
       have p111 : 0 ≤ (x11_1 : Int) := od_
       have q111 : x11_1 < (l0.length : Int) := od_
       obtain ⟨ad111, e111, hx111_0, hx111_1, hx111_2, hx111_3⟩ := at_T53 HR0.out x11_1 p111 q111
       cases e111
       replace hx111_0 := hbc_ HB hx111_0
       replace hx111_1 := hbc_ HB hx111_1
       replace hx111_2 := hbc_ HB hx111_2
       replace hx111_3 := hbc_ HB hx111_3
       replace p111 := eq_true p111
       replace q111 := eq_true q111
       try go_wp2_with (first | ((with_reducible refine gd_ 6 ?_); refine bx_ 6 53 #[.int .i64 0, .int .i64 0, .int .i64 0, .int .i64 0] ?_; intro gb112 hg w19 hbox hb; refine sh4_ (below_step (bl_ HB) hb) hbox (ge_ hg (bl_ HB)) (ge_ hg (bl_ HB)) ?_; clear HB hb hbox hg; intro HB BK112 GW112 GE112; have hcz20 := cf4_ BK112) | ((with_reducible refine gate_callee (f := 83) rfl ?_); refine gl_ 18 Try.func83 (impl_IsContact.calls ((rd_T53 l0 x11_1).f0) ((rd_T53 l0 x11_1).f1) ((rd_T53 l0 x11_1).f2) ((rd_T53 l0 x11_1).f3) a1 true _ A6.out) ?_; rintro e w21 ⟨rfl, hb⟩; refine ⟨_, rfl, sh2_ (blk_below (g := gb112) (o := .cells #[.int .i64 ((rd_T53 l0 x11_1).f0), .int .i64 ((rd_T53 l0 x11_1).f1), .int .i64 ((rd_T53 l0 x11_1).f2), .int .i64 ((rd_T53 l0 x11_1).f3)] 53 (0, 0)) (by (with_reducible repeat (first | refine blk_drewN ?_ _ | refine blk_drew ?_ | refine blk_alloc ?_ _)); refine blk_put (cs := #[.int .i64 ((rd_T53 l0 x11_1).f0), .int .i64 ((rd_T53 l0 x11_1).f1), .int .i64 ((rd_T53 l0 x11_1).f2), .int .i64 0]) ?_ 3 _ rfl; (with_reducible repeat (first | refine blk_drewN ?_ _ | refine blk_drew ?_ | refine blk_alloc ?_ _)); refine blk_put (cs := #[.int .i64 ((rd_T53 l0 x11_1).f0), .int .i64 ((rd_T53 l0 x11_1).f1), .int .i64 0, .int .i64 0]) ?_ 2 _ rfl; (with_reducible repeat (first | refine blk_drewN ?_ _ | refine blk_drew ?_ | refine blk_alloc ?_ _)); refine blk_put (cs := #[.int .i64 ((rd_T53 l0 x11_1).f0), .int .i64 0, .int .i64 0, .int .i64 0]) ?_ 1 _ rfl; (with_reducible repeat (first | refine blk_drewN ?_ _ | refine blk_drew ?_ | refine blk_alloc ?_ _)); refine blk_put (cs := #[.int .i64 0, .int .i64 0, .int .i64 0, .int .i64 0]) ?_ 0 _ rfl; (with_reducible repeat (first | refine blk_drewN ?_ _ | refine blk_drew ?_ | refine blk_alloc ?_ _)); exact BK112.out) hb) (below_step (bl1_ HB GE112) hb) ?_⟩; clear BK112 HB hb; intro BK112 HB; have p114 : 0 ≤ ((ji12) : Int) := od_; have q114 : (ji12) < (l0.length : Int) := od_; obtain ⟨ad114, e114, hx114_0, hx114_1, hx114_2, hx114_3⟩ := at_T53 HR0.out (ji12) p114 q114; obtain rfl : ad111 = ad114 := (by injection e114); replace hx114_0 := hbc_ HB hx114_0; replace hx114_1 := hbc_ HB hx114_1; replace hx114_2 := hbc_ HB hx114_2; replace hx114_3 := hbc_ HB hx114_3; replace p114 := eq_true p114; replace q114 := eq_true q114) | ((with_reducible refine gd_ 7 ?_); refine bx_ 7 53 #[.int .i64 0, .int .i64 0, .int .i64 0, .int .i64 0] ?_; intro gb115 hg w22 hbox hb; refine sh7_ (blk_below (bk_ BK112) hb) (below_step (bl1_ HB GE112) hb) hbox (ge_ hg (bl1_ HB GE112)) (ge_ hg (bl1_ HB GE112)) (nl_ hg (bk_ BK112)) (ng_ hg (bk_ BK112)) ?_; clear BK112 HB hb hbox hg; intro BK112 HB BK115 GW115 GE115 NB112_115 NB115_112; have hnb23 := NB115_112.out; have hnc23 := NB112_115.out; have hcz24 := cf4_ BK115))
       have n0_ : Aside0 (((((w22.setCell ⟨gb115, 0, none⟩ (.int .i64 ((rd_T53 l0 (ji12)).f0))).setCell ⟨gb115, 1, none⟩ (.int .i64 ((rd_T53 l0 (ji12)).f1))).setCell ⟨gb115, 2, none⟩ (.int .i64 ((rd_T53 l0 (ji12)).f2))).setCell ⟨gb115, 3, none⟩ (.int .i64 ((rd_T53 l0 (ji12)).f3))).heap[gb112]? = some (.cells #[.int .i64 ((rd_T53 l0 x11_1).f0), .int .i64 ((rd_T53 l0 x11_1).f1), .int .i64 ((rd_T53 l0 x11_1).f2), .int .i64 ((rd_T53 l0 x11_1).f3)] 53 (0, 0))) := ⟨by (with_reducible repeat (first | refine blk_drewN ?_ _ | refine blk_drew ?_ | refine blk_alloc ?_ _)); refine blk_far ?_ NB112_115.out _; (with_reducible repeat (first | refine blk_drewN ?_ _ | refine blk_drew ?_ | refine blk_alloc ?_ _)); refine blk_far ?_ NB112_115.out _; (with_reducible repeat (first | refine blk_drewN ?_ _ | refine blk_drew ?_ | refine blk_alloc ?_ _)); refine blk_far ?_ NB112_115.out _; (with_reducible repeat (first | refine blk_drewN ?_ _ | refine blk_drew ?_ | refine blk_alloc ?_ _)); refine blk_far ?_ NB112_115.out _; (with_reducible repeat (first | refine blk_drewN ?_ _ | refine blk_drew ?_ | refine blk_alloc ?_ _)); exact BK112.out⟩
       have n1_ : Aside0 (((((w22.setCell ⟨gb115, 0, none⟩ (.int .i64 ((rd_T53 l0 (ji12)).f0))).setCell ⟨gb115, 1, none⟩ (.int .i64 ((rd_T53 l0 (ji12)).f1))).setCell ⟨gb115, 2, none⟩ (.int .i64 ((rd_T53 l0 (ji12)).f2))).setCell ⟨gb115, 3, none⟩ (.int .i64 ((rd_T53 l0 (ji12)).f3))).heap[gb115]? = some (.cells #[.int .i64 ((rd_T53 l0 (ji12)).f0), .int .i64 ((rd_T53 l0 (ji12)).f1), .int .i64 ((rd_T53 l0 (ji12)).f2), .int .i64 ((rd_T53 l0 (ji12)).f3)] 53 (0, 0))) := ⟨by (with_reducible repeat (first | refine blk_drewN ?_ _ | refine blk_drew ?_ | refine blk_alloc ?_ _)); refine blk_put (cs := #[.int .i64 ((rd_T53 l0 (ji12)).f0), .int .i64 ((rd_T53 l0 (ji12)).f1), .int .i64 ((rd_T53 l0 (ji12)).f2), .int .i64 0]) ?_ 3 _ rfl; (with_reducible repeat (first | refine blk_drewN ?_ _ | refine blk_drew ?_ | refine blk_alloc ?_ _)); refine blk_put (cs := #[.int .i64 ((rd_T53 l0 (ji12)).f0), .int .i64 ((rd_T53 l0 (ji12)).f1), .int .i64 0, .int .i64 0]) ?_ 2 _ rfl; (with_reducible repeat (first | refine blk_drewN ?_ _ | refine blk_drew ?_ | refine blk_alloc ?_ _)); refine blk_put (cs := #[.int .i64 ((rd_T53 l0 (ji12)).f0), .int .i64 0, .int .i64 0, .int .i64 0]) ?_ 1 _ rfl; (with_reducible repeat (first | refine blk_drewN ?_ _ | refine blk_drew ?_ | refine blk_alloc ?_ _)); refine blk_put (cs := #[.int .i64 0, .int .i64 0, .int .i64 0, .int .i64 0]) ?_ 0 _ rfl; (with_reducible repeat (first | refine blk_drewN ?_ _ | refine blk_drew ?_ | refine blk_alloc ?_ _)); exact BK115.out⟩
       have n2_ : Aside0 (Below w.heap.size w ((((w22.setCell ⟨gb115, 0, none⟩ (.int .i64 ((rd_T53 l0 (ji12)).f0))).setCell ⟨gb115, 1, none⟩ (.int .i64 ((rd_T53 l0 (ji12)).f1))).setCell ⟨gb115, 2, none⟩ (.int .i64 ((rd_T53 l0 (ji12)).f2))).setCell ⟨gb115, 3, none⟩ (.int .i64 ((rd_T53 l0 (ji12)).f3)))) := ⟨bl2_ HB GE112 GE115⟩
       (try clear BK112)
       (try clear BK115)
       (try clear HB)
       generalize ((((w22.setCell ⟨gb115, 0, none⟩ (.int .i64 ((rd_T53 l0 (ji12)).f0))).setCell ⟨gb115, 1, none⟩ (.int .i64 ((rd_T53 l0 (ji12)).f1))).setCell ⟨gb115, 2, none⟩ (.int .i64 ((rd_T53 l0 (ji12)).f2))).setCell ⟨gb115, 3, none⟩ (.int .i64 ((rd_T53 l0 (ji12)).f3))) = w25 at n0_ n1_ n2_ ⊢
       have BK112 := n0_
       have BK115 := n1_
       have HB := n2_
       clear n0_ n1_ n2_
       refine sh3_ (blk_drew BK112.out) (blk_drew BK115.out) (below_drew1 HB.out) ?_
       clear BK112 BK115 HB
       intro BK112 BK115 HB
       refine start_ (n := 13) (S := fun w' => w'.cell? ⟨gb115, 0, none⟩ = some (.int .i64 ((rd_T53 l0 (ji12)).f0)) ∧ w'.cell? ⟨gb115, 1, none⟩ = some (.int .i64 ((rd_T53 l0 (ji12)).f1)) ∧ w'.cell? ⟨gb115, 2, none⟩ = some (.int .i64 ((rd_T53 l0 (ji12)).f2)) ∧ w'.cell? ⟨gb115, 3, none⟩ = some (.int .i64 ((rd_T53 l0 (ji12)).f3)) ∧ w'.cell? ⟨gb112, 0, none⟩ = some (.int .i64 ((rd_T53 l0 x11_1).f0)) ∧ w'.cell? ⟨gb112, 1, none⟩ = some (.int .i64 ((rd_T53 l0 x11_1).f1)) ∧ w'.cell? ⟨gb112, 2, none⟩ = some (.int .i64 ((rd_T53 l0 x11_1).f2)) ∧ w'.cell? ⟨gb112, 3, none⟩ = some (.int .i64 ((rd_T53 l0 x11_1).f3))) (ds := []) #[false, false, false, false, false, false, false, false, false, false, false, false, false] (by kernel_rfl) rfl rfl ⟨(bc_ BK115 0 rfl), (bc_ BK115 1 rfl), (bc_ BK115 2 rfl), (bc_ BK115 3 rfl), (bc_ BK112 0 rfl), (bc_ BK112 1 rfl), (bc_ BK112 2 rfl), (bc_ BK112 3 rfl)⟩ (fun hHeld => ?_); refine with_tabW impl_IsPlan.tab8 impl_IsPlan.bits8 (fun HT_ HW_ => ?_)
       generalize w25.drew = w26 at BK112 BK115 HB hHeld ⊢
       refine pur_ 0 #[true, false, false, false, false, false, false, false, false, false, false, false, false] (some 27) HT_ ?_
       refine pur_ 2 #[true, false, true, false, false, false, false, false, false, false, false, false, false] (some 29) HT_ ?_
       refine pur_ 5 #[true, false, true, false, false, true, false, false, false, false, false, false, false] (some 32) HT_ ?_
       refine pur_ 7 #[true, false, true, false, false, true, false, true, false, false, false, false, false] (some 34) HT_ ?_
       refine tak_ 1 #[true, true, true, false, false, true, false, true, false, false, false, false, false] (some 28) HT_ HW_ hHeld ?_
       refine tak_ 3 #[true, true, true, true, false, true, false, true, false, false, false, false, false] (some 30) HT_ HW_ hHeld ?_
       refine tak_ 6 #[true, true, true, true, false, true, true, true, false, false, false, false, false] (some 33) HT_ HW_ hHeld ?_
       refine tak_ 8 #[true, true, true, true, false, true, true, true, true, false, false, false, false] (some 35) HT_ HW_ hHeld ?_
       refine one_ (i := 4) (N := some 31) #[true, true, true, true, true, true, true, true, true, false, false, false, false] rfl rfl (one_of HT_.out (by kernel_rfl)) (by decide) (fun K hK => ?_)
       refine goes_ Try.func85 (by kernel_rfl) rfl #[.int .i64 ((rd_T53 l0 (ji12)).f0), .int .i64 ((rd_T53 l0 x11_1).f0)] (by rfl) rfl rfl (by (try simp only [List.map_toArray, List.map_cons, List.map_nil]); first | done | (simp only [hji12]; rfl) | rfl | (simp only [List.length_drop, List.length_take]; rfl)) ?_
       with_reducible refine (cmp_Compare_int.calls ((rd_T53 l0 (ji12)).f0) ((rd_T53 l0 x11_1).f0) t116 _ A15.out).mono ?_
       rintro e w' ⟨rfl, ⟨nd, rfl⟩⟩
       refine ⟨_, rfl, ?_⟩
       refine hK.out _ _ ⟨(bc_ BK115 0 rfl), (bc_ BK115 1 rfl), (bc_ BK115 2 rfl), (bc_ BK115 3 rfl), (bc_ BK112 0 rfl), (bc_ BK112 1 rfl), (bc_ BK112 2 rfl), (bc_ BK112 3 rfl)⟩ (fun hHeld => ?_)
       clear hK K
       refine norm_ (a' := ?_) ?_ ?_
       rotate_left
       ·show Act.put _ (some 31) _ = _
        simp only [Act.put, List.setIfInBounds_toArray, List.set_cons_zero, List.set_cons_succ, i64_w, i32_w]
        rfl
       refine one_ (i := 9) (N := some 36) #[true, true, true, true, true, true, true, true, true, true, false, false, false] rfl rfl (one_of HT_.out (by kernel_rfl)) (by decide) (fun K hK => ?_)
       refine goes_ Try.func85 (by kernel_rfl) rfl #[.int .i64 ((rd_T53 l0 (ji12)).f1), .int .i64 ((rd_T53 l0 x11_1).f1)] (by rfl) rfl rfl (by (try simp only [List.map_toArray, List.map_cons, List.map_nil]); first | done | (simp only [hji12]; rfl) | rfl | (simp only [List.length_drop, List.length_take]; rfl)) ?_
       with_reducible refine (cmp_Compare_int.calls ((rd_T53 l0 (ji12)).f1) ((rd_T53 l0 x11_1).f1) t117 _ A16.out).mono ?_
       rintro e w' ⟨rfl, ⟨nd, rfl⟩⟩
       refine ⟨_, rfl, ?_⟩
       refine hK.out _ _ ⟨(bc_ BK115 0 rfl), (bc_ BK115 1 rfl), (bc_ BK115 2 rfl), (bc_ BK115 3 rfl), (bc_ BK112 0 rfl), (bc_ BK112 1 rfl), (bc_ BK112 2 rfl), (bc_ BK112 3 rfl)⟩ (fun hHeld => ?_)
       clear hK K
       refine norm_ (a' := ?_) ?_ ?_
       rotate_left
       ·show Act.put _ (some 36) _ = _
        simp only [Act.put, List.setIfInBounds_toArray, List.set_cons_zero, List.set_cons_succ, i64_w, i32_w]
        rfl
       refine one_ (i := 10) (N := some 37) #[true, true, true, true, true, true, true, true, true, true, true, false, false] rfl rfl (one_of HT_.out (by kernel_rfl)) (by decide) (fun K hK => ?_)
       refine Kd.R_lit_step (Kd.int .i64) _ 3 ?hg (N := 37) ?hd (xs := ([t116, t117] : List Int)) (inner := [.int .i64 t116, .int .i64 t117]) (ok := fun _ => True) (okp := fun _ => True) ?hr ?hp (fun _ hk => hk) trivial (Below.refl _ _) (Nat.le_refl _) (by simp) ?_; (case hd => rfl); (case hg => rfl); (case hr => first | (go_simp; done) | (go_simp; rfl)); (case hp => exact (Reps.one (show Kd.M (Kd.int .i64) _ _ _ t116 [.int .i64 t116] from rfl) (Reps.one (show Kd.M (Kd.int .i64) _ _ _ t117 [.int .i64 t117] from rfl) (Reps.none _ _))))
       intro v119 w27 ho28 hb hg_ hnew_
       clear hg_ hnew_
       (first | rw [← Ny118.out] at ho28 | (simp only [Int.reduceToNat] at ho28; rw [← Ny118.out] at ho28))
       refine sh4_ (Kd.R_lower ho28 (below_size (bl2_ HB GE112 GE115))) (blk_below (bk_ BK112) hb) (blk_below (bk_ BK115) hb) (below_step (bl2_ HB GE112 GE115) hb) ?_
       clear BK112 BK115 HB hb ho28
       intro HO120 BK112 BK115 HB
       obtain ⟨Ao29, co29, eo29⟩ := Kd.R_slice HO120.out
       (first | subst eo29 | (injection eo29 with f1_ f2_ f3_; have f4_ := f1_.symm; have f5_ := f3_.symm; clear f1_ f2_ f3_; subst f4_; subst f5_))
       refine hK.out _ _ ⟨(bc_ BK115 0 rfl), (bc_ BK115 1 rfl), (bc_ BK115 2 rfl), (bc_ BK115 3 rfl), (bc_ BK112 0 rfl), (bc_ BK112 1 rfl), (bc_ BK112 2 rfl), (bc_ BK112 3 rfl)⟩ (fun hHeld => ?_)
       clear hK K
       refine norm_ (a' := ?_) ?_ ?_
       rotate_left
       ·show Act.put _ (some 37) _ = _
        simp only [Act.put, List.setIfInBounds_toArray, List.set_cons_zero, List.set_cons_succ, i64_w, i32_w]
        rfl
       refine onc_ 11 #[true, true, true, true, true, true, true, true, true, true, true, true, false] (some 38) HT_ Try.func84 (cmp_Or_int.calls k1 _ _ y118 t121 _ (cr_ HO120) (rl_ HO120) A17.out) ?_
       rintro e w' ⟨rfl, ⟨nd, rfl⟩⟩
       refine ⟨_, _, rfl, ⟨(bc_ BK115 0 rfl), (bc_ BK115 1 rfl), (bc_ BK115 2 rfl), (bc_ BK115 3 rfl), (bc_ BK112 0 rfl), (bc_ BK112 1 rfl), (bc_ BK112 2 rfl), (bc_ BK112 3 rfl)⟩, pt_, fun hHeld => ?_⟩
       refine pur_ 12 #[true, true, true, true, true, true, true, true, true, true, true, true, true] (some 8) HT_ ?_
       refine done_ (done_of HT_.out (by kernel_rfl)) ?_
       try go_wp2
       go_ret
       exact ⟨by first | rfl | (rw [hRT_.out]; rfl) | (simp [errW_none, errW_some] <;> rfl) | (simp only [← hji12]; first | rfl | (simp [errW_none, errW_some] <;> rfl)) | (simp [*, errW_none, errW_some] <;> rfl), bl2_ HB GE112 GE115⟩
      ·rw [if_neg c18] at H
       have c18b0 : decide (0 < t121) = false := decide_eq_false c18
       clear c18
       by_cases c30 : t121 = 0
       ·rw [if_pos c30] at H
        obtain ⟨c30b0, c30b1⟩ := bt_ c30
        clear c30
        by_cases c31 : ((rd_T53 l0 (ji12)).f3) ≥ ((rd_T53 l0 x11_1).f2)
        ·rw [if_pos c31] at H
         have c31b0 : decide (((rd_T53 l0 x11_1).f2) ≤ ((rd_T53 l0 (ji12)).f3)) = true := decide_eq_true c31
         clear c31
         obtain rfl := Option.some.inj H
         have p111 : 0 ≤ (x11_1 : Int) := od_
         have q111 : x11_1 < (l0.length : Int) := od_
         obtain ⟨ad111, e111, hx111_0, hx111_1, hx111_2, hx111_3⟩ := at_T53 HR0.out x11_1 p111 q111
         cases e111
         replace hx111_0 := hbc_ HB hx111_0
         replace hx111_1 := hbc_ HB hx111_1
         replace hx111_2 := hbc_ HB hx111_2
         replace hx111_3 := hbc_ HB hx111_3
         replace p111 := eq_true p111
         replace q111 := eq_true q111
         try go_wp2_with (first | ((with_reducible refine gd_ 6 ?_); refine bx_ 6 53 #[.int .i64 0, .int .i64 0, .int .i64 0, .int .i64 0] ?_; intro gb112 hg w32 hbox hb; refine sh4_ (below_step (bl_ HB) hb) hbox (ge_ hg (bl_ HB)) (ge_ hg (bl_ HB)) ?_; clear HB hb hbox hg; intro HB BK112 GW112 GE112; have hcz33 := cf4_ BK112) | ((with_reducible refine gate_callee (f := 83) rfl ?_); refine gl_ 18 Try.func83 (impl_IsContact.calls ((rd_T53 l0 x11_1).f0) ((rd_T53 l0 x11_1).f1) ((rd_T53 l0 x11_1).f2) ((rd_T53 l0 x11_1).f3) a1 true _ A6.out) ?_; rintro e w34 ⟨rfl, hb⟩; refine ⟨_, rfl, sh2_ (blk_below (g := gb112) (o := .cells #[.int .i64 ((rd_T53 l0 x11_1).f0), .int .i64 ((rd_T53 l0 x11_1).f1), .int .i64 ((rd_T53 l0 x11_1).f2), .int .i64 ((rd_T53 l0 x11_1).f3)] 53 (0, 0)) (by (with_reducible repeat (first | refine blk_drewN ?_ _ | refine blk_drew ?_ | refine blk_alloc ?_ _)); refine blk_put (cs := #[.int .i64 ((rd_T53 l0 x11_1).f0), .int .i64 ((rd_T53 l0 x11_1).f1), .int .i64 ((rd_T53 l0 x11_1).f2), .int .i64 0]) ?_ 3 _ rfl; (with_reducible repeat (first | refine blk_drewN ?_ _ | refine blk_drew ?_ | refine blk_alloc ?_ _)); refine blk_put (cs := #[.int .i64 ((rd_T53 l0 x11_1).f0), .int .i64 ((rd_T53 l0 x11_1).f1), .int .i64 0, .int .i64 0]) ?_ 2 _ rfl; (with_reducible repeat (first | refine blk_drewN ?_ _ | refine blk_drew ?_ | refine blk_alloc ?_ _)); refine blk_put (cs := #[.int .i64 ((rd_T53 l0 x11_1).f0), .int .i64 0, .int .i64 0, .int .i64 0]) ?_ 1 _ rfl; (with_reducible repeat (first | refine blk_drewN ?_ _ | refine blk_drew ?_ | refine blk_alloc ?_ _)); refine blk_put (cs := #[.int .i64 0, .int .i64 0, .int .i64 0, .int .i64 0]) ?_ 0 _ rfl; (with_reducible repeat (first | refine blk_drewN ?_ _ | refine blk_drew ?_ | refine blk_alloc ?_ _)); exact BK112.out) hb) (below_step (bl1_ HB GE112) hb) ?_⟩; clear BK112 HB hb; intro BK112 HB; have p114 : 0 ≤ ((ji12) : Int) := od_; have q114 : (ji12) < (l0.length : Int) := od_; obtain ⟨ad114, e114, hx114_0, hx114_1, hx114_2, hx114_3⟩ := at_T53 HR0.out (ji12) p114 q114; obtain rfl : ad111 = ad114 := (by injection e114); replace hx114_0 := hbc_ HB hx114_0; replace hx114_1 := hbc_ HB hx114_1; replace hx114_2 := hbc_ HB hx114_2; replace hx114_3 := hbc_ HB hx114_3; replace p114 := eq_true p114; replace q114 := eq_true q114) | ((with_reducible refine gd_ 7 ?_); refine bx_ 7 53 #[.int .i64 0, .int .i64 0, .int .i64 0, .int .i64 0] ?_; intro gb115 hg w35 hbox hb; refine sh7_ (blk_below (bk_ BK112) hb) (below_step (bl1_ HB GE112) hb) hbox (ge_ hg (bl1_ HB GE112)) (ge_ hg (bl1_ HB GE112)) (nl_ hg (bk_ BK112)) (ng_ hg (bk_ BK112)) ?_; clear BK112 HB hb hbox hg; intro BK112 HB BK115 GW115 GE115 NB112_115 NB115_112; have hnb36 := NB115_112.out; have hnc36 := NB112_115.out; have hcz37 := cf4_ BK115))
         have n0_ : Aside0 (((((w35.setCell ⟨gb115, 0, none⟩ (.int .i64 ((rd_T53 l0 (ji12)).f0))).setCell ⟨gb115, 1, none⟩ (.int .i64 ((rd_T53 l0 (ji12)).f1))).setCell ⟨gb115, 2, none⟩ (.int .i64 ((rd_T53 l0 (ji12)).f2))).setCell ⟨gb115, 3, none⟩ (.int .i64 ((rd_T53 l0 (ji12)).f3))).heap[gb112]? = some (.cells #[.int .i64 ((rd_T53 l0 x11_1).f0), .int .i64 ((rd_T53 l0 x11_1).f1), .int .i64 ((rd_T53 l0 x11_1).f2), .int .i64 ((rd_T53 l0 x11_1).f3)] 53 (0, 0))) := ⟨by (with_reducible repeat (first | refine blk_drewN ?_ _ | refine blk_drew ?_ | refine blk_alloc ?_ _)); refine blk_far ?_ NB112_115.out _; (with_reducible repeat (first | refine blk_drewN ?_ _ | refine blk_drew ?_ | refine blk_alloc ?_ _)); refine blk_far ?_ NB112_115.out _; (with_reducible repeat (first | refine blk_drewN ?_ _ | refine blk_drew ?_ | refine blk_alloc ?_ _)); refine blk_far ?_ NB112_115.out _; (with_reducible repeat (first | refine blk_drewN ?_ _ | refine blk_drew ?_ | refine blk_alloc ?_ _)); refine blk_far ?_ NB112_115.out _; (with_reducible repeat (first | refine blk_drewN ?_ _ | refine blk_drew ?_ | refine blk_alloc ?_ _)); exact BK112.out⟩
         have n1_ : Aside0 (((((w35.setCell ⟨gb115, 0, none⟩ (.int .i64 ((rd_T53 l0 (ji12)).f0))).setCell ⟨gb115, 1, none⟩ (.int .i64 ((rd_T53 l0 (ji12)).f1))).setCell ⟨gb115, 2, none⟩ (.int .i64 ((rd_T53 l0 (ji12)).f2))).setCell ⟨gb115, 3, none⟩ (.int .i64 ((rd_T53 l0 (ji12)).f3))).heap[gb115]? = some (.cells #[.int .i64 ((rd_T53 l0 (ji12)).f0), .int .i64 ((rd_T53 l0 (ji12)).f1), .int .i64 ((rd_T53 l0 (ji12)).f2), .int .i64 ((rd_T53 l0 (ji12)).f3)] 53 (0, 0))) := ⟨by (with_reducible repeat (first | refine blk_drewN ?_ _ | refine blk_drew ?_ | refine blk_alloc ?_ _)); refine blk_put (cs := #[.int .i64 ((rd_T53 l0 (ji12)).f0), .int .i64 ((rd_T53 l0 (ji12)).f1), .int .i64 ((rd_T53 l0 (ji12)).f2), .int .i64 0]) ?_ 3 _ rfl; (with_reducible repeat (first | refine blk_drewN ?_ _ | refine blk_drew ?_ | refine blk_alloc ?_ _)); refine blk_put (cs := #[.int .i64 ((rd_T53 l0 (ji12)).f0), .int .i64 ((rd_T53 l0 (ji12)).f1), .int .i64 0, .int .i64 0]) ?_ 2 _ rfl; (with_reducible repeat (first | refine blk_drewN ?_ _ | refine blk_drew ?_ | refine blk_alloc ?_ _)); refine blk_put (cs := #[.int .i64 ((rd_T53 l0 (ji12)).f0), .int .i64 0, .int .i64 0, .int .i64 0]) ?_ 1 _ rfl; (with_reducible repeat (first | refine blk_drewN ?_ _ | refine blk_drew ?_ | refine blk_alloc ?_ _)); refine blk_put (cs := #[.int .i64 0, .int .i64 0, .int .i64 0, .int .i64 0]) ?_ 0 _ rfl; (with_reducible repeat (first | refine blk_drewN ?_ _ | refine blk_drew ?_ | refine blk_alloc ?_ _)); exact BK115.out⟩
         have n2_ : Aside0 (Below w.heap.size w ((((w35.setCell ⟨gb115, 0, none⟩ (.int .i64 ((rd_T53 l0 (ji12)).f0))).setCell ⟨gb115, 1, none⟩ (.int .i64 ((rd_T53 l0 (ji12)).f1))).setCell ⟨gb115, 2, none⟩ (.int .i64 ((rd_T53 l0 (ji12)).f2))).setCell ⟨gb115, 3, none⟩ (.int .i64 ((rd_T53 l0 (ji12)).f3)))) := ⟨bl2_ HB GE112 GE115⟩
         (try clear BK112)
         (try clear BK115)
         (try clear HB)
         generalize ((((w35.setCell ⟨gb115, 0, none⟩ (.int .i64 ((rd_T53 l0 (ji12)).f0))).setCell ⟨gb115, 1, none⟩ (.int .i64 ((rd_T53 l0 (ji12)).f1))).setCell ⟨gb115, 2, none⟩ (.int .i64 ((rd_T53 l0 (ji12)).f2))).setCell ⟨gb115, 3, none⟩ (.int .i64 ((rd_T53 l0 (ji12)).f3))) = w38 at n0_ n1_ n2_ ⊢
         have BK112 := n0_
         have BK115 := n1_
         have HB := n2_
         clear n0_ n1_ n2_
         refine sh3_ (blk_drew BK112.out) (blk_drew BK115.out) (below_drew1 HB.out) ?_
         clear BK112 BK115 HB
         intro BK112 BK115 HB
         refine start_ (n := 13) (S := fun w' => w'.cell? ⟨gb115, 0, none⟩ = some (.int .i64 ((rd_T53 l0 (ji12)).f0)) ∧ w'.cell? ⟨gb115, 1, none⟩ = some (.int .i64 ((rd_T53 l0 (ji12)).f1)) ∧ w'.cell? ⟨gb115, 2, none⟩ = some (.int .i64 ((rd_T53 l0 (ji12)).f2)) ∧ w'.cell? ⟨gb115, 3, none⟩ = some (.int .i64 ((rd_T53 l0 (ji12)).f3)) ∧ w'.cell? ⟨gb112, 0, none⟩ = some (.int .i64 ((rd_T53 l0 x11_1).f0)) ∧ w'.cell? ⟨gb112, 1, none⟩ = some (.int .i64 ((rd_T53 l0 x11_1).f1)) ∧ w'.cell? ⟨gb112, 2, none⟩ = some (.int .i64 ((rd_T53 l0 x11_1).f2)) ∧ w'.cell? ⟨gb112, 3, none⟩ = some (.int .i64 ((rd_T53 l0 x11_1).f3))) (ds := []) #[false, false, false, false, false, false, false, false, false, false, false, false, false] (by kernel_rfl) rfl rfl ⟨(bc_ BK115 0 rfl), (bc_ BK115 1 rfl), (bc_ BK115 2 rfl), (bc_ BK115 3 rfl), (bc_ BK112 0 rfl), (bc_ BK112 1 rfl), (bc_ BK112 2 rfl), (bc_ BK112 3 rfl)⟩ (fun hHeld => ?_); refine with_tabW impl_IsPlan.tab8 impl_IsPlan.bits8 (fun HT_ HW_ => ?_)
         generalize w38.drew = w39 at BK112 BK115 HB hHeld ⊢
         refine pur_ 0 #[true, false, false, false, false, false, false, false, false, false, false, false, false] (some 27) HT_ ?_
         refine pur_ 2 #[true, false, true, false, false, false, false, false, false, false, false, false, false] (some 29) HT_ ?_
         refine pur_ 5 #[true, false, true, false, false, true, false, false, false, false, false, false, false] (some 32) HT_ ?_
         refine pur_ 7 #[true, false, true, false, false, true, false, true, false, false, false, false, false] (some 34) HT_ ?_
         refine tak_ 1 #[true, true, true, false, false, true, false, true, false, false, false, false, false] (some 28) HT_ HW_ hHeld ?_
         refine tak_ 3 #[true, true, true, true, false, true, false, true, false, false, false, false, false] (some 30) HT_ HW_ hHeld ?_
         refine tak_ 6 #[true, true, true, true, false, true, true, true, false, false, false, false, false] (some 33) HT_ HW_ hHeld ?_
         refine tak_ 8 #[true, true, true, true, false, true, true, true, true, false, false, false, false] (some 35) HT_ HW_ hHeld ?_
         refine one_ (i := 4) (N := some 31) #[true, true, true, true, true, true, true, true, true, false, false, false, false] rfl rfl (one_of HT_.out (by kernel_rfl)) (by decide) (fun K hK => ?_)
         refine goes_ Try.func85 (by kernel_rfl) rfl #[.int .i64 ((rd_T53 l0 (ji12)).f0), .int .i64 ((rd_T53 l0 x11_1).f0)] (by rfl) rfl rfl (by (try simp only [List.map_toArray, List.map_cons, List.map_nil]); first | done | (simp only [hji12]; rfl) | rfl | (simp only [List.length_drop, List.length_take]; rfl)) ?_
         with_reducible refine (cmp_Compare_int.calls ((rd_T53 l0 (ji12)).f0) ((rd_T53 l0 x11_1).f0) t116 _ A15.out).mono ?_
         rintro e w' ⟨rfl, ⟨nd, rfl⟩⟩
         refine ⟨_, rfl, ?_⟩
         refine hK.out _ _ ⟨(bc_ BK115 0 rfl), (bc_ BK115 1 rfl), (bc_ BK115 2 rfl), (bc_ BK115 3 rfl), (bc_ BK112 0 rfl), (bc_ BK112 1 rfl), (bc_ BK112 2 rfl), (bc_ BK112 3 rfl)⟩ (fun hHeld => ?_)
         clear hK K
         refine norm_ (a' := ?_) ?_ ?_
         rotate_left
         ·show Act.put _ (some 31) _ = _
          simp only [Act.put, List.setIfInBounds_toArray, List.set_cons_zero, List.set_cons_succ, i64_w, i32_w]
          rfl
         refine one_ (i := 9) (N := some 36) #[true, true, true, true, true, true, true, true, true, true, false, false, false] rfl rfl (one_of HT_.out (by kernel_rfl)) (by decide) (fun K hK => ?_)
         refine goes_ Try.func85 (by kernel_rfl) rfl #[.int .i64 ((rd_T53 l0 (ji12)).f1), .int .i64 ((rd_T53 l0 x11_1).f1)] (by rfl) rfl rfl (by (try simp only [List.map_toArray, List.map_cons, List.map_nil]); first | done | (simp only [hji12]; rfl) | rfl | (simp only [List.length_drop, List.length_take]; rfl)) ?_
         with_reducible refine (cmp_Compare_int.calls ((rd_T53 l0 (ji12)).f1) ((rd_T53 l0 x11_1).f1) t117 _ A16.out).mono ?_
         rintro e w' ⟨rfl, ⟨nd, rfl⟩⟩
         refine ⟨_, rfl, ?_⟩
         refine hK.out _ _ ⟨(bc_ BK115 0 rfl), (bc_ BK115 1 rfl), (bc_ BK115 2 rfl), (bc_ BK115 3 rfl), (bc_ BK112 0 rfl), (bc_ BK112 1 rfl), (bc_ BK112 2 rfl), (bc_ BK112 3 rfl)⟩ (fun hHeld => ?_)
         clear hK K
         refine norm_ (a' := ?_) ?_ ?_
         rotate_left
         ·show Act.put _ (some 36) _ = _
          simp only [Act.put, List.setIfInBounds_toArray, List.set_cons_zero, List.set_cons_succ, i64_w, i32_w]
          rfl
         refine one_ (i := 10) (N := some 37) #[true, true, true, true, true, true, true, true, true, true, true, false, false] rfl rfl (one_of HT_.out (by kernel_rfl)) (by decide) (fun K hK => ?_)
         refine Kd.R_lit_step (Kd.int .i64) _ 3 ?hg (N := 37) ?hd (xs := ([t116, t117] : List Int)) (inner := [.int .i64 t116, .int .i64 t117]) (ok := fun _ => True) (okp := fun _ => True) ?hr ?hp (fun _ hk => hk) trivial (Below.refl _ _) (Nat.le_refl _) (by simp) ?_; (case hd => rfl); (case hg => rfl); (case hr => first | (go_simp; done) | (go_simp; rfl)); (case hp => exact (Reps.one (show Kd.M (Kd.int .i64) _ _ _ t116 [.int .i64 t116] from rfl) (Reps.one (show Kd.M (Kd.int .i64) _ _ _ t117 [.int .i64 t117] from rfl) (Reps.none _ _))))
         intro v119 w40 ho41 hb hg_ hnew_
         clear hg_ hnew_
         (first | rw [← Ny118.out] at ho41 | (simp only [Int.reduceToNat] at ho41; rw [← Ny118.out] at ho41))
         refine sh4_ (Kd.R_lower ho41 (below_size (bl2_ HB GE112 GE115))) (blk_below (bk_ BK112) hb) (blk_below (bk_ BK115) hb) (below_step (bl2_ HB GE112 GE115) hb) ?_
         clear BK112 BK115 HB hb ho41
         intro HO120 BK112 BK115 HB
         obtain ⟨Ao42, co42, eo42⟩ := Kd.R_slice HO120.out
         (first | subst eo42 | (injection eo42 with f1_ f2_ f3_; have f4_ := f1_.symm; have f5_ := f3_.symm; clear f1_ f2_ f3_; subst f4_; subst f5_))
         refine hK.out _ _ ⟨(bc_ BK115 0 rfl), (bc_ BK115 1 rfl), (bc_ BK115 2 rfl), (bc_ BK115 3 rfl), (bc_ BK112 0 rfl), (bc_ BK112 1 rfl), (bc_ BK112 2 rfl), (bc_ BK112 3 rfl)⟩ (fun hHeld => ?_)
         clear hK K
         refine norm_ (a' := ?_) ?_ ?_
         rotate_left
         ·show Act.put _ (some 37) _ = _
          simp only [Act.put, List.setIfInBounds_toArray, List.set_cons_zero, List.set_cons_succ, i64_w, i32_w]
          rfl
         refine onc_ 11 #[true, true, true, true, true, true, true, true, true, true, true, true, false] (some 38) HT_ Try.func84 (cmp_Or_int.calls k1 _ _ y118 t121 _ (cr_ HO120) (rl_ HO120) A17.out) ?_
         rintro e w' ⟨rfl, ⟨nd, rfl⟩⟩
         refine ⟨_, _, rfl, ⟨(bc_ BK115 0 rfl), (bc_ BK115 1 rfl), (bc_ BK115 2 rfl), (bc_ BK115 3 rfl), (bc_ BK112 0 rfl), (bc_ BK112 1 rfl), (bc_ BK112 2 rfl), (bc_ BK112 3 rfl)⟩, pt_, fun hHeld => ?_⟩
         refine pur_ 12 #[true, true, true, true, true, true, true, true, true, true, true, true, true] (some 8) HT_ ?_
         refine done_ (done_of HT_.out (by kernel_rfl)) ?_
         have hcz43 := cf4_ BK115
         have hcz44 := cf4_ BK112
         try go_wp2
         go_ret
         exact ⟨by first | rfl | (rw [hRT_.out]; rfl) | (simp [errW_none, errW_some] <;> rfl) | (simp only [← hji12]; first | rfl | (simp [errW_none, errW_some] <;> rfl)) | (simp [*, errW_none, errW_some] <;> rfl), bl2_ HB GE112 GE115⟩
        ·rw [if_neg c31] at H
         have c31b0 : decide (((rd_T53 l0 x11_1).f2) ≤ ((rd_T53 l0 (ji12)).f3)) = false := decide_eq_false c31
         clear c31
         have H' := Aside0.mk H
         clear H
         have p111 : 0 ≤ (x11_1 : Int) := od_
         have q111 : x11_1 < (l0.length : Int) := od_
         obtain ⟨ad111, e111, hx111_0, hx111_1, hx111_2, hx111_3⟩ := at_T53 HR0.out x11_1 p111 q111
         cases e111
         replace hx111_0 := hbc_ HB hx111_0
         replace hx111_1 := hbc_ HB hx111_1
         replace hx111_2 := hbc_ HB hx111_2
         replace hx111_3 := hbc_ HB hx111_3
         replace p111 := eq_true p111
         replace q111 := eq_true q111
         try go_wp2_with (first | ((with_reducible refine gd_ 6 ?_); refine bx_ 6 53 #[.int .i64 0, .int .i64 0, .int .i64 0, .int .i64 0] ?_; intro gb112 hg w45 hbox hb; refine sh4_ (below_step (bl_ HB) hb) hbox (ge_ hg (bl_ HB)) (ge_ hg (bl_ HB)) ?_; clear HB hb hbox hg; intro HB BK112 GW112 GE112; have hcz46 := cf4_ BK112) | ((with_reducible refine gate_callee (f := 83) rfl ?_); refine gl_ 18 Try.func83 (impl_IsContact.calls ((rd_T53 l0 x11_1).f0) ((rd_T53 l0 x11_1).f1) ((rd_T53 l0 x11_1).f2) ((rd_T53 l0 x11_1).f3) a1 true _ A6.out) ?_; rintro e w47 ⟨rfl, hb⟩; refine ⟨_, rfl, sh2_ (blk_below (g := gb112) (o := .cells #[.int .i64 ((rd_T53 l0 x11_1).f0), .int .i64 ((rd_T53 l0 x11_1).f1), .int .i64 ((rd_T53 l0 x11_1).f2), .int .i64 ((rd_T53 l0 x11_1).f3)] 53 (0, 0)) (by (with_reducible repeat (first | refine blk_drewN ?_ _ | refine blk_drew ?_ | refine blk_alloc ?_ _)); refine blk_put (cs := #[.int .i64 ((rd_T53 l0 x11_1).f0), .int .i64 ((rd_T53 l0 x11_1).f1), .int .i64 ((rd_T53 l0 x11_1).f2), .int .i64 0]) ?_ 3 _ rfl; (with_reducible repeat (first | refine blk_drewN ?_ _ | refine blk_drew ?_ | refine blk_alloc ?_ _)); refine blk_put (cs := #[.int .i64 ((rd_T53 l0 x11_1).f0), .int .i64 ((rd_T53 l0 x11_1).f1), .int .i64 0, .int .i64 0]) ?_ 2 _ rfl; (with_reducible repeat (first | refine blk_drewN ?_ _ | refine blk_drew ?_ | refine blk_alloc ?_ _)); refine blk_put (cs := #[.int .i64 ((rd_T53 l0 x11_1).f0), .int .i64 0, .int .i64 0, .int .i64 0]) ?_ 1 _ rfl; (with_reducible repeat (first | refine blk_drewN ?_ _ | refine blk_drew ?_ | refine blk_alloc ?_ _)); refine blk_put (cs := #[.int .i64 0, .int .i64 0, .int .i64 0, .int .i64 0]) ?_ 0 _ rfl; (with_reducible repeat (first | refine blk_drewN ?_ _ | refine blk_drew ?_ | refine blk_alloc ?_ _)); exact BK112.out) hb) (below_step (bl1_ HB GE112) hb) ?_⟩; clear BK112 HB hb; intro BK112 HB; have p114 : 0 ≤ ((ji12) : Int) := od_; have q114 : (ji12) < (l0.length : Int) := od_; obtain ⟨ad114, e114, hx114_0, hx114_1, hx114_2, hx114_3⟩ := at_T53 HR0.out (ji12) p114 q114; obtain rfl : ad111 = ad114 := (by injection e114); replace hx114_0 := hbc_ HB hx114_0; replace hx114_1 := hbc_ HB hx114_1; replace hx114_2 := hbc_ HB hx114_2; replace hx114_3 := hbc_ HB hx114_3; replace p114 := eq_true p114; replace q114 := eq_true q114) | ((with_reducible refine gd_ 7 ?_); refine bx_ 7 53 #[.int .i64 0, .int .i64 0, .int .i64 0, .int .i64 0] ?_; intro gb115 hg w48 hbox hb; refine sh7_ (blk_below (bk_ BK112) hb) (below_step (bl1_ HB GE112) hb) hbox (ge_ hg (bl1_ HB GE112)) (ge_ hg (bl1_ HB GE112)) (nl_ hg (bk_ BK112)) (ng_ hg (bk_ BK112)) ?_; clear BK112 HB hb hbox hg; intro BK112 HB BK115 GW115 GE115 NB112_115 NB115_112; have hnb49 := NB115_112.out; have hnc49 := NB112_115.out; have hcz50 := cf4_ BK115))
         have n0_ : Aside0 (((((w48.setCell ⟨gb115, 0, none⟩ (.int .i64 ((rd_T53 l0 (ji12)).f0))).setCell ⟨gb115, 1, none⟩ (.int .i64 ((rd_T53 l0 (ji12)).f1))).setCell ⟨gb115, 2, none⟩ (.int .i64 ((rd_T53 l0 (ji12)).f2))).setCell ⟨gb115, 3, none⟩ (.int .i64 ((rd_T53 l0 (ji12)).f3))).heap[gb112]? = some (.cells #[.int .i64 ((rd_T53 l0 x11_1).f0), .int .i64 ((rd_T53 l0 x11_1).f1), .int .i64 ((rd_T53 l0 x11_1).f2), .int .i64 ((rd_T53 l0 x11_1).f3)] 53 (0, 0))) := ⟨by (with_reducible repeat (first | refine blk_drewN ?_ _ | refine blk_drew ?_ | refine blk_alloc ?_ _)); refine blk_far ?_ NB112_115.out _; (with_reducible repeat (first | refine blk_drewN ?_ _ | refine blk_drew ?_ | refine blk_alloc ?_ _)); refine blk_far ?_ NB112_115.out _; (with_reducible repeat (first | refine blk_drewN ?_ _ | refine blk_drew ?_ | refine blk_alloc ?_ _)); refine blk_far ?_ NB112_115.out _; (with_reducible repeat (first | refine blk_drewN ?_ _ | refine blk_drew ?_ | refine blk_alloc ?_ _)); refine blk_far ?_ NB112_115.out _; (with_reducible repeat (first | refine blk_drewN ?_ _ | refine blk_drew ?_ | refine blk_alloc ?_ _)); exact BK112.out⟩
         have n1_ : Aside0 (((((w48.setCell ⟨gb115, 0, none⟩ (.int .i64 ((rd_T53 l0 (ji12)).f0))).setCell ⟨gb115, 1, none⟩ (.int .i64 ((rd_T53 l0 (ji12)).f1))).setCell ⟨gb115, 2, none⟩ (.int .i64 ((rd_T53 l0 (ji12)).f2))).setCell ⟨gb115, 3, none⟩ (.int .i64 ((rd_T53 l0 (ji12)).f3))).heap[gb115]? = some (.cells #[.int .i64 ((rd_T53 l0 (ji12)).f0), .int .i64 ((rd_T53 l0 (ji12)).f1), .int .i64 ((rd_T53 l0 (ji12)).f2), .int .i64 ((rd_T53 l0 (ji12)).f3)] 53 (0, 0))) := ⟨by (with_reducible repeat (first | refine blk_drewN ?_ _ | refine blk_drew ?_ | refine blk_alloc ?_ _)); refine blk_put (cs := #[.int .i64 ((rd_T53 l0 (ji12)).f0), .int .i64 ((rd_T53 l0 (ji12)).f1), .int .i64 ((rd_T53 l0 (ji12)).f2), .int .i64 0]) ?_ 3 _ rfl; (with_reducible repeat (first | refine blk_drewN ?_ _ | refine blk_drew ?_ | refine blk_alloc ?_ _)); refine blk_put (cs := #[.int .i64 ((rd_T53 l0 (ji12)).f0), .int .i64 ((rd_T53 l0 (ji12)).f1), .int .i64 0, .int .i64 0]) ?_ 2 _ rfl; (with_reducible repeat (first | refine blk_drewN ?_ _ | refine blk_drew ?_ | refine blk_alloc ?_ _)); refine blk_put (cs := #[.int .i64 ((rd_T53 l0 (ji12)).f0), .int .i64 0, .int .i64 0, .int .i64 0]) ?_ 1 _ rfl; (with_reducible repeat (first | refine blk_drewN ?_ _ | refine blk_drew ?_ | refine blk_alloc ?_ _)); refine blk_put (cs := #[.int .i64 0, .int .i64 0, .int .i64 0, .int .i64 0]) ?_ 0 _ rfl; (with_reducible repeat (first | refine blk_drewN ?_ _ | refine blk_drew ?_ | refine blk_alloc ?_ _)); exact BK115.out⟩
         have n2_ : Aside0 (Below w.heap.size w ((((w48.setCell ⟨gb115, 0, none⟩ (.int .i64 ((rd_T53 l0 (ji12)).f0))).setCell ⟨gb115, 1, none⟩ (.int .i64 ((rd_T53 l0 (ji12)).f1))).setCell ⟨gb115, 2, none⟩ (.int .i64 ((rd_T53 l0 (ji12)).f2))).setCell ⟨gb115, 3, none⟩ (.int .i64 ((rd_T53 l0 (ji12)).f3)))) := ⟨bl2_ HB GE112 GE115⟩
         (try clear BK112)
         (try clear BK115)
         (try clear HB)
         generalize ((((w48.setCell ⟨gb115, 0, none⟩ (.int .i64 ((rd_T53 l0 (ji12)).f0))).setCell ⟨gb115, 1, none⟩ (.int .i64 ((rd_T53 l0 (ji12)).f1))).setCell ⟨gb115, 2, none⟩ (.int .i64 ((rd_T53 l0 (ji12)).f2))).setCell ⟨gb115, 3, none⟩ (.int .i64 ((rd_T53 l0 (ji12)).f3))) = w51 at n0_ n1_ n2_ ⊢
         have BK112 := n0_
         have BK115 := n1_
         have HB := n2_
         clear n0_ n1_ n2_
         refine sh3_ (blk_drew BK112.out) (blk_drew BK115.out) (below_drew1 HB.out) ?_
         clear BK112 BK115 HB
         intro BK112 BK115 HB
         refine start_ (n := 13) (S := fun w' => w'.cell? ⟨gb115, 0, none⟩ = some (.int .i64 ((rd_T53 l0 (ji12)).f0)) ∧ w'.cell? ⟨gb115, 1, none⟩ = some (.int .i64 ((rd_T53 l0 (ji12)).f1)) ∧ w'.cell? ⟨gb115, 2, none⟩ = some (.int .i64 ((rd_T53 l0 (ji12)).f2)) ∧ w'.cell? ⟨gb115, 3, none⟩ = some (.int .i64 ((rd_T53 l0 (ji12)).f3)) ∧ w'.cell? ⟨gb112, 0, none⟩ = some (.int .i64 ((rd_T53 l0 x11_1).f0)) ∧ w'.cell? ⟨gb112, 1, none⟩ = some (.int .i64 ((rd_T53 l0 x11_1).f1)) ∧ w'.cell? ⟨gb112, 2, none⟩ = some (.int .i64 ((rd_T53 l0 x11_1).f2)) ∧ w'.cell? ⟨gb112, 3, none⟩ = some (.int .i64 ((rd_T53 l0 x11_1).f3))) (ds := []) #[false, false, false, false, false, false, false, false, false, false, false, false, false] (by kernel_rfl) rfl rfl ⟨(bc_ BK115 0 rfl), (bc_ BK115 1 rfl), (bc_ BK115 2 rfl), (bc_ BK115 3 rfl), (bc_ BK112 0 rfl), (bc_ BK112 1 rfl), (bc_ BK112 2 rfl), (bc_ BK112 3 rfl)⟩ (fun hHeld => ?_); refine with_tabW impl_IsPlan.tab8 impl_IsPlan.bits8 (fun HT_ HW_ => ?_)
         generalize w51.drew = w52 at BK112 BK115 HB hHeld ⊢
         refine pur_ 0 #[true, false, false, false, false, false, false, false, false, false, false, false, false] (some 27) HT_ ?_
         refine pur_ 2 #[true, false, true, false, false, false, false, false, false, false, false, false, false] (some 29) HT_ ?_
         refine pur_ 5 #[true, false, true, false, false, true, false, false, false, false, false, false, false] (some 32) HT_ ?_
         refine pur_ 7 #[true, false, true, false, false, true, false, true, false, false, false, false, false] (some 34) HT_ ?_
         refine tak_ 1 #[true, true, true, false, false, true, false, true, false, false, false, false, false] (some 28) HT_ HW_ hHeld ?_
         refine tak_ 3 #[true, true, true, true, false, true, false, true, false, false, false, false, false] (some 30) HT_ HW_ hHeld ?_
         refine tak_ 6 #[true, true, true, true, false, true, true, true, false, false, false, false, false] (some 33) HT_ HW_ hHeld ?_
         refine tak_ 8 #[true, true, true, true, false, true, true, true, true, false, false, false, false] (some 35) HT_ HW_ hHeld ?_
         refine one_ (i := 4) (N := some 31) #[true, true, true, true, true, true, true, true, true, false, false, false, false] rfl rfl (one_of HT_.out (by kernel_rfl)) (by decide) (fun K hK => ?_)
         refine goes_ Try.func85 (by kernel_rfl) rfl #[.int .i64 ((rd_T53 l0 (ji12)).f0), .int .i64 ((rd_T53 l0 x11_1).f0)] (by rfl) rfl rfl (by (try simp only [List.map_toArray, List.map_cons, List.map_nil]); first | done | (simp only [hji12]; rfl) | rfl | (simp only [List.length_drop, List.length_take]; rfl)) ?_
         with_reducible refine (cmp_Compare_int.calls ((rd_T53 l0 (ji12)).f0) ((rd_T53 l0 x11_1).f0) t116 _ A15.out).mono ?_
         rintro e w' ⟨rfl, ⟨nd, rfl⟩⟩
         refine ⟨_, rfl, ?_⟩
         refine hK.out _ _ ⟨(bc_ BK115 0 rfl), (bc_ BK115 1 rfl), (bc_ BK115 2 rfl), (bc_ BK115 3 rfl), (bc_ BK112 0 rfl), (bc_ BK112 1 rfl), (bc_ BK112 2 rfl), (bc_ BK112 3 rfl)⟩ (fun hHeld => ?_)
         clear hK K
         refine norm_ (a' := ?_) ?_ ?_
         rotate_left
         ·show Act.put _ (some 31) _ = _
          simp only [Act.put, List.setIfInBounds_toArray, List.set_cons_zero, List.set_cons_succ, i64_w, i32_w]
          rfl
         refine one_ (i := 9) (N := some 36) #[true, true, true, true, true, true, true, true, true, true, false, false, false] rfl rfl (one_of HT_.out (by kernel_rfl)) (by decide) (fun K hK => ?_)
         refine goes_ Try.func85 (by kernel_rfl) rfl #[.int .i64 ((rd_T53 l0 (ji12)).f1), .int .i64 ((rd_T53 l0 x11_1).f1)] (by rfl) rfl rfl (by (try simp only [List.map_toArray, List.map_cons, List.map_nil]); first | done | (simp only [hji12]; rfl) | rfl | (simp only [List.length_drop, List.length_take]; rfl)) ?_
         with_reducible refine (cmp_Compare_int.calls ((rd_T53 l0 (ji12)).f1) ((rd_T53 l0 x11_1).f1) t117 _ A16.out).mono ?_
         rintro e w' ⟨rfl, ⟨nd, rfl⟩⟩
         refine ⟨_, rfl, ?_⟩
         refine hK.out _ _ ⟨(bc_ BK115 0 rfl), (bc_ BK115 1 rfl), (bc_ BK115 2 rfl), (bc_ BK115 3 rfl), (bc_ BK112 0 rfl), (bc_ BK112 1 rfl), (bc_ BK112 2 rfl), (bc_ BK112 3 rfl)⟩ (fun hHeld => ?_)
         clear hK K
         refine norm_ (a' := ?_) ?_ ?_
         rotate_left
         ·show Act.put _ (some 36) _ = _
          simp only [Act.put, List.setIfInBounds_toArray, List.set_cons_zero, List.set_cons_succ, i64_w, i32_w]
          rfl
         refine one_ (i := 10) (N := some 37) #[true, true, true, true, true, true, true, true, true, true, true, false, false] rfl rfl (one_of HT_.out (by kernel_rfl)) (by decide) (fun K hK => ?_)
         refine Kd.R_lit_step (Kd.int .i64) _ 3 ?hg (N := 37) ?hd (xs := ([t116, t117] : List Int)) (inner := [.int .i64 t116, .int .i64 t117]) (ok := fun _ => True) (okp := fun _ => True) ?hr ?hp (fun _ hk => hk) trivial (Below.refl _ _) (Nat.le_refl _) (by simp) ?_; (case hd => rfl); (case hg => rfl); (case hr => first | (go_simp; done) | (go_simp; rfl)); (case hp => exact (Reps.one (show Kd.M (Kd.int .i64) _ _ _ t116 [.int .i64 t116] from rfl) (Reps.one (show Kd.M (Kd.int .i64) _ _ _ t117 [.int .i64 t117] from rfl) (Reps.none _ _))))
         intro v119 w53 ho54 hb hg_ hnew_
         clear hg_ hnew_
         (first | rw [← Ny118.out] at ho54 | (simp only [Int.reduceToNat] at ho54; rw [← Ny118.out] at ho54))
         refine sh4_ (Kd.R_lower ho54 (below_size (bl2_ HB GE112 GE115))) (blk_below (bk_ BK112) hb) (blk_below (bk_ BK115) hb) (below_step (bl2_ HB GE112 GE115) hb) ?_
         clear BK112 BK115 HB hb ho54
         intro HO120 BK112 BK115 HB
         obtain ⟨Ao55, co55, eo55⟩ := Kd.R_slice HO120.out
         (first | subst eo55 | (injection eo55 with f1_ f2_ f3_; have f4_ := f1_.symm; have f5_ := f3_.symm; clear f1_ f2_ f3_; subst f4_; subst f5_))
         refine hK.out _ _ ⟨(bc_ BK115 0 rfl), (bc_ BK115 1 rfl), (bc_ BK115 2 rfl), (bc_ BK115 3 rfl), (bc_ BK112 0 rfl), (bc_ BK112 1 rfl), (bc_ BK112 2 rfl), (bc_ BK112 3 rfl)⟩ (fun hHeld => ?_)
         clear hK K
         refine norm_ (a' := ?_) ?_ ?_
         rotate_left
         ·show Act.put _ (some 37) _ = _
          simp only [Act.put, List.setIfInBounds_toArray, List.set_cons_zero, List.set_cons_succ, i64_w, i32_w]
          rfl
         refine onc_ 11 #[true, true, true, true, true, true, true, true, true, true, true, true, false] (some 38) HT_ Try.func84 (cmp_Or_int.calls k1 _ _ y118 t121 _ (cr_ HO120) (rl_ HO120) A17.out) ?_
         rintro e w' ⟨rfl, ⟨nd, rfl⟩⟩
         refine ⟨_, _, rfl, ⟨(bc_ BK115 0 rfl), (bc_ BK115 1 rfl), (bc_ BK115 2 rfl), (bc_ BK115 3 rfl), (bc_ BK112 0 rfl), (bc_ BK112 1 rfl), (bc_ BK112 2 rfl), (bc_ BK112 3 rfl)⟩, pt_, fun hHeld => ?_⟩
         refine pur_ 12 #[true, true, true, true, true, true, true, true, true, true, true, true, true] (some 8) HT_ ?_
         refine done_ (done_of HT_.out (by kernel_rfl)) ?_
         have hcz56 := cf4_ BK115
         have hcz57 := cf4_ BK112
         try go_wp2
         go_roundg k1
         case measure => have := HK1.out; omega
         case rel => exact ⟨(wrap64 (x11_1 + 1)), (by first | rfl | (simp; done) | (simp [*]; done)), H', ⟨by have := HK1.out; omega⟩, ⟨bl2_ HB GE112 GE115⟩⟩
       ·rw [if_neg c30] at H
        obtain ⟨c30b0, c30b1⟩ := bn_ c30
        have H' := Aside0.mk H
        clear H
        have p111 : 0 ≤ (x11_1 : Int) := od_
        have q111 : x11_1 < (l0.length : Int) := od_
        obtain ⟨ad111, e111, hx111_0, hx111_1, hx111_2, hx111_3⟩ := at_T53 HR0.out x11_1 p111 q111
        cases e111
        replace hx111_0 := hbc_ HB hx111_0
        replace hx111_1 := hbc_ HB hx111_1
        replace hx111_2 := hbc_ HB hx111_2
        replace hx111_3 := hbc_ HB hx111_3
        replace p111 := eq_true p111
        replace q111 := eq_true q111
        try go_wp2_with (first | ((with_reducible refine gd_ 6 ?_); refine bx_ 6 53 #[.int .i64 0, .int .i64 0, .int .i64 0, .int .i64 0] ?_; intro gb112 hg w58 hbox hb; refine sh4_ (below_step (bl_ HB) hb) hbox (ge_ hg (bl_ HB)) (ge_ hg (bl_ HB)) ?_; clear HB hb hbox hg; intro HB BK112 GW112 GE112; have hcz59 := cf4_ BK112) | ((with_reducible refine gate_callee (f := 83) rfl ?_); refine gl_ 18 Try.func83 (impl_IsContact.calls ((rd_T53 l0 x11_1).f0) ((rd_T53 l0 x11_1).f1) ((rd_T53 l0 x11_1).f2) ((rd_T53 l0 x11_1).f3) a1 true _ A6.out) ?_; rintro e w60 ⟨rfl, hb⟩; refine ⟨_, rfl, sh2_ (blk_below (g := gb112) (o := .cells #[.int .i64 ((rd_T53 l0 x11_1).f0), .int .i64 ((rd_T53 l0 x11_1).f1), .int .i64 ((rd_T53 l0 x11_1).f2), .int .i64 ((rd_T53 l0 x11_1).f3)] 53 (0, 0)) (by (with_reducible repeat (first | refine blk_drewN ?_ _ | refine blk_drew ?_ | refine blk_alloc ?_ _)); refine blk_put (cs := #[.int .i64 ((rd_T53 l0 x11_1).f0), .int .i64 ((rd_T53 l0 x11_1).f1), .int .i64 ((rd_T53 l0 x11_1).f2), .int .i64 0]) ?_ 3 _ rfl; (with_reducible repeat (first | refine blk_drewN ?_ _ | refine blk_drew ?_ | refine blk_alloc ?_ _)); refine blk_put (cs := #[.int .i64 ((rd_T53 l0 x11_1).f0), .int .i64 ((rd_T53 l0 x11_1).f1), .int .i64 0, .int .i64 0]) ?_ 2 _ rfl; (with_reducible repeat (first | refine blk_drewN ?_ _ | refine blk_drew ?_ | refine blk_alloc ?_ _)); refine blk_put (cs := #[.int .i64 ((rd_T53 l0 x11_1).f0), .int .i64 0, .int .i64 0, .int .i64 0]) ?_ 1 _ rfl; (with_reducible repeat (first | refine blk_drewN ?_ _ | refine blk_drew ?_ | refine blk_alloc ?_ _)); refine blk_put (cs := #[.int .i64 0, .int .i64 0, .int .i64 0, .int .i64 0]) ?_ 0 _ rfl; (with_reducible repeat (first | refine blk_drewN ?_ _ | refine blk_drew ?_ | refine blk_alloc ?_ _)); exact BK112.out) hb) (below_step (bl1_ HB GE112) hb) ?_⟩; clear BK112 HB hb; intro BK112 HB; have p114 : 0 ≤ ((ji12) : Int) := od_; have q114 : (ji12) < (l0.length : Int) := od_; obtain ⟨ad114, e114, hx114_0, hx114_1, hx114_2, hx114_3⟩ := at_T53 HR0.out (ji12) p114 q114; obtain rfl : ad111 = ad114 := (by injection e114); replace hx114_0 := hbc_ HB hx114_0; replace hx114_1 := hbc_ HB hx114_1; replace hx114_2 := hbc_ HB hx114_2; replace hx114_3 := hbc_ HB hx114_3; replace p114 := eq_true p114; replace q114 := eq_true q114) | ((with_reducible refine gd_ 7 ?_); refine bx_ 7 53 #[.int .i64 0, .int .i64 0, .int .i64 0, .int .i64 0] ?_; intro gb115 hg w61 hbox hb; refine sh7_ (blk_below (bk_ BK112) hb) (below_step (bl1_ HB GE112) hb) hbox (ge_ hg (bl1_ HB GE112)) (ge_ hg (bl1_ HB GE112)) (nl_ hg (bk_ BK112)) (ng_ hg (bk_ BK112)) ?_; clear BK112 HB hb hbox hg; intro BK112 HB BK115 GW115 GE115 NB112_115 NB115_112; have hnb62 := NB115_112.out; have hnc62 := NB112_115.out; have hcz63 := cf4_ BK115))
        have n0_ : Aside0 (((((w61.setCell ⟨gb115, 0, none⟩ (.int .i64 ((rd_T53 l0 (ji12)).f0))).setCell ⟨gb115, 1, none⟩ (.int .i64 ((rd_T53 l0 (ji12)).f1))).setCell ⟨gb115, 2, none⟩ (.int .i64 ((rd_T53 l0 (ji12)).f2))).setCell ⟨gb115, 3, none⟩ (.int .i64 ((rd_T53 l0 (ji12)).f3))).heap[gb112]? = some (.cells #[.int .i64 ((rd_T53 l0 x11_1).f0), .int .i64 ((rd_T53 l0 x11_1).f1), .int .i64 ((rd_T53 l0 x11_1).f2), .int .i64 ((rd_T53 l0 x11_1).f3)] 53 (0, 0))) := ⟨by (with_reducible repeat (first | refine blk_drewN ?_ _ | refine blk_drew ?_ | refine blk_alloc ?_ _)); refine blk_far ?_ NB112_115.out _; (with_reducible repeat (first | refine blk_drewN ?_ _ | refine blk_drew ?_ | refine blk_alloc ?_ _)); refine blk_far ?_ NB112_115.out _; (with_reducible repeat (first | refine blk_drewN ?_ _ | refine blk_drew ?_ | refine blk_alloc ?_ _)); refine blk_far ?_ NB112_115.out _; (with_reducible repeat (first | refine blk_drewN ?_ _ | refine blk_drew ?_ | refine blk_alloc ?_ _)); refine blk_far ?_ NB112_115.out _; (with_reducible repeat (first | refine blk_drewN ?_ _ | refine blk_drew ?_ | refine blk_alloc ?_ _)); exact BK112.out⟩
        have n1_ : Aside0 (((((w61.setCell ⟨gb115, 0, none⟩ (.int .i64 ((rd_T53 l0 (ji12)).f0))).setCell ⟨gb115, 1, none⟩ (.int .i64 ((rd_T53 l0 (ji12)).f1))).setCell ⟨gb115, 2, none⟩ (.int .i64 ((rd_T53 l0 (ji12)).f2))).setCell ⟨gb115, 3, none⟩ (.int .i64 ((rd_T53 l0 (ji12)).f3))).heap[gb115]? = some (.cells #[.int .i64 ((rd_T53 l0 (ji12)).f0), .int .i64 ((rd_T53 l0 (ji12)).f1), .int .i64 ((rd_T53 l0 (ji12)).f2), .int .i64 ((rd_T53 l0 (ji12)).f3)] 53 (0, 0))) := ⟨by (with_reducible repeat (first | refine blk_drewN ?_ _ | refine blk_drew ?_ | refine blk_alloc ?_ _)); refine blk_put (cs := #[.int .i64 ((rd_T53 l0 (ji12)).f0), .int .i64 ((rd_T53 l0 (ji12)).f1), .int .i64 ((rd_T53 l0 (ji12)).f2), .int .i64 0]) ?_ 3 _ rfl; (with_reducible repeat (first | refine blk_drewN ?_ _ | refine blk_drew ?_ | refine blk_alloc ?_ _)); refine blk_put (cs := #[.int .i64 ((rd_T53 l0 (ji12)).f0), .int .i64 ((rd_T53 l0 (ji12)).f1), .int .i64 0, .int .i64 0]) ?_ 2 _ rfl; (with_reducible repeat (first | refine blk_drewN ?_ _ | refine blk_drew ?_ | refine blk_alloc ?_ _)); refine blk_put (cs := #[.int .i64 ((rd_T53 l0 (ji12)).f0), .int .i64 0, .int .i64 0, .int .i64 0]) ?_ 1 _ rfl; (with_reducible repeat (first | refine blk_drewN ?_ _ | refine blk_drew ?_ | refine blk_alloc ?_ _)); refine blk_put (cs := #[.int .i64 0, .int .i64 0, .int .i64 0, .int .i64 0]) ?_ 0 _ rfl; (with_reducible repeat (first | refine blk_drewN ?_ _ | refine blk_drew ?_ | refine blk_alloc ?_ _)); exact BK115.out⟩
        have n2_ : Aside0 (Below w.heap.size w ((((w61.setCell ⟨gb115, 0, none⟩ (.int .i64 ((rd_T53 l0 (ji12)).f0))).setCell ⟨gb115, 1, none⟩ (.int .i64 ((rd_T53 l0 (ji12)).f1))).setCell ⟨gb115, 2, none⟩ (.int .i64 ((rd_T53 l0 (ji12)).f2))).setCell ⟨gb115, 3, none⟩ (.int .i64 ((rd_T53 l0 (ji12)).f3)))) := ⟨bl2_ HB GE112 GE115⟩
        (try clear BK112)
        (try clear BK115)
        (try clear HB)
        generalize ((((w61.setCell ⟨gb115, 0, none⟩ (.int .i64 ((rd_T53 l0 (ji12)).f0))).setCell ⟨gb115, 1, none⟩ (.int .i64 ((rd_T53 l0 (ji12)).f1))).setCell ⟨gb115, 2, none⟩ (.int .i64 ((rd_T53 l0 (ji12)).f2))).setCell ⟨gb115, 3, none⟩ (.int .i64 ((rd_T53 l0 (ji12)).f3))) = w64 at n0_ n1_ n2_ ⊢
        have BK112 := n0_
        have BK115 := n1_
        have HB := n2_
        clear n0_ n1_ n2_
        refine sh3_ (blk_drew BK112.out) (blk_drew BK115.out) (below_drew1 HB.out) ?_
        clear BK112 BK115 HB
        intro BK112 BK115 HB
        refine start_ (n := 13) (S := fun w' => w'.cell? ⟨gb115, 0, none⟩ = some (.int .i64 ((rd_T53 l0 (ji12)).f0)) ∧ w'.cell? ⟨gb115, 1, none⟩ = some (.int .i64 ((rd_T53 l0 (ji12)).f1)) ∧ w'.cell? ⟨gb115, 2, none⟩ = some (.int .i64 ((rd_T53 l0 (ji12)).f2)) ∧ w'.cell? ⟨gb115, 3, none⟩ = some (.int .i64 ((rd_T53 l0 (ji12)).f3)) ∧ w'.cell? ⟨gb112, 0, none⟩ = some (.int .i64 ((rd_T53 l0 x11_1).f0)) ∧ w'.cell? ⟨gb112, 1, none⟩ = some (.int .i64 ((rd_T53 l0 x11_1).f1)) ∧ w'.cell? ⟨gb112, 2, none⟩ = some (.int .i64 ((rd_T53 l0 x11_1).f2)) ∧ w'.cell? ⟨gb112, 3, none⟩ = some (.int .i64 ((rd_T53 l0 x11_1).f3))) (ds := []) #[false, false, false, false, false, false, false, false, false, false, false, false, false] (by kernel_rfl) rfl rfl ⟨(bc_ BK115 0 rfl), (bc_ BK115 1 rfl), (bc_ BK115 2 rfl), (bc_ BK115 3 rfl), (bc_ BK112 0 rfl), (bc_ BK112 1 rfl), (bc_ BK112 2 rfl), (bc_ BK112 3 rfl)⟩ (fun hHeld => ?_); refine with_tabW impl_IsPlan.tab8 impl_IsPlan.bits8 (fun HT_ HW_ => ?_)
        generalize w64.drew = w65 at BK112 BK115 HB hHeld ⊢
        refine pur_ 0 #[true, false, false, false, false, false, false, false, false, false, false, false, false] (some 27) HT_ ?_
        refine pur_ 2 #[true, false, true, false, false, false, false, false, false, false, false, false, false] (some 29) HT_ ?_
        refine pur_ 5 #[true, false, true, false, false, true, false, false, false, false, false, false, false] (some 32) HT_ ?_
        refine pur_ 7 #[true, false, true, false, false, true, false, true, false, false, false, false, false] (some 34) HT_ ?_
        refine tak_ 1 #[true, true, true, false, false, true, false, true, false, false, false, false, false] (some 28) HT_ HW_ hHeld ?_
        refine tak_ 3 #[true, true, true, true, false, true, false, true, false, false, false, false, false] (some 30) HT_ HW_ hHeld ?_
        refine tak_ 6 #[true, true, true, true, false, true, true, true, false, false, false, false, false] (some 33) HT_ HW_ hHeld ?_
        refine tak_ 8 #[true, true, true, true, false, true, true, true, true, false, false, false, false] (some 35) HT_ HW_ hHeld ?_
        refine one_ (i := 4) (N := some 31) #[true, true, true, true, true, true, true, true, true, false, false, false, false] rfl rfl (one_of HT_.out (by kernel_rfl)) (by decide) (fun K hK => ?_)
        refine goes_ Try.func85 (by kernel_rfl) rfl #[.int .i64 ((rd_T53 l0 (ji12)).f0), .int .i64 ((rd_T53 l0 x11_1).f0)] (by rfl) rfl rfl (by (try simp only [List.map_toArray, List.map_cons, List.map_nil]); first | done | (simp only [hji12]; rfl) | rfl | (simp only [List.length_drop, List.length_take]; rfl)) ?_
        with_reducible refine (cmp_Compare_int.calls ((rd_T53 l0 (ji12)).f0) ((rd_T53 l0 x11_1).f0) t116 _ A15.out).mono ?_
        rintro e w' ⟨rfl, ⟨nd, rfl⟩⟩
        refine ⟨_, rfl, ?_⟩
        refine hK.out _ _ ⟨(bc_ BK115 0 rfl), (bc_ BK115 1 rfl), (bc_ BK115 2 rfl), (bc_ BK115 3 rfl), (bc_ BK112 0 rfl), (bc_ BK112 1 rfl), (bc_ BK112 2 rfl), (bc_ BK112 3 rfl)⟩ (fun hHeld => ?_)
        clear hK K
        refine norm_ (a' := ?_) ?_ ?_
        rotate_left
        ·show Act.put _ (some 31) _ = _
         simp only [Act.put, List.setIfInBounds_toArray, List.set_cons_zero, List.set_cons_succ, i64_w, i32_w]
         rfl
        refine one_ (i := 9) (N := some 36) #[true, true, true, true, true, true, true, true, true, true, false, false, false] rfl rfl (one_of HT_.out (by kernel_rfl)) (by decide) (fun K hK => ?_)
        refine goes_ Try.func85 (by kernel_rfl) rfl #[.int .i64 ((rd_T53 l0 (ji12)).f1), .int .i64 ((rd_T53 l0 x11_1).f1)] (by rfl) rfl rfl (by (try simp only [List.map_toArray, List.map_cons, List.map_nil]); first | done | (simp only [hji12]; rfl) | rfl | (simp only [List.length_drop, List.length_take]; rfl)) ?_
        with_reducible refine (cmp_Compare_int.calls ((rd_T53 l0 (ji12)).f1) ((rd_T53 l0 x11_1).f1) t117 _ A16.out).mono ?_
        rintro e w' ⟨rfl, ⟨nd, rfl⟩⟩
        refine ⟨_, rfl, ?_⟩
        refine hK.out _ _ ⟨(bc_ BK115 0 rfl), (bc_ BK115 1 rfl), (bc_ BK115 2 rfl), (bc_ BK115 3 rfl), (bc_ BK112 0 rfl), (bc_ BK112 1 rfl), (bc_ BK112 2 rfl), (bc_ BK112 3 rfl)⟩ (fun hHeld => ?_)
        clear hK K
        refine norm_ (a' := ?_) ?_ ?_
        rotate_left
        ·show Act.put _ (some 36) _ = _
         simp only [Act.put, List.setIfInBounds_toArray, List.set_cons_zero, List.set_cons_succ, i64_w, i32_w]
         rfl
        refine one_ (i := 10) (N := some 37) #[true, true, true, true, true, true, true, true, true, true, true, false, false] rfl rfl (one_of HT_.out (by kernel_rfl)) (by decide) (fun K hK => ?_)
        refine Kd.R_lit_step (Kd.int .i64) _ 3 ?hg (N := 37) ?hd (xs := ([t116, t117] : List Int)) (inner := [.int .i64 t116, .int .i64 t117]) (ok := fun _ => True) (okp := fun _ => True) ?hr ?hp (fun _ hk => hk) trivial (Below.refl _ _) (Nat.le_refl _) (by simp) ?_; (case hd => rfl); (case hg => rfl); (case hr => first | (go_simp; done) | (go_simp; rfl)); (case hp => exact (Reps.one (show Kd.M (Kd.int .i64) _ _ _ t116 [.int .i64 t116] from rfl) (Reps.one (show Kd.M (Kd.int .i64) _ _ _ t117 [.int .i64 t117] from rfl) (Reps.none _ _))))
        intro v119 w66 ho67 hb hg_ hnew_
        clear hg_ hnew_
        (first | rw [← Ny118.out] at ho67 | (simp only [Int.reduceToNat] at ho67; rw [← Ny118.out] at ho67))
        refine sh4_ (Kd.R_lower ho67 (below_size (bl2_ HB GE112 GE115))) (blk_below (bk_ BK112) hb) (blk_below (bk_ BK115) hb) (below_step (bl2_ HB GE112 GE115) hb) ?_
        clear BK112 BK115 HB hb ho67
        intro HO120 BK112 BK115 HB
        obtain ⟨Ao68, co68, eo68⟩ := Kd.R_slice HO120.out
        (first | subst eo68 | (injection eo68 with f1_ f2_ f3_; have f4_ := f1_.symm; have f5_ := f3_.symm; clear f1_ f2_ f3_; subst f4_; subst f5_))
        refine hK.out _ _ ⟨(bc_ BK115 0 rfl), (bc_ BK115 1 rfl), (bc_ BK115 2 rfl), (bc_ BK115 3 rfl), (bc_ BK112 0 rfl), (bc_ BK112 1 rfl), (bc_ BK112 2 rfl), (bc_ BK112 3 rfl)⟩ (fun hHeld => ?_)
        clear hK K
        refine norm_ (a' := ?_) ?_ ?_
        rotate_left
        ·show Act.put _ (some 37) _ = _
         simp only [Act.put, List.setIfInBounds_toArray, List.set_cons_zero, List.set_cons_succ, i64_w, i32_w]
         rfl
        refine onc_ 11 #[true, true, true, true, true, true, true, true, true, true, true, true, false] (some 38) HT_ Try.func84 (cmp_Or_int.calls k1 _ _ y118 t121 _ (cr_ HO120) (rl_ HO120) A17.out) ?_
        rintro e w' ⟨rfl, ⟨nd, rfl⟩⟩
        refine ⟨_, _, rfl, ⟨(bc_ BK115 0 rfl), (bc_ BK115 1 rfl), (bc_ BK115 2 rfl), (bc_ BK115 3 rfl), (bc_ BK112 0 rfl), (bc_ BK112 1 rfl), (bc_ BK112 2 rfl), (bc_ BK112 3 rfl)⟩, pt_, fun hHeld => ?_⟩
        refine pur_ 12 #[true, true, true, true, true, true, true, true, true, true, true, true, true] (some 8) HT_ ?_
        refine done_ (done_of HT_.out (by kernel_rfl)) ?_
        try go_wp2
        go_roundg k1
        case measure => have := HK1.out; omega
        case rel => exact ⟨(wrap64 (x11_1 + 1)), (by first | rfl | (simp; done) | (simp [*]; done)), H', ⟨by have := HK1.out; omega⟩, ⟨bl2_ HB GE112 GE115⟩⟩
    ·replace c7 := Bool.eq_false_iff.mpr c7
     subst c7
     have H1 : (some false) = some r := by rw [if_neg (show ¬ (false = true) by decide)] at H; exact H
     clear H
     have H := H1
     clear H1
     obtain rfl := Option.some.inj H
     have p111 : 0 ≤ (x11_1 : Int) := od_
     have q111 : x11_1 < (l0.length : Int) := od_
     obtain ⟨ad111, e111, hx111_0, hx111_1, hx111_2, hx111_3⟩ := at_T53 HR0.out x11_1 p111 q111
     cases e111
     replace hx111_0 := hbc_ HB hx111_0
     replace hx111_1 := hbc_ HB hx111_1
     replace hx111_2 := hbc_ HB hx111_2
     replace hx111_3 := hbc_ HB hx111_3
     replace p111 := eq_true p111
     replace q111 := eq_true q111
     go_wp2_with (first | ((with_reducible refine gd_ 6 ?_); refine bx_ 6 53 #[.int .i64 0, .int .i64 0, .int .i64 0, .int .i64 0] ?_; intro gb112 hg w69 hbox hb; refine sh4_ (below_step (bl_ HB) hb) hbox (ge_ hg (bl_ HB)) (ge_ hg (bl_ HB)) ?_; clear HB hb hbox hg; intro HB BK112 GW112 GE112; have hcz70 := cf4_ BK112) | ((with_reducible refine gate_callee (f := 83) rfl ?_); refine gl_ 18 Try.func83 (impl_IsContact.calls ((rd_T53 l0 x11_1).f0) ((rd_T53 l0 x11_1).f1) ((rd_T53 l0 x11_1).f2) ((rd_T53 l0 x11_1).f3) a1 false _ A6.out) ?_; rintro e w71 ⟨rfl, hb⟩; refine ⟨_, rfl, sh2_ (blk_below (g := gb112) (o := .cells #[.int .i64 ((rd_T53 l0 x11_1).f0), .int .i64 ((rd_T53 l0 x11_1).f1), .int .i64 ((rd_T53 l0 x11_1).f2), .int .i64 ((rd_T53 l0 x11_1).f3)] 53 (0, 0)) (by (with_reducible repeat (first | refine blk_drewN ?_ _ | refine blk_drew ?_ | refine blk_alloc ?_ _)); refine blk_put (cs := #[.int .i64 ((rd_T53 l0 x11_1).f0), .int .i64 ((rd_T53 l0 x11_1).f1), .int .i64 ((rd_T53 l0 x11_1).f2), .int .i64 0]) ?_ 3 _ rfl; (with_reducible repeat (first | refine blk_drewN ?_ _ | refine blk_drew ?_ | refine blk_alloc ?_ _)); refine blk_put (cs := #[.int .i64 ((rd_T53 l0 x11_1).f0), .int .i64 ((rd_T53 l0 x11_1).f1), .int .i64 0, .int .i64 0]) ?_ 2 _ rfl; (with_reducible repeat (first | refine blk_drewN ?_ _ | refine blk_drew ?_ | refine blk_alloc ?_ _)); refine blk_put (cs := #[.int .i64 ((rd_T53 l0 x11_1).f0), .int .i64 0, .int .i64 0, .int .i64 0]) ?_ 1 _ rfl; (with_reducible repeat (first | refine blk_drewN ?_ _ | refine blk_drew ?_ | refine blk_alloc ?_ _)); refine blk_put (cs := #[.int .i64 0, .int .i64 0, .int .i64 0, .int .i64 0]) ?_ 0 _ rfl; (with_reducible repeat (first | refine blk_drewN ?_ _ | refine blk_drew ?_ | refine blk_alloc ?_ _)); exact BK112.out) hb) (below_step (bl1_ HB GE112) hb) ?_⟩; clear BK112 HB hb; intro BK112 HB))
     go_ret
     exact ⟨by first | (rw [hRT_.out]; rfl) | exact er_, bl1_ HB GE112⟩
   ·rw [if_neg c3] at H
    have c3b0 : decide (x11_1 < (l0.length : Int)) = false := decide_eq_false c3
    clear c3
    obtain rfl := Option.some.inj H
    go_wp2
    go_ret
    exact ⟨by first | (rw [hRT_.out]; rfl) | exact er_, bl_ HB⟩

/-! ### impl_InSpan: function 63 -/
def impl_InSpan.f (a0_0 : Int) (a0_1 : Int) (a1 : Int) : Option (Bool) := (impl_IsSpan.f a0_0 a0_1).bind fun t123 => (if t123 = true then (if a0_0 ≤ a1 then (some (decide (a1 < a0_1))) else (some false)) else (some false))
set_option maxHeartbeats 8000000 in
set_option maxRecDepth 100000 in
theorem impl_InSpan.calls (a0_0 : Int) (a0_1 : Int) (a1 : Int) (r : Bool) (w : World) (h : impl_InSpan.f a0_0 a0_1 a1 = some r) :
  Calls Try.prog 63 #[.agg #[.int .i64 a0_0, .int .i64 a0_1], .int .i64 a1] w fun e w' => e = .returned (.bool r) ∧ Below w.heap.size w w' := by
 have hu82 := Try.underlying82
 have HB := Aside0.mk (Below.refl w.heap.size w)
 have H := h
 clear h
 unfold impl_InSpan.f at H
 replace H := bs_ H
 obtain ⟨t123, A3, H⟩ := H
 by_cases c4 : t123 = true
 ·subst c4
  rw [if_pos rfl] at H
  by_cases c5 : a0_0 ≤ a1
  ·rw [if_pos c5] at H
   have c5b0 := decide_eq_true c5
   clear c5
   obtain rfl := Option.some.inj H
   go_enter Try.func63, Try.ntmps63
   go_wp2_with (first | ((with_reducible refine gd_ 2 ?_); refine bx_ 2 82 #[.int .i64 a0_0, .int .i64 a0_1] ?_; intro gb122 hg w6 hbox hb; refine sh4_ (below_step (bl_ HB) hb) hbox (ge_ hg (bl_ HB)) (ge_ hg (bl_ HB)) ?_; clear HB hb hbox hg; intro HB BK122 GW122 GE122; have hcz7 := cf2_ BK122) | ((with_reducible refine gate_callee (f := 99) rfl ?_); refine gl_ 6 Try.func99 (impl_IsSpan.calls a0_0 a0_1 true _ A3.out) ?_; rintro e w8 ⟨rfl, hb⟩; refine ⟨_, rfl, sh2_ (blk_below (bk_ BK122) hb) (below_step (bl1_ HB GE122) hb) ?_⟩; clear BK122 HB hb; intro BK122 HB; have hcz9 := cf2_ BK122))
   go_ret
   exact ⟨by first | (rw [hRT_.out]; rfl) | exact er_, bl1_ HB GE122⟩
  ·rw [if_neg c5] at H
   have c5b0 := decide_eq_false c5
   clear c5
   obtain rfl := Option.some.inj H
   go_enter Try.func63, Try.ntmps63
   go_wp2_with (first | ((with_reducible refine gd_ 2 ?_); refine bx_ 2 82 #[.int .i64 a0_0, .int .i64 a0_1] ?_; intro gb122 hg w10 hbox hb; refine sh4_ (below_step (bl_ HB) hb) hbox (ge_ hg (bl_ HB)) (ge_ hg (bl_ HB)) ?_; clear HB hb hbox hg; intro HB BK122 GW122 GE122; have hcz11 := cf2_ BK122) | ((with_reducible refine gate_callee (f := 99) rfl ?_); refine gl_ 6 Try.func99 (impl_IsSpan.calls a0_0 a0_1 true _ A3.out) ?_; rintro e w12 ⟨rfl, hb⟩; refine ⟨_, rfl, sh2_ (blk_below (bk_ BK122) hb) (below_step (bl1_ HB GE122) hb) ?_⟩; clear BK122 HB hb; intro BK122 HB; have hcz13 := cf2_ BK122))
   go_ret
   exact ⟨by first | (rw [hRT_.out]; rfl) | exact er_, bl1_ HB GE122⟩
 ·replace c4 := Bool.eq_false_iff.mpr c4
  subst c4
  have H1 : (some false) = some r := by rw [if_neg (show ¬ (false = true) by decide)] at H; exact H
  clear H
  have H := H1
  clear H1
  obtain rfl := Option.some.inj H
  go_enter Try.func63, Try.ntmps63
  go_wp2_with (first | ((with_reducible refine gd_ 2 ?_); refine bx_ 2 82 #[.int .i64 a0_0, .int .i64 a0_1] ?_; intro gb122 hg w14 hbox hb; refine sh4_ (below_step (bl_ HB) hb) hbox (ge_ hg (bl_ HB)) (ge_ hg (bl_ HB)) ?_; clear HB hb hbox hg; intro HB BK122 GW122 GE122; have hcz15 := cf2_ BK122) | ((with_reducible refine gate_callee (f := 99) rfl ?_); refine gl_ 6 Try.func99 (impl_IsSpan.calls a0_0 a0_1 false _ A3.out) ?_; rintro e w16 ⟨rfl, hb⟩; refine ⟨_, rfl, sh2_ (blk_below (bk_ BK122) hb) (below_step (bl1_ HB GE122) hb) ?_⟩; clear BK122 HB hb; intro BK122 HB))
  go_ret
  exact ⟨by first | (rw [hRT_.out]; rfl) | exact er_, bl1_ HB GE122⟩

end Go.Proofs.Ytopbkdcicidajaa.PFnWeather
