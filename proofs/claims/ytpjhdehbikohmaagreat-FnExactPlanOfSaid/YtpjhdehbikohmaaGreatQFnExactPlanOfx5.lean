-- Written by a program of this session for this claim (the kit's printer with changes).
import Derived.Test.YtpjhdehbikohmaaGreatQFnExactPlanOfx0
namespace Go.Proofs.YtpjhdehbikohmaaGreat.PFnExactPlanOf
open Go.RowKit Go.Proofs.YtpjhdehbikohmaaGreatW.PrintWords Go.Proofs.YtpjhdehbikohmaaGreatW.PrintLast Go.Proofs.YtpjhdehbikohmaaGreatW.PrintMore
attribute [local go_sem] max2_int min2_int max_two min_two max_three min_three max_four min_four   -- for this text's walks alone
set_option linter.unusedVariables false
set_option maxHeartbeats 8000000
set_option maxRecDepth 100000
set_option linter.unusedSimpArgs false

/-! ### spec_Min: function 22 -/
def spec_Min.f (j l : Int) : Option (Int) := if l < j then (some l) else (some j)
theorem spec_Min.calls (j l r : Int) (w : World) (h : spec_Min.f j l = some r) :
  Calls Tryz.prog 22 #[iv_ j, iv_ l] w fun e w' => e = .returned (iv_ r) ∧ Drawn0 w w' := by
 have H := h
 clear h
 unfold spec_Min.f at H
 by_cases c3 : l < j
 ·rw [if_pos c3] at H
  have m := decide_eq_true c3
  clear c3
  obtain rfl := Option.some.inj H
  go_enter Tryz.func22, Tryz.ntmps22
  go_wp2
  go_ret
  exact ⟨by first | rfl | (simp; done) | (simp [*]; done), by repeat (first | exact Drawn0.refl _ | apply Drawn0.step)⟩
 ·rw [if_neg c3] at H
  have m := decide_eq_false c3
  clear c3
  obtain rfl := Option.some.inj H
  go_enter Tryz.func22, Tryz.ntmps22
  go_wp2
  go_ret
  exact ⟨by first | rfl | (simp; done) | (simp [*]; done), by repeat (first | exact Drawn0.refl _ | apply Drawn0.step)⟩

/-! ### spec_Max: function 23 -/
def spec_Max.f (j l : Int) : Option (Int) := if l > j then (some l) else (some j)
theorem spec_Max.calls (j l r : Int) (w : World) (h : spec_Max.f j l = some r) :
  Calls Tryz.prog 23 #[iv_ j, iv_ l] w fun e w' => e = .returned (iv_ r) ∧ Drawn0 w w' := by
 have H := h
 clear h
 unfold spec_Max.f at H
 by_cases c3 : l > j
 ·rw [if_pos c3] at H
  have m : decide (j < l) = true := decide_eq_true c3
  clear c3
  obtain rfl := Option.some.inj H
  go_enter Tryz.func23, Tryz.ntmps23
  go_wp2
  go_ret
  exact ⟨by first | rfl | (simp; done) | (simp [*]; done), by repeat (first | exact Drawn0.refl _ | apply Drawn0.step)⟩
 ·rw [if_neg c3] at H
  have m : decide (j < l) = false := decide_eq_false c3
  clear c3
  obtain rfl := Option.some.inj H
  go_enter Tryz.func23, Tryz.ntmps23
  go_wp2
  go_ret
  exact ⟨by first | rfl | (simp; done) | (simp [*]; done), by repeat (first | exact Drawn0.refl _ | apply Drawn0.step)⟩

/-! ### spec_IsSpan: function 44 -/
def spec_IsSpan.f (j l : Int) : Option (Bool) := if j ≥ 0 then (if l ≤ 1000 then (some (decide (j < l))) else (some false)) else (some false)
theorem spec_IsSpan.calls (j l : Int) (r : Bool) (w : World) (h : spec_IsSpan.f j l = some r) :
  Calls Tryz.prog 44 #[.agg #[iv_ j, iv_ l]] w fun e w' => e = .returned (.bool r) ∧ Below w.heap.size w w' := by
 have E := Tryz.underlying52
 have HB := Aside0.mk (Below.refl w.heap.size w)
 have H := h
 clear h
 unfold spec_IsSpan.f at H
 by_cases c2 : j ≥ 0
 ·rw [if_pos c2] at H
  have x : decide (0 ≤ j) = true := decide_eq_true c2
  clear c2
  by_cases c3 : l ≤ 1000
  ·rw [if_pos c3] at H
   have y := decide_eq_true c3
   clear c3
   obtain rfl := Option.some.inj H
   go_enter Tryz.func44, Tryz.ntmps44
   go_wp2_with (first | ((with_reducible refine gd_ 1 ?_); refine bx_ 1 52 #[iv_ j, iv_ l] ?_; intro u hg G hbox hb; refine sh3_ (below_step (bl_ HB) hb) hbox (ge_ hg (bl_ HB)) ?_; clear HB hb hbox hg; intro HB m s; have z := cf2_ m))
   go_ret
   exact ⟨er_, bl1_ HB s⟩
  ·rw [if_neg c3] at H
   have y := decide_eq_false c3
   clear c3
   obtain rfl := Option.some.inj H
   go_enter Tryz.func44, Tryz.ntmps44
   go_wp2_with (first | ((with_reducible refine gd_ 1 ?_); refine bx_ 1 52 #[iv_ j, iv_ l] ?_; intro u hg I hbox hb; refine sh3_ (below_step (bl_ HB) hb) hbox (ge_ hg (bl_ HB)) ?_; clear HB hb hbox hg; intro HB m s; have B := cf2_ m))
   go_ret
   exact ⟨er_, bl1_ HB s⟩
 ·rw [if_neg c2] at H
  have x : decide (0 ≤ j) = false := decide_eq_false c2
  clear c2
  obtain rfl := Option.some.inj H
  go_enter Tryz.func44, Tryz.ntmps44
  go_wp2_with (first | ((with_reducible refine gd_ 1 ?_); refine bx_ 1 52 #[iv_ j, iv_ l] ?_; intro u hg J hbox hb; refine sh3_ (below_step (bl_ HB) hb) hbox (ge_ hg (bl_ HB)) ?_; clear HB hb hbox hg; intro HB m s; have D := cf2_ m))
  go_ret
  exact ⟨er_, bl1_ HB s⟩

/-! ### spec_l4Last: function 62 -/
def spec_l4Last.l0 : Nat → List S52 → Int → Int → Option (Int)
 | 0, _, _, _ => none
 | k + 1, l, m, j => if j < (l.length : Int) then (if 0 ≤ j then ((spec_IsSpan.f ((rd_T52 l j).f0) ((rd_T52 l j).f1)).bind fun s => (if s = true then ((spec_Max.f m ((rd_T52 l j).f1)).bind fun u => (spec_l4Last.l0 k l u (wrap64 (j + 1)))) else (spec_l4Last.l0 k l m (wrap64 (j + 1))))) else (none)) else (some m)
def spec_l4Last.f (k : Nat) (j : List S52) : Option (Int) := spec_l4Last.l0 k j 0 0
theorem spec_l4Last.calls (k : Nat) (J : Option Addr) (T : Nat) (l : List S52) (r : Int) (w : World) (X : Kd.C k52 w J l.length l) (U : l.length ≤ T) (h : spec_l4Last.f k l = some r) :
  Calls Tryz.prog 62 #[.slice J l.length T] w fun e w' => e = .returned (iv_ r) ∧ Below w.heap.size w w' := by
 have b0 := Tryz.underlying52
 have B := Aside0.mk X
 have a8 := Aside0.mk U
 clear X U
 have HB := Aside0.mk (Below.refl w.heap.size w)
 have H := h
 clear h
 unfold spec_l4Last.f at H
 have H' := Aside0.mk H
 clear H
 go_enter Tryz.func62, Tryz.ntmps62
 go_wp2
 go_loopg [3, 4] k (fun kq v3 v4 w' => ∃ (u : Int) (j : Int), v3 = iv_ u ∧ v4 = iv_ j ∧ Aside0 (spec_l4Last.l0 kq l u j = some r) ∧ Aside0 (kq ≤ k) ∧ Aside0 (Below w.heap.size w w'))
 case atStart => exact ⟨(0), (0), (by first | rfl | (simp; done) | (simp [*]; done)), (by first | rfl | (simp; done) | (simp [*]; done)), H', ⟨Nat.le_refl _⟩, ⟨bl_ HB⟩⟩
 case round =>
  clear H'
  obtain ⟨u, j, rfl, rfl, HA, z, HB⟩ := hrel
  cases gk with
  | zero => exact absurd HA.out (by simp [spec_l4Last.l0])
  | succ E =>
   have H := HA.out
   clear HA
   simp only [spec_l4Last.l0] at H
   by_cases c2 : j < (l.length : Int)
   ·rw [if_pos c2] at H
    have a3 := decide_eq_true c2
    clear c2
    replace H := ifn_ H
    obtain ⟨c3, H⟩ := H
    have a9 := decide_eq_true c3
    clear c3
    replace H := bs_ H
    obtain ⟨a5, L, H⟩ := H
    by_cases c5 : a5 = true
    ·subst c5
     rw [if_pos rfl] at H
     replace H := bs_ H
     obtain ⟨a0, A6, H⟩ := H
     have H' := Aside0.mk H
     clear H
     have m : 0 ≤ (j : Int) := od_
     have s : j < (l.length : Int) := od_
     obtain ⟨O, D, x, y⟩ := at_T52 B.out j m s
     cases D
     replace x := hbc_ HB x
     replace y := hbc_ HB y
     replace m := eq_true m
     replace s := eq_true s
     go_wp2_with (first | ((with_reducible refine gate_callee (f := 44) rfl ?_); refine gl_ 15 Tryz.func44 (spec_IsSpan.calls ((rd_T52 l j).f0) ((rd_T52 l j).f1) true _ L.out) ?_; rintro e w7 ⟨rfl, hb⟩; refine ⟨_, rfl, sh1_ (below_step (bl_ HB) hb) ?_⟩; clear HB hb; intro HB; have G : 0 ≤ (j : Int) := od_; have I : j < (l.length : Int) := od_; obtain ⟨a2, a4, Y, Z⟩ := at_T52 B.out j G I; obtain rfl : O = a2 := (by injection a4); replace Y := hbc_ HB Y; replace Z := hbc_ HB Z; replace G := eq_true G; replace I := eq_true I) | ((with_reducible refine gate_callee (f := 23) rfl ?_); refine gl_ 22 Tryz.func23 (spec_Max.calls u ((rd_T52 l j).f1) a0 _ A6.out) ?_; rintro e w' ⟨rfl, ⟨nd, rfl⟩⟩; refine ⟨_, rfl, ?_⟩))
     go_roundg E
     case measure => have := z.out; omega
     case rel => exact ⟨(a0), (wrap64 (j + 1)), (by first | rfl | (simp; done) | (simp [*]; done)), (by first | rfl | (simp; done) | (simp [*]; done)), H', ⟨by have := z.out; omega⟩, ⟨bl_ HB⟩⟩
    ·replace c5 := Bool.eq_false_iff.mpr c5
     subst c5
     have M : (spec_l4Last.l0 E l u (wrap64 (j + 1))) = some r := by rw [if_neg (show ¬ (false = true) by decide)] at H; exact H
     clear H
     have H := M
     clear M
     have H' := Aside0.mk H
     clear H
     have m : 0 ≤ (j : Int) := od_
     have s : j < (l.length : Int) := od_
     obtain ⟨O, D, x, y⟩ := at_T52 B.out j m s
     cases D
     replace x := hbc_ HB x
     replace y := hbc_ HB y
     replace m := eq_true m
     replace s := eq_true s
     go_wp2_with (first | ((with_reducible refine gate_callee (f := 44) rfl ?_); refine gl_ 15 Tryz.func44 (spec_IsSpan.calls ((rd_T52 l j).f0) ((rd_T52 l j).f1) false _ L.out) ?_; rintro e w8 ⟨rfl, hb⟩; refine ⟨_, rfl, sh1_ (below_step (bl_ HB) hb) ?_⟩; clear HB hb; intro HB))
     go_roundg E
     case measure => have := z.out; omega
     case rel => exact ⟨(u), (wrap64 (j + 1)), (by first | rfl | (simp; done) | (simp [*]; done)), (by first | rfl | (simp; done) | (simp [*]; done)), H', ⟨by have := z.out; omega⟩, ⟨bl_ HB⟩⟩
   ·rw [if_neg c2] at H
    have a3 := decide_eq_false c2
    clear c2
    obtain rfl := Option.some.inj H
    go_wp2
    go_ret
    exact ⟨er_, bl_ HB⟩

/-! ### spec_InSpan: function 79 -/
def spec_InSpan.f (j l m : Int) : Option (Bool) := (spec_IsSpan.f j l).bind fun s => (if s = true then (if j ≤ m then (some (decide (m < l))) else (some false)) else (some false))
theorem spec_InSpan.calls (l s x : Int) (r : Bool) (w : World) (h : spec_InSpan.f l s x = some r) :
  Calls Tryz.prog 79 #[.agg #[iv_ l, iv_ s], iv_ x] w fun e w' => e = .returned (.bool r) ∧ Below w.heap.size w w' := by
 have M := Tryz.underlying52
 have HB := Aside0.mk (Below.refl w.heap.size w)
 have H := h
 clear h
 unfold spec_InSpan.f at H
 replace H := bs_ H
 obtain ⟨D, u, H⟩ := H
 by_cases c4 : D = true
 ·subst c4
  rw [if_pos rfl] at H
  by_cases c5 : l ≤ x
  ·rw [if_pos c5] at H
   have B := decide_eq_true c5
   clear c5
   obtain rfl := Option.some.inj H
   go_enter Tryz.func79, Tryz.ntmps79
   go_wp2_with (first | ((with_reducible refine gd_ 2 ?_); refine bx_ 2 52 #[iv_ l, iv_ s] ?_; intro z hg Y hbox hb; refine sh3_ (below_step (bl_ HB) hb) hbox (ge_ hg (bl_ HB)) ?_; clear HB hb hbox hg; intro HB j m; have J := cf2_ j) | ((with_reducible refine gate_callee (f := 44) rfl ?_); refine gl_ 6 Tryz.func44 (spec_IsSpan.calls l s true _ u.out) ?_; rintro e Z ⟨rfl, hb⟩; refine ⟨_, rfl, sh2_ (blk_below (bk_ j) hb) (below_step (bl1_ HB m) hb) ?_⟩; clear j HB hb; intro j HB; have L := cf2_ j))
   go_ret
   exact ⟨er_, bl1_ HB m⟩
  ·rw [if_neg c5] at H
   have B := decide_eq_false c5
   clear c5
   obtain rfl := Option.some.inj H
   go_enter Tryz.func79, Tryz.ntmps79
   go_wp2_with (first | ((with_reducible refine gd_ 2 ?_); refine bx_ 2 52 #[iv_ l, iv_ s] ?_; intro z hg O hbox hb; refine sh3_ (below_step (bl_ HB) hb) hbox (ge_ hg (bl_ HB)) ?_; clear HB hb hbox hg; intro HB j m; have E := cf2_ j) | ((with_reducible refine gate_callee (f := 44) rfl ?_); refine gl_ 6 Tryz.func44 (spec_IsSpan.calls l s true _ u.out) ?_; rintro e T ⟨rfl, hb⟩; refine ⟨_, rfl, sh2_ (blk_below (bk_ j) hb) (below_step (bl1_ HB m) hb) ?_⟩; clear j HB hb; intro j HB; have G := cf2_ j))
   go_ret
   exact ⟨er_, bl1_ HB m⟩
 ·replace c4 := Bool.eq_false_iff.mpr c4
  subst c4
  have y : (some false) = some r := by rw [if_neg (show ¬ (false = true) by decide)] at H; exact H
  clear H
  have H := y
  clear y
  obtain rfl := Option.some.inj H
  go_enter Tryz.func79, Tryz.ntmps79
  go_wp2_with (first | ((with_reducible refine gd_ 2 ?_); refine bx_ 2 52 #[iv_ l, iv_ s] ?_; intro z hg U hbox hb; refine sh3_ (below_step (bl_ HB) hb) hbox (ge_ hg (bl_ HB)) ?_; clear HB hb hbox hg; intro HB j m; have I := cf2_ j) | ((with_reducible refine gate_callee (f := 44) rfl ?_); refine gl_ 6 Tryz.func44 (spec_IsSpan.calls l s false _ u.out) ?_; rintro e X ⟨rfl, hb⟩; refine ⟨_, rfl, sh2_ (blk_below (bk_ j) hb) (below_step (bl1_ HB m) hb) ?_⟩; clear j HB hb; intro j HB))
  go_ret
  exact ⟨er_, bl1_ HB m⟩

/-! ### spec_InSpans: function 63 -/
def spec_InSpans.l0 : Nat → List S52 → Int → Int → Option (Bool)
 | 0, _, _, _ => none
 | k + 1, l, m, j => if j < (l.length : Int) then (if 0 ≤ j then ((spec_InSpan.f ((rd_T52 l j).f0) ((rd_T52 l j).f1) m).bind fun s => (if s = true then (some true) else (spec_InSpans.l0 k l m (wrap64 (j + 1))))) else (none)) else (some false)
def spec_InSpans.f (k : Nat) (l : List S52) (j : Int) : Option (Bool) := spec_InSpans.l0 k l j 0
theorem spec_InSpans.calls (k : Nat) (B : Option Addr) (J : Nat) (l : List S52) (u : Int) (r : Bool) (w : World) (M : Kd.C k52 w B l.length l) (L : l.length ≤ J) (h : spec_InSpans.f k l u = some r) :
  Calls Tryz.prog 63 #[.slice B l.length J, iv_ u] w fun e w' => e = .returned (.bool r) ∧ Below w.heap.size w w' := by
 have a2 := Tryz.underlying52
 have I := Aside0.mk M
 have Z := Aside0.mk L
 clear M L
 have HB := Aside0.mk (Below.refl w.heap.size w)
 have H := h
 clear h
 unfold spec_InSpans.f at H
 have H' := Aside0.mk H
 clear H
 go_enter Tryz.func63, Tryz.ntmps63
 go_wp2
 go_loopg [5] k (fun kq Y w' => ∃ (j : Int), Y = iv_ j ∧ Aside0 (spec_InSpans.l0 kq l u j = some r) ∧ Aside0 (kq ≤ k) ∧ Aside0 (Below w.heap.size w w'))
 case atStart => exact ⟨(0), (by first | rfl | (simp; done) | (simp [*]; done)), H', ⟨Nat.le_refl _⟩, ⟨bl_ HB⟩⟩
 case round =>
  clear H'
  obtain ⟨j, rfl, HA, G, HB⟩ := hrel
  cases gk with
  | zero => exact absurd HA.out (by simp [spec_InSpans.l0])
  | succ O =>
   have H := HA.out
   clear HA
   simp only [spec_InSpans.l0] at H
   by_cases c3 : j < (l.length : Int)
   ·rw [if_pos c3] at H
    have U := decide_eq_true c3
    clear c3
    replace H := ifn_ H
    obtain ⟨c4, H⟩ := H
    have a0 := decide_eq_true c4
    clear c4
    replace H := bs_ H
    obtain ⟨X, D, H⟩ := H
    by_cases c6 : X = true
    ·subst c6
     rw [if_pos rfl] at H
     obtain rfl := Option.some.inj H
     have m : 0 ≤ (j : Int) := od_
     have s : j < (l.length : Int) := od_
     obtain ⟨T, z, x, y⟩ := at_T52 I.out j m s
     cases z
     replace x := hbc_ HB x
     replace y := hbc_ HB y
     replace m := eq_true m
     replace s := eq_true s
     go_wp2_with (first | ((with_reducible refine gate_callee (f := 79) rfl ?_); refine gl_ 17 Tryz.func79 (spec_InSpan.calls ((rd_T52 l j).f0) ((rd_T52 l j).f1) u true _ D.out) ?_; rintro e w7 ⟨rfl, hb⟩; refine ⟨_, rfl, sh1_ (below_step (bl_ HB) hb) ?_⟩; clear HB hb; intro HB))
     go_ret
     exact ⟨er_, bl_ HB⟩
    ·replace c6 := Bool.eq_false_iff.mpr c6
     subst c6
     have E : (spec_InSpans.l0 O l u (wrap64 (j + 1))) = some r := by rw [if_neg (show ¬ (false = true) by decide)] at H; exact H
     clear H
     have H := E
     clear E
     have H' := Aside0.mk H
     clear H
     have m : 0 ≤ (j : Int) := od_
     have s : j < (l.length : Int) := od_
     obtain ⟨T, z, x, y⟩ := at_T52 I.out j m s
     cases z
     replace x := hbc_ HB x
     replace y := hbc_ HB y
     replace m := eq_true m
     replace s := eq_true s
     go_wp2_with (first | ((with_reducible refine gate_callee (f := 79) rfl ?_); refine gl_ 17 Tryz.func79 (spec_InSpan.calls ((rd_T52 l j).f0) ((rd_T52 l j).f1) u false _ D.out) ?_; rintro e w8 ⟨rfl, hb⟩; refine ⟨_, rfl, sh1_ (below_step (bl_ HB) hb) ?_⟩; clear HB hb; intro HB))
     go_roundg O
     case measure => have := G.out; omega
     case rel => exact ⟨(wrap64 (j + 1)), (by first | rfl | (simp; done) | (simp [*]; done)), H', ⟨by have := G.out; omega⟩, ⟨bl_ HB⟩⟩
   ·rw [if_neg c3] at H
    have U := decide_eq_false c3
    clear c3
    obtain rfl := Option.some.inj H
    go_wp2
    go_ret
    exact ⟨er_, bl_ HB⟩

/-! ### spec_l4Put: function 64 -/
def spec_l4Put.f (j : List S52) (l : Int) : Option (List S52) := if (j.length : Int) > 0 then (if 0 ≤ (wrap64 ((j.length : Int) - 1)) then (if (wrap64 ((j.length : Int) - 1)) < (j.length : Int) then (if ((rd_T52 j (wrap64 ((j.length : Int) - 1))).f1) = l then (some (j.set ((wrap64 ((j.length : Int) - 1)) : Int).toNat (⟨(rd_T52 j (wrap64 ((j.length : Int) - 1))).f0, wrap64 (l + 1)⟩ : S52))) else (if j.length < 8796093022208 then (some (j ++ [(⟨l, wrap64 (l + 1)⟩ : S52)])) else (none))) else (none)) else (none)) else (if j.length < 8796093022208 then (some (j ++ [(⟨l, wrap64 (l + 1)⟩ : S52)])) else (none))
theorem spec_l4Put.calls (x : Nat → Prop) (O : Value) (l : List S52) (m : Int) (r : List S52) (u w : World) (hB : Below u.heap.size u w) (e1 : Kd.R k52 52 w u.heap.size x O l) (h : spec_l4Put.f l m = some r) :
  Calls Tryz.prog 64 #[O, iv_ m] w fun e w' => ∃ b1 : Value, e = .returned (b1) ∧ Kd.R k52 52 w' u.heap.size (fun k_ => (x k_ ∨ w.heap.size ≤ k_)) b1 r ∧ Below u.heap.size u w' ∧ Kept w w' (fun k_ => x k_) := by
 have g0 := Tryz.underlying52
 have s := Aside0.mk (show Kd.R k52 52 w u.heap.size (fun k_ => (x k_ ∨ w.heap.size ≤ k_)) O l from Kd.R_mono e1 (fun k_ hk => (.inl hk)))
 have HK := Aside0.mk (Kept.refl w (fun k_ => x k_))
 have e8 := Aside0.mk hB.size
 have HB := Aside0.mk hB
 clear hB
 have H := h
 clear h
 unfold spec_l4Put.f at H
 by_cases c3 : (l.length : Int) > 0
 ·rw [if_pos c3] at H
  have c1 : decide (0 < (l.length : Int)) = true := decide_eq_true c3
  have d0 : decide (0 < l.length) = true := decide_eq_true (by omega)
  clear c3
  obtain ⟨ji4, hji4⟩ : ∃ j_ : Int, (wrap64 ((l.length : Int) - 1)) = j_ := ⟨_, rfl⟩
  replace H : (if 0 ≤ (ji4) then (if (ji4) < (l.length : Int) then (if ((rd_T52 l (ji4)).f1) = m then (some (l.set ((ji4) : Int).toNat (⟨(rd_T52 l (ji4)).f0, wrap64 (m + 1)⟩ : S52))) else (if l.length < 8796093022208 then (some (l ++ [(⟨m, wrap64 (m + 1)⟩ : S52)])) else (none))) else (none)) else (none)) = some r := by first | (rw [hji4] at H; exact H) | (simp only [hji4] at H ⊢; exact H)
  have f9 : (IntKind.i64.wrap ((l.length : Int) - 1)) = ji4 := (i64_w _).trans hji4
  replace H := ifn_ H
  obtain ⟨c5, H⟩ := H
  have e9 := decide_eq_true c5
  clear c5
  replace H := ifn_ H
  obtain ⟨c6, H⟩ := H
  have f2 := decide_eq_true c6
  clear c6
  by_cases c7 : ((rd_T52 l (ji4)).f1) = m
  ·rw [if_pos c7] at H
   obtain ⟨d1, d2⟩ := bt_ c7
   clear c7
   replace H : ∃ y_ : List S52, Aside0 (y_ = (l.set ((ji4) : Int).toNat (⟨(rd_T52 l (ji4)).f0, wrap64 (m + 1)⟩ : S52))) ∧ (some y_) = some r := ⟨_, ⟨rfl⟩, yh_ H⟩
   obtain ⟨e3, b8, H⟩ := H
   obtain rfl := Option.some.inj H
   obtain ⟨e5, a2, d7⟩ := Kd.R_slice s.out
   subst d7
   have z : 0 ≤ ((ji4) : Int) := od_
   have B : (ji4) < (l.length : Int) := od_
   obtain ⟨Y, E, a9, b0⟩ := at_T52 (Kd.R_reads' s.out).2.2 (ji4) z B
   cases E
   replace z := eq_true z
   replace B := eq_true B
   have L : 0 ≤ ((ji4) : Int) := od_
   have M : ((ji4) : Int) < ((l.length : Int) : Int) := od_
   obtain ⟨y, f6, a3, a4, d8, f5, U⟩ := Kd.R_form s.out (by omega)
   (first | cases a3 | (injection a3 with ea_ en_ ec_; (first | subst ea_ | (injection ea_ with ea_; subst ea_)); subst ec_; clear en_))
   have b3 := Aside0.mk a4
   have e6 := Aside0.mk U
   clear a4 d8 U
   have e7 := Aside0.mk (show (x y ∨ w.heap.size ≤ y) from (s.out.1 _ rfl))
   (first | simp only [add_plain] at a9 | skip)
   (first | simp only [add_plain] at b0 | skip)
   obtain ⟨f4, d9, a6, I, J⟩ := Kd.R_elem s.out z52 ((ji4) : Int) L M
   obtain rfl := k52_openM a6
   have g1 : w.cell? ⟨y, ((ji4) : Int).toNat * 2, none⟩ = some (iv_ ((rd_T52 l (ji4)).f0)) := I 0 _ rfl
   have g2 : w.cell? ⟨y, ((ji4) : Int).toNat * 2 + 1, none⟩ = some (iv_ ((rd_T52 l (ji4)).f1)) := I 1 _ rfl
   have f7 : w.frozen? ⟨y, ((ji4) : Int).toNat * 2, none⟩ = false := J 0
   have f8 : w.frozen? ⟨y, ((ji4) : Int).toNat * 2 + 1, none⟩ = false := J 1
   clear d9 I J a6
   replace L := eq_true L
   replace M := eq_true M
   have X := Aside0.mk (show Kd.R k52 52 w u.heap.size (fun k_ => (x k_ ∨ w.heap.size ≤ k_)) (.slice (some ⟨y, 0, none⟩) l.length a2) l from (ra_ s))
   obtain ⟨f3, a7, a5, G, a8⟩ := Kd.R_elem X.out z52 ((ji4) : Int) od_ (by have h_ : ((ji4) : Int) < ((l.length : Int) : Int) := od_; first | exact h_ | (have e_ := (Kd.R_reads' s.out).1; omega) | simpa using h_)
   obtain rfl := k52_openM a5
   have D := Kd.R_seg X.out ((ji4) : Int) od_ (by have h_ : ((ji4) : Int) < ((l.length : Int) : Int) := od_; first | exact h_ | (have e_ := (Kd.R_reads' s.out).1; omega) | simpa using h_) (seg := [iv_ (wrap64 (m + 1))]) (j := 1) a7 G (show 2 ≤ 2 from by decide) (x' := (⟨(rd_T52 l (ji4)).f0, wrap64 (m + 1)⟩ : S52)) (k52_mkM _ _ _ (⟨(rd_T52 l (ji4)).f0, wrap64 (m + 1)⟩ : S52) ) (fun _ hk => hk)
   have e2 := G 1 _ rfl
   (try simp only [show (k52).sz = 2 from rfl, Nat.mul_one, Nat.add_zero] at e2)
   have e0 := a8 1
   (try simp only [show (k52).sz = 2 from rfl, Nat.mul_one, Nat.add_zero] at e0)
   clear a7 G a8 a5
   go_enter Tryz.func64, Tryz.ntmps64
   go_wp2_with (first | ((with_reducible refine gate_store (t := 3) (p := 26) rfl ?_); refine store_event (t := 3) (p := 26) (v := ?vo_w11) (w1 := (w.setCell ⟨y, ((ji4) : Int).toNat * 2 + 1, none⟩ (iv_ (wrap64 (m + 1))))) ?hg ?ho ?hn ?hr ?_; (case ho => rfl); (case hg => rfl); (case hn => rfl); (case hr => first | (go_simp; done) | (go_simp; rfl)); intro T hw; have hg : w.grownBy T (some y) := (by rw [hw]; exact D.2); have hp_ : Kd.R k52 52 T u.heap.size (fun k_ => (x k_ ∨ w.heap.size ≤ k_)) (.slice (some ⟨y, 0, none⟩) l.length a2) e3 := (by rw [hw, b8.out]; exact D.1); clear D; refine sh3_ hp_ ((by rw [hw]; exact below_set (HB.out) b3.out : Below u.heap.size u T)) (Kept.of_grown (S := (fun k_ => x k_)) hg (by repeat (first | (with_reducible first | exact HK.out | apply Kept.alloc | apply Kept.drewN | apply Kept.drew) | exact HK.out)) (fun k_ e_ => (s.out.1 k_ e_))) ?_; clear s HB HK; intro s HB HK; clear hg hw hp_))
   go_ret
   exact ⟨_, by first | rfl | (simp [errW_none, errW_some] <;> rfl) | (simp only [← hji4]; first | rfl | (simp [errW_none, errW_some] <;> rfl)) | (simp [*, errW_none, errW_some] <;> rfl), ra_ s, bl_ HB, by repeat (first | (with_reducible first | exact HK.out | apply Kept.alloc | apply Kept.drewN | apply Kept.drew) | exact HK.out)⟩
  ·rw [if_neg c7] at H
   obtain ⟨d1, d2⟩ := bn_ c7
   replace H := ifn_ H
   obtain ⟨Z, H⟩ := H
   have b6 := Aside0.mk Z
   clear Z
   replace H : ∃ y_ : List S52, Aside0 (y_ = (l ++ [(⟨m, wrap64 (m + 1)⟩ : S52)])) ∧ (some y_) = some r := ⟨_, ⟨rfl⟩, yh_ H⟩
   obtain ⟨g7, b9, H⟩ := H
   obtain rfl := Option.some.inj H
   obtain ⟨e4, d3, d5⟩ := Kd.R_slice s.out
   subst d5
   have z : 0 ≤ ((ji4) : Int) := od_
   have B : (ji4) < (l.length : Int) := od_
   obtain ⟨Y, E, a9, b0⟩ := at_T52 (Kd.R_reads' s.out).2.2 (ji4) z B
   cases E
   replace z := eq_true z
   replace B := eq_true B
   go_enter Tryz.func64, Tryz.ntmps64
   go_wp2_with (first | ((with_reducible refine gate_builtin (b := .append) (xs := #[.tmp 28, .tmp 33]) rfl ?_); (try (refine gate_guard (by rfl) ?_; dsimp only)); at_builtin; refine Kd.R_append k52 (w0 := u) u.heap.size rfl (.tmp 28) (.tmp 33) 47 52 (.agg #[(iv_ 0), (iv_ 0)]) 16 rfl Tryz.underlying47 info52 rfl (by decide) (by omega) (.slice (some Y) l.length d3) l (⟨m, wrap64 (m + 1)⟩ : S52) [iv_ m, iv_ (wrap64 (m + 1))] (fun k_ => (x k_ ∨ w.heap.size ≤ k_)) (fun _ => False) rfl rfl ?aP (fun _ hk => hk.elim) ?aF ?aO ?aB ?aS ?aL ?_; (case aP => exact k52_mkM _ _ _ (⟨m, wrap64 (m + 1)⟩ : S52)); (case aB => exact (bl_ HB)); (case aF => exact (fun k_ hk => (.inr (Nat.le_trans (by first | exact HK.out.1 | exact (show Kept w _ (fun k_ => x k_) from by repeat (first | (with_reducible first | exact HK.out | apply Kept.alloc | apply Kept.drewN | apply Kept.drew) | exact HK.out)).1) hk)))); (case aO => exact (ra_ s)); (case aS => exact (below_size (bl_ HB))); (case aL => have := b6.out; omega); intro g3 g5 ho hb hg hat; rw [← b9.out] at ho; refine sh3_ hb (Kept.of_grown (S := (fun k_ => x k_)) hg (by repeat (first | (with_reducible first | exact HK.out | apply Kept.alloc | apply Kept.drewN | apply Kept.drew) | exact HK.out)) (fun k_ e_ => (s.out.1 k_ e_))) ho ?_; clear HB HK s ho hb hg hat; intro HB HK b4))
   go_ret
   exact ⟨_, by first | rfl | (simp [errW_none, errW_some] <;> rfl) | (simp only [← hji4]; first | rfl | (simp [errW_none, errW_some] <;> rfl)) | (simp [*, errW_none, errW_some] <;> rfl), ra_ b4, bl_ HB, by repeat (first | (with_reducible first | exact HK.out | apply Kept.alloc | apply Kept.drewN | apply Kept.drew) | exact HK.out)⟩
 ·rw [if_neg c3] at H
  have c1 : decide (0 < (l.length : Int)) = false := decide_eq_false c3
  have d0 : decide (0 < l.length) = false := decide_eq_false (by omega)
  clear c3
  replace H := ifn_ H
  obtain ⟨a0, H⟩ := H
  have b7 := Aside0.mk a0
  clear a0
  replace H : ∃ y_ : List S52, Aside0 (y_ = (l ++ [(⟨m, wrap64 (m + 1)⟩ : S52)])) ∧ (some y_) = some r := ⟨_, ⟨rfl⟩, yh_ H⟩
  obtain ⟨g8, c0, H⟩ := H
  obtain rfl := Option.some.inj H
  obtain ⟨b2, d4, d6⟩ := Kd.R_slice s.out
  subst d6
  go_enter Tryz.func64, Tryz.ntmps64
  go_wp2_with (first | ((with_reducible refine gate_builtin (b := .append) (xs := #[.tmp 28, .tmp 33]) rfl ?_); (try (refine gate_guard (by rfl) ?_; dsimp only)); at_builtin; refine Kd.R_append k52 (w0 := u) u.heap.size rfl (.tmp 28) (.tmp 33) 47 52 (.agg #[(iv_ 0), (iv_ 0)]) 16 rfl Tryz.underlying47 info52 rfl (by decide) (by omega) (.slice b2 l.length d4) l (⟨m, wrap64 (m + 1)⟩ : S52) [iv_ m, iv_ (wrap64 (m + 1))] (fun k_ => (x k_ ∨ w.heap.size ≤ k_)) (fun _ => False) rfl rfl ?aP (fun _ hk => hk.elim) ?aF ?aO ?aB ?aS ?aL ?_; (case aP => exact k52_mkM _ _ _ (⟨m, wrap64 (m + 1)⟩ : S52)); (case aB => exact (bl_ HB)); (case aF => exact (fun k_ hk => (.inr (Nat.le_trans (by first | exact HK.out.1 | exact (show Kept w _ (fun k_ => x k_) from by repeat (first | (with_reducible first | exact HK.out | apply Kept.alloc | apply Kept.drewN | apply Kept.drew) | exact HK.out)).1) hk)))); (case aO => exact (ra_ s)); (case aS => exact (below_size (bl_ HB))); (case aL => have := b7.out; omega); intro g4 g6 ho hb hg hat; rw [← c0.out] at ho; refine sh3_ hb (Kept.of_grown (S := (fun k_ => x k_)) hg (by repeat (first | (with_reducible first | exact HK.out | apply Kept.alloc | apply Kept.drewN | apply Kept.drew) | exact HK.out)) (fun k_ e_ => (s.out.1 k_ e_))) ho ?_; clear HB HK s ho hb hg hat; intro HB HK b5))
  go_ret
  exact ⟨_, er_, ra_ b5, bl_ HB, by repeat (first | (with_reducible first | exact HK.out | apply Kept.alloc | apply Kept.drewN | apply Kept.drew) | exact HK.out)⟩

/-! ### spec_JoinSpans: function 43 -/
def spec_JoinSpans.l0 : Nat → List S52 → List S52 → Int → Int → Option (List S52)
 | 0, _, _, _, _ => none
 | k + 1, l, m, s, j => if j < s then ((spec_InSpans.f k l j).bind fun u => (if u = true then ((spec_l4Put.f m j).bind fun x => (spec_JoinSpans.l0 k l x s (wrap64 (j + 1)))) else (spec_JoinSpans.l0 k l m s (wrap64 (j + 1))))) else (some m)
def spec_JoinSpans.f (k : Nat) (j : List S52) : Option (List S52) := (spec_l4Last.f k j).bind fun l => (spec_JoinSpans.l0 k j (([] : List S52)) l 0)
theorem spec_JoinSpans.calls (k : Nat) (J : Option Addr) (T : Nat) (j r : List S52) (w : World) (Y : Kd.C k52 w J j.length j) (U : j.length ≤ T) (h : spec_JoinSpans.f k j = some r) :
  Calls Tryz.prog 43 #[.slice J j.length T] w fun e w' => ∃ a0 : Value, e = .returned (a0) ∧ Kd.R k52 52 w' w.heap.size (fun _ => True) a0 r ∧ Below w.heap.size w w' := by
 have G := Aside0.mk Y
 have E := Aside0.mk U
 clear Y U
 have HB := Aside0.mk (Below.refl w.heap.size w)
 have H := h
 clear h
 unfold spec_JoinSpans.f at H
 replace H : ∃ y_ : List S52, Aside0 (y_ = (([] : List S52))) ∧ ((spec_l4Last.f k j).bind fun u => (spec_JoinSpans.l0 k j y_ u 0)) = some r := ⟨_, ⟨rfl⟩, yh_ H⟩
 obtain ⟨a9, O, H⟩ := H
 replace H := bs_ H
 obtain ⟨u, A2, H⟩ := H
 have H' := Aside0.mk H
 clear H
 go_enter Tryz.func43, Tryz.ntmps43
 go_wp2_with (first | ((with_reducible refine gate_dst (N := 6) rfl ?_); refine Kd.R_lit k52 _ 52 ?hg (N := 6) ?hd (xs := ([] : List S52)) (inner := []) (ok := fun _ => True) (okp := fun _ => True) ?hr ?hp (fun _ hk => hk) trivial (Below.refl _ _) (Nat.le_refl _) (by simp) ?_; (case hd => rfl); (case hg => rfl); (case hr => first | (go_simp; done) | (go_simp; rfl)); (case hp => exact (Reps.none _ _)); intro b0 w3 x hb hg_ hnew_; clear hg_ hnew_; (first | rw [← O.out] at x | (simp only [Int.reduceToNat] at x; rw [← O.out] at x)); refine sh2_ (Kd.R_lower x (below_size (bl_ HB))) (below_step (bl_ HB) hb) ?_; clear HB hb x; intro B HB) | ((with_reducible refine gate_callee (f := 62) rfl ?_); refine gl_ 8 Tryz.func62 (spec_l4Last.calls k _ _ j u _ (ck_ G HB) E.out A2.out) ?_; rintro e w5 ⟨rfl, hb⟩; refine ⟨_, rfl, sh2_ (Kd.R_below (ra_ B) hb) (below_step (bl_ HB) hb) ?_⟩; clear B HB hb; intro B HB))
 go_loopg [3, 5] k (fun kq v3 v5 w' => ∃ (s : List S52) (m : Int), v5 = iv_ m ∧ Aside0 (spec_JoinSpans.l0 kq j s u m = some r) ∧ Aside0 (kq ≤ k) ∧ Aside0 (Kd.R k52 52 w' w.heap.size (fun _ => True) v3 s) ∧ Aside0 (Below w.heap.size w w'))
 case atStart => exact ⟨(a9), (0), (by first | rfl | (simp; done) | (simp [*]; done)), H', ⟨Nat.le_refl _⟩, ⟨ra_ B⟩, ⟨bl_ HB⟩⟩
 case round =>
  clear H'
  obtain ⟨s, m, rfl, HA, z, l, HB⟩ := hrel
  cases gk with
  | zero => exact absurd HA.out (by simp [spec_JoinSpans.l0])
  | succ y =>
   have H := HA.out
   clear HA
   simp only [spec_JoinSpans.l0] at H
   by_cases c6 : m < u
   ·rw [if_pos c6] at H
    have a4 := decide_eq_true c6
    clear c6
    replace H := bs_ H
    obtain ⟨a6, L, H⟩ := H
    by_cases c8 : a6 = true
    ·subst c8
     rw [if_pos rfl] at H
     replace H := bs_ H
     obtain ⟨Z, A9, H⟩ := H
     have H' := Aside0.mk H
     clear H
     go_wp2_with (first | ((with_reducible refine gate_callee (f := 63) rfl ?_); refine gl_ 16 Tryz.func63 (spec_InSpans.calls y _ _ j m true _ (ck_ G HB) E.out L.out) ?_; rintro e b2 ⟨rfl, hb⟩; refine ⟨_, rfl, sh2_ (Kd.R_below (ra_ l) hb) (below_step (bl_ HB) hb) ?_⟩; clear l HB hb; intro l HB; obtain ⟨D, I, a5⟩ := Kd.R_slice l.out; subst a5) | ((with_reducible refine gate_callee (f := 64) rfl ?_); refine goesL_ (some 19) rfl rfl Tryz.func64 (by kernel_rfl) rfl #[.slice D s.length I, iv_ m] rfl mp_ ?_; (with_reducible refine (spec_l4Put.calls (fun k_ => some k_ = (.slice D s.length I : Value).ownBlock) (.slice D s.length I) s m Z w _ ?side1 ?side2 A9.out).mono ?_); (case side1 => repeat (first | (with_reducible first | exact HB.out | apply below_alloc | apply pw_below_drewN | apply below_drew1) | exact HB.out)); (case side2 => exact Kd.R_tight rfl l.out); rintro e b3 ⟨b1, rfl, X, hb, hkp⟩; refine ⟨_, rfl, sh2_ (Kd.R_mono (ok' := fun k_ => True) X (fun k_ hk_ => trivial)) hb ?_⟩; clear HB l hb hkp X; intro a3 HB))
     go_roundg y
     case measure => have := z.out; omega
     case rel => exact ⟨(Z), (wrap64 (m + 1)), (by first | rfl | (simp; done) | (simp [*]; done)), H', ⟨by have := z.out; omega⟩, ⟨ra_ a3⟩, ⟨bl_ HB⟩⟩
    ·replace c8 := Bool.eq_false_iff.mpr c8
     subst c8
     have M : (spec_JoinSpans.l0 y j s u (wrap64 (m + 1))) = some r := by rw [if_neg (show ¬ (false = true) by decide)] at H; exact H
     clear H
     have H := M
     clear M
     have H' := Aside0.mk H
     clear H
     go_wp2_with (first | ((with_reducible refine gate_callee (f := 63) rfl ?_); refine gl_ 16 Tryz.func63 (spec_InSpans.calls y _ _ j m false _ (ck_ G HB) E.out L.out) ?_; rintro e b4 ⟨rfl, hb⟩; refine ⟨_, rfl, sh2_ (Kd.R_below (ra_ l) hb) (below_step (bl_ HB) hb) ?_⟩; clear l HB hb; intro l HB))
     go_roundg y
     case measure => have := z.out; omega
     case rel => exact ⟨(s), (wrap64 (m + 1)), (by first | rfl | (simp; done) | (simp [*]; done)), H', ⟨by have := z.out; omega⟩, ⟨ra_ l⟩, ⟨bl_ HB⟩⟩
   ·rw [if_neg c6] at H
    have a4 := decide_eq_false c6
    clear c6
    obtain rfl := Option.some.inj H
    go_wp2
    go_ret
    exact ⟨_, er_, ra_ l, bl_ HB⟩

end Go.Proofs.YtpjhdehbikohmaaGreat.PFnExactPlanOf
