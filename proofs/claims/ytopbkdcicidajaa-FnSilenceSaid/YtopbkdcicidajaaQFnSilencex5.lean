-- Written by a program of this session for this claim (the kit's printer with changes).
import Derived.Test.YtopbkdcicidajaaQFnSilencex0
import Derived.Test.YtopbkdcicidajaaQFnSilencex4
namespace Go.Proofs.Ytopbkdcicidajaa.PFnSilence
open Go.RowKit Go.Proofs.YtopbkdcicidajaaW.PrintWords Go.Proofs.YtopbkdcicidajaaW.PrintLast Go.Proofs.YtopbkdcicidajaaW.PrintMore
attribute [local go_sem] max2_int min2_int max_two min_two max_three min_three max_four min_four   -- for this text's walks alone
set_option linter.unusedVariables false
set_option maxHeartbeats 8000000
set_option maxRecDepth 100000
set_option linter.unusedSimpArgs false

/-! ### impl_IsSure: function 12 -/
def impl_IsSure.f (k : Nat) (j : Int) (E : List S72) (G : List S74) (l m s u x : Int) (I : List S88) (y z B D : Int) : Option (Bool) := (impl_SightAt.f k j E G l m s u x I y z B D).bind fun J => (some (J == 2))
theorem impl_IsSure.calls (k : Nat) (u : Int) (G : Option Addr) (T : Nat) (j : List S72) (I : Option Addr) (U : Nat) (l : List S74) (x y z B D : Int) (J : Option Addr) (X : Nat) (m : List S88) (E L M O : Int) (r : Bool) (w : World) (a5 : Kd.C k72 w G j.length j) (Z : j.length ≤ T) (a6 : Kd.C k74 w I l.length l) (a0 : l.length ≤ U) (a7 : Kd.C k88 w J m.length m) (a4 : m.length ≤ X) (h : impl_IsSure.f k u j l x y z B D m E L M O = some r) :
  Calls Try.prog 12 #[.agg #[iv_ u, .slice G j.length T, .slice I l.length U, iv_ x, iv_ y, iv_ z, iv_ B, iv_ D, .slice J m.length X, iv_ E], iv_ L, iv_ M, iv_ O] w fun e w' => e = .returned (.bool r) ∧ Below w.heap.size w w' := by
 have b8 := Try.underlying28
 have b2 := Aside0.mk a5
 have a9 := Aside0.mk Z
 clear a5 Z
 have b3 := Aside0.mk a6
 have b0 := Aside0.mk a0
 clear a6 a0
 have b4 := Aside0.mk a7
 have b1 := Aside0.mk a4
 clear a7 a4
 have HB := Aside0.mk (Below.refl w.heap.size w)
 have H := h
 clear h
 unfold impl_IsSure.f at H
 replace H := bs_ H
 obtain ⟨b5, A5, H⟩ := H
 obtain rfl := Option.some.inj H
 go_enter Try.func12, Try.ntmps12
 go_wp2_with (first | ((with_reducible refine gd_ 4 ?_); refine bx_ 4 28 #[iv_ u, .slice G j.length T, .slice I l.length U, iv_ x, iv_ y, iv_ z, iv_ B, iv_ D, .slice J m.length X, iv_ E] ?_; intro b6 hg w6 hbox hb; refine sh3_ (below_step (bl_ HB) hb) hbox (ge_ hg (bl_ HB)) ?_; clear HB hb hbox hg; intro HB s Y; have b7 := cf10_ s) | ((with_reducible refine gate_callee (f := 10) rfl ?_); refine gl_ 13 Try.func10 (impl_SightAt.calls k u _ _ j _ _ l x y z B D _ _ m E L M O b5 _ (ck_ b2 HB) a9.out (ck_ b3 HB) b0.out (ck_ b4 HB) b1.out A5.out) ?_; rintro e w8 ⟨rfl, hb⟩; refine ⟨_, rfl, sh2_ (blk_below (bk_ s) hb) (below_step (bl1_ HB Y) hb) ?_⟩; clear s HB hb; intro s HB))
 go_ret
 exact ⟨by first | (rw [hRT_.out]; rfl) | exact er_, bl1_ HB Y⟩

/-! ### impl_IsSpan: function 99 -/
def impl_IsSpan.f (j l : Int) : Option (Bool) := if j ≥ 0 then (if l ≤ 1000 then (some (decide (j < l))) else (some false)) else (some false)
theorem impl_IsSpan.calls (j l : Int) (r : Bool) (w : World) (h : impl_IsSpan.f j l = some r) :
  Calls Try.prog 99 #[.agg #[iv_ j, iv_ l]] w fun e w' => e = .returned (.bool r) ∧ Below w.heap.size w w' := by
 have E := Try.underlying82
 have HB := Aside0.mk (Below.refl w.heap.size w)
 have H := h
 clear h
 unfold impl_IsSpan.f at H
 by_cases c2 : j ≥ 0
 ·rw [if_pos c2] at H
  have x : decide (0 ≤ j) = true := decide_eq_true c2
  clear c2
  by_cases c3 : l ≤ 1000
  ·rw [if_pos c3] at H
   have y := decide_eq_true c3
   clear c3
   obtain rfl := Option.some.inj H
   go_enter Try.func99, Try.ntmps99
   go_wp2_with (first | ((with_reducible refine gd_ 1 ?_); refine bx_ 1 82 #[iv_ j, iv_ l] ?_; intro u hg G hbox hb; refine sh3_ (below_step (bl_ HB) hb) hbox (ge_ hg (bl_ HB)) ?_; clear HB hb hbox hg; intro HB m s; have z := cf2_ m))
   go_ret
   exact ⟨by first | (rw [hRT_.out]; rfl) | exact er_, bl1_ HB s⟩
  ·rw [if_neg c3] at H
   have y := decide_eq_false c3
   clear c3
   obtain rfl := Option.some.inj H
   go_enter Try.func99, Try.ntmps99
   go_wp2_with (first | ((with_reducible refine gd_ 1 ?_); refine bx_ 1 82 #[iv_ j, iv_ l] ?_; intro u hg I hbox hb; refine sh3_ (below_step (bl_ HB) hb) hbox (ge_ hg (bl_ HB)) ?_; clear HB hb hbox hg; intro HB m s; have B := cf2_ m))
   go_ret
   exact ⟨by first | (rw [hRT_.out]; rfl) | exact er_, bl1_ HB s⟩
 ·rw [if_neg c2] at H
  have x : decide (0 ≤ j) = false := decide_eq_false c2
  clear c2
  obtain rfl := Option.some.inj H
  go_enter Try.func99, Try.ntmps99
  go_wp2_with (first | ((with_reducible refine gd_ 1 ?_); refine bx_ 1 82 #[iv_ j, iv_ l] ?_; intro u hg J hbox hb; refine sh3_ (below_step (bl_ HB) hb) hbox (ge_ hg (bl_ HB)) ?_; clear HB hb hbox hg; intro HB m s; have D := cf2_ m))
  go_ret
  exact ⟨by first | (rw [hRT_.out]; rfl) | exact er_, bl1_ HB s⟩

/-! ### impl_InSpan: function 63 -/
def impl_InSpan.f (j l m : Int) : Option (Bool) := (impl_IsSpan.f j l).bind fun s => (if s = true then (if j ≤ m then (some (decide (m < l))) else (some false)) else (some false))
theorem impl_InSpan.calls (l s x : Int) (r : Bool) (w : World) (h : impl_InSpan.f l s x = some r) :
  Calls Try.prog 63 #[.agg #[iv_ l, iv_ s], iv_ x] w fun e w' => e = .returned (.bool r) ∧ Below w.heap.size w w' := by
 have M := Try.underlying82
 have HB := Aside0.mk (Below.refl w.heap.size w)
 have H := h
 clear h
 unfold impl_InSpan.f at H
 replace H := bs_ H
 obtain ⟨D, u, H⟩ := H
 by_cases c4 : D = true
 ·subst c4
  rw [if_pos rfl] at H
  by_cases c5 : l ≤ x
  ·rw [if_pos c5] at H
   have B := decide_eq_true c5
   clear c5
   obtain rfl := Option.some.inj H
   go_enter Try.func63, Try.ntmps63
   go_wp2_with (first | ((with_reducible refine gd_ 2 ?_); refine bx_ 2 82 #[iv_ l, iv_ s] ?_; intro z hg Y hbox hb; refine sh3_ (below_step (bl_ HB) hb) hbox (ge_ hg (bl_ HB)) ?_; clear HB hb hbox hg; intro HB j m; have J := cf2_ j) | ((with_reducible refine gate_callee (f := 99) rfl ?_); refine gl_ 6 Try.func99 (impl_IsSpan.calls l s true _ u.out) ?_; rintro e Z ⟨rfl, hb⟩; refine ⟨_, rfl, sh2_ (blk_below (bk_ j) hb) (below_step (bl1_ HB m) hb) ?_⟩; clear j HB hb; intro j HB; have L := cf2_ j))
   go_ret
   exact ⟨by first | (rw [hRT_.out]; rfl) | exact er_, bl1_ HB m⟩
  ·rw [if_neg c5] at H
   have B := decide_eq_false c5
   clear c5
   obtain rfl := Option.some.inj H
   go_enter Try.func63, Try.ntmps63
   go_wp2_with (first | ((with_reducible refine gd_ 2 ?_); refine bx_ 2 82 #[iv_ l, iv_ s] ?_; intro z hg O hbox hb; refine sh3_ (below_step (bl_ HB) hb) hbox (ge_ hg (bl_ HB)) ?_; clear HB hb hbox hg; intro HB j m; have E := cf2_ j) | ((with_reducible refine gate_callee (f := 99) rfl ?_); refine gl_ 6 Try.func99 (impl_IsSpan.calls l s true _ u.out) ?_; rintro e T ⟨rfl, hb⟩; refine ⟨_, rfl, sh2_ (blk_below (bk_ j) hb) (below_step (bl1_ HB m) hb) ?_⟩; clear j HB hb; intro j HB; have G := cf2_ j))
   go_ret
   exact ⟨by first | (rw [hRT_.out]; rfl) | exact er_, bl1_ HB m⟩
 ·replace c4 := Bool.eq_false_iff.mpr c4
  subst c4
  have y : (some false) = some r := by rw [if_neg (show ¬ (false = true) by decide)] at H; exact H
  clear H
  have H := y
  clear y
  obtain rfl := Option.some.inj H
  go_enter Try.func63, Try.ntmps63
  go_wp2_with (first | ((with_reducible refine gd_ 2 ?_); refine bx_ 2 82 #[iv_ l, iv_ s] ?_; intro z hg U hbox hb; refine sh3_ (below_step (bl_ HB) hb) hbox (ge_ hg (bl_ HB)) ?_; clear HB hb hbox hg; intro HB j m; have I := cf2_ j) | ((with_reducible refine gate_callee (f := 99) rfl ?_); refine gl_ 6 Try.func99 (impl_IsSpan.calls l s false _ u.out) ?_; rintro e X ⟨rfl, hb⟩; refine ⟨_, rfl, sh2_ (blk_below (bk_ j) hb) (below_step (bl1_ HB m) hb) ?_⟩; clear j HB hb; intro j HB))
  go_ret
  exact ⟨by first | (rw [hRT_.out]; rfl) | exact er_, bl1_ HB m⟩

/-! ### impl_InSpans: function 17 -/
def impl_InSpans.l0 : Nat → Int → List S82 → Int → Int → Option (Bool)
 | 0, _, _, _, _ => none
 | k + 1, m, l, s, j => if j < s then (if 0 ≤ j then (if j < (l.length : Int) then ((impl_InSpan.f ((rd_T82 l j).f0) ((rd_T82 l j).f1) m).bind fun u => (if u = true then (some true) else (impl_InSpans.l0 k m l s (wrap64 (j + 1))))) else (none)) else (none)) else (some false)
def impl_InSpans.f (k : Nat) (j : List S82) (l : Int) : Option (Bool) := impl_InSpans.l0 k l j (j.length : Int) 0
theorem impl_InSpans.calls (k : Nat) (G : Option Addr) (O : Nat) (j : List S82) (x : Int) (r : Bool) (w : World) (U : Kd.C k82 w G j.length j) (T : j.length ≤ O) (h : impl_InSpans.f k j x = some r) :
  Calls Try.prog 17 #[.slice G j.length O, iv_ x] w fun e w' => e = .returned (.bool r) ∧ Below w.heap.size w w' := by
 have a8 := Try.underlying82
 have M := Aside0.mk U
 have a3 := Aside0.mk T
 clear U T
 have HB := Aside0.mk (Below.refl w.heap.size w)
 have H := h
 clear h
 unfold impl_InSpans.f at H
 have H' := Aside0.mk H
 clear H
 go_enter Try.func17, Try.ntmps17
 go_wp2
 go_loopg [9] k (fun kq v9 w' => ∃ (l : Int), v9 = iv_ l ∧ Aside0 (impl_InSpans.l0 kq x j (j.length : Int) l = some r) ∧ Aside0 (kq ≤ k) ∧ Aside0 (Below w.heap.size w w'))
 case atStart => exact ⟨(0), (by first | rfl | (simp; done) | (simp [*]; done)), H', ⟨Nat.le_refl _⟩, ⟨bl_ HB⟩⟩
 case round =>
  clear H'
  obtain ⟨l, rfl, HA, L, HB⟩ := hrel
  cases gk with
  | zero => exact absurd HA.out (by simp [impl_InSpans.l0])
  | succ X =>
   have H := HA.out
   clear HA
   simp only [impl_InSpans.l0] at H
   by_cases c3 : l < (j.length : Int)
   ·rw [if_pos c3] at H
    have Z := decide_eq_true c3
    clear c3
    replace H := ifn_ H
    obtain ⟨c4, H⟩ := H
    have a4 := decide_eq_true c4
    clear c4
    replace H := ifn_ H
    obtain ⟨c5, H⟩ := H
    have a5 := decide_eq_true c5
    clear c5
    replace H := bs_ H
    obtain ⟨a0, I, H⟩ := H
    by_cases c7 : a0 = true
    ·subst c7
     rw [if_pos rfl] at H
     obtain rfl := Option.some.inj H
     have s : 0 ≤ (l : Int) := od_
     have u : l < (j.length : Int) := od_
     obtain ⟨Y, D, z, B⟩ := at_T82 M.out l s u
     cases D
     replace z := hbc_ HB z
     replace B := hbc_ HB B
     replace s := eq_true s
     replace u := eq_true u
     go_wp2_with (first | ((with_reducible refine gd_ 6 ?_); refine bx_ 6 82 #[iv_ 0, iv_ 0] ?_; intro E hg w8 hbox hb; refine sh3_ (below_step (bl_ HB) hb) hbox (ge_ hg (bl_ HB)) ?_; clear HB hb hbox hg; intro HB m y; have a7 := cf2_ m) | ((with_reducible refine gate_callee (f := 63) rfl ?_); refine gl_ 15 Try.func63 (impl_InSpan.calls ((rd_T82 j l).f0) ((rd_T82 j l).f1) x true _ I.out) ?_; rintro e a9 ⟨rfl, hb⟩; refine ⟨_, rfl, sh2_ (blk_below (g := E) (o := .cells #[iv_ ((rd_T82 j l).f0), iv_ ((rd_T82 j l).f1)] 82 (0, 0)) (bp_ m) hb) (below_step (bl1_ HB y) hb) ?_⟩; clear m HB hb; intro m HB))
     go_ret
     exact ⟨by first | (rw [hRT_.out]; rfl) | exact er_, bl1_ HB y⟩
    ·replace c7 := Bool.eq_false_iff.mpr c7
     subst c7
     have J : (impl_InSpans.l0 X x j (j.length : Int) (wrap64 (l + 1))) = some r := by rw [if_neg (show ¬ (false = true) by decide)] at H; exact H
     clear H
     have H := J
     clear J
     have H' := Aside0.mk H
     clear H
     have s : 0 ≤ (l : Int) := od_
     have u : l < (j.length : Int) := od_
     obtain ⟨Y, D, z, B⟩ := at_T82 M.out l s u
     cases D
     replace z := hbc_ HB z
     replace B := hbc_ HB B
     replace s := eq_true s
     replace u := eq_true u
     go_wp2_with (first | ((with_reducible refine gd_ 6 ?_); refine bx_ 6 82 #[iv_ 0, iv_ 0] ?_; intro E hg b0 hbox hb; refine sh3_ (below_step (bl_ HB) hb) hbox (ge_ hg (bl_ HB)) ?_; clear HB hb hbox hg; intro HB m y; have a6 := cf2_ m) | ((with_reducible refine gate_callee (f := 63) rfl ?_); refine gl_ 15 Try.func63 (impl_InSpan.calls ((rd_T82 j l).f0) ((rd_T82 j l).f1) x false _ I.out) ?_; rintro e b1 ⟨rfl, hb⟩; refine ⟨_, rfl, sh2_ (blk_below (g := E) (o := .cells #[iv_ ((rd_T82 j l).f0), iv_ ((rd_T82 j l).f1)] 82 (0, 0)) (bp_ m) hb) (below_step (bl1_ HB y) hb) ?_⟩; clear m HB hb; intro m HB))
     go_roundg X
     case measure => have := L.out; omega
     case rel => exact ⟨(wrap64 (l + 1)), (by first | rfl | (simp; done) | (simp [*]; done)), H', ⟨by have := L.out; omega⟩, ⟨bl1_ HB y⟩⟩
   ·rw [if_neg c3] at H
    have Z := decide_eq_false c3
    clear c3
    obtain rfl := Option.some.inj H
    go_wp2
    go_ret
    exact ⟨by first | (rw [hRT_.out]; rfl) | exact er_, bl_ HB⟩

/-- A state of type 102 at block g of W; what its slices lead to came in by w0. -/
def IsS102 (m W : World) (g : Nat) (j : List Int) (u x : Int) : Prop := ∃ l s, W.heap[g]? = some (.cells #[.slice l j.length s, iv_ u, iv_ x] 102 (0, 0)) ∧ m.heap.size ≤ g ∧ Kd.C (Kd.int .u8) m l j.length j
theorem IsS102.grown {u W : World} {g : Nat} {l : List Int} {m : Int} {s : Int} {j : World} {row : Option Nat} (h : IsS102 u W g l m s) (hw : W.grownBy j row) (hne : some g ≠ row) : IsS102 u j g l m s := by
 obtain ⟨x, y, hb, hg, z⟩ := h
 exact ⟨x, y, blk_grown hb hw hne, hg, z⟩
theorem IsS102.own_neN {s W : World} {g : Nat} {j : List Int} {l : Int} {m : Int} {α : Type} {d : Kd α} {e : Nat} {base : Nat} {ok : Nat → Prop} {v : Value} {xs : List α} (h : IsS102 s W g j l m) (ho : Kd.N d e W base ok v xs) (ht : e ≠ 102) : some g ≠ v.ownBlock := by
 obtain ⟨u, x, hb, hg, y⟩ := h
 exact Kd.N_ne ho hb ht
theorem IsS102.fresh {s W : World} {g : Nat} {j : List Int} {l : Int} {m : Int} (h : IsS102 s W g j l m) : ∀ k, W.heap.size ≤ k → k ≠ g := by
 obtain ⟨u, x, hb, hg, y⟩ := h
 exact Kd.freshB hb
theorem IsS102.kept {u W : World} {g : Nat} {l : List Int} {m : Int} {s : Int} {j : World} {S : Nat → Prop} (h : IsS102 u W g l m s) (hk : Kept W j S) (hne : ¬ S g) : IsS102 u j g l m s := by
 obtain ⟨x, y, hb, hg, z⟩ := h
 exact ⟨x, y, blk_kept hb hk hne, hg, z⟩
theorem IsS102.below {u W : World} {g : Nat} {l : List Int} {m : Int} {s : Int} {j : World} (h : IsS102 u W g l m s) (hw : Below W.heap.size W j) : IsS102 u j g l m s := h.grown (grown_of_below hw none) (by simp)
theorem IsS102.alloc {s W : World} {g : Nat} {j : List Int} {l : Int} {m : Int} (h : IsS102 s W g j l m) (o : Obj) : IsS102 s (W.alloc o) g j l m := h.below (below_alloc (Below.refl _ _) o)
theorem IsS102.drewN {u W : World} {g : Nat} {j : List Int} {l : Int} {s : Int} (h : IsS102 u W g j l s) (m : Nat) : IsS102 u (W.drewN m) g j l s := h
theorem IsS102.drew {s W : World} {g : Nat} {j : List Int} {l : Int} {m : Int} (h : IsS102 s W g j l m) : IsS102 s W.drew g j l m := h
theorem IsS102.at_ {u W : World} {g : Nat} {j : List Int} {l : Int} {s : Int} {w' : World} {m : Nat} (hq : W.drewN m = w') (h : IsS102 u W g j l s) : IsS102 u w' g j l s := by subst hq; exact IsS102.drewN h m
theorem IsS102.apart {s W : World} {g : Nat} {j : List Int} {l : Int} {m : Int} {α : Type} {d : Kd α} {e : Nat} {base : Nat} {ok : Nat → Prop} {v : Value} {xs : List α} (h : IsS102 s W g j l m) (ho : d.R e W base ok v xs) (ht : ∀ q, q ∈ e :: d.E → q ≠ 102) : d.R e W base (fun k => ok k ∧ k ≠ g) v xs := by
 obtain ⟨u, x, hb, hg, y⟩ := h
 exact Kd.R_types ho hb ht
theorem IsS102.own_ne {s W : World} {g : Nat} {j : List Int} {l : Int} {m : Int} {α : Type} {d : Kd α} {e : Nat} {base : Nat} {ok : Nat → Prop} {v : Value} {xs : List α} (h : IsS102 s W g j l m) (ho : d.R e W base ok v xs) (ht : e ≠ 102) : some g ≠ v.ownBlock := by
 obtain ⟨u, x, hb, hg, y⟩ := h
 exact Kd.R_ne ho hb ht
theorem IsS102.apartQ {s W : World} {g : Nat} {j : List Int} {l : Int} {m : Int} {α : Type} {d : Kd α} {e : Nat} {base : Nat} {ok : Nat → Prop} {v : Value} {xs : List α} (h : IsS102 s W g j l m) (ho : d.Q e W base ok v xs) (ht : ∀ q, q ∈ e :: d.E → q ≠ 102) : d.Q e W base (fun k => ok k ∧ k ≠ g) v xs := by
 obtain ⟨u, x, hb, hg, y⟩ := h
 exact Kd.Q_types ho hb ht
theorem IsS102.own_neQ {s W : World} {g : Nat} {j : List Int} {l : Int} {m : Int} {α : Type} {d : Kd α} {e : Nat} {base : Nat} {ok : Nat → Prop} {v : Value} {xs : List α} (h : IsS102 s W g j l m) (ho : d.Q e W base ok v xs) (ht : e ≠ 102) : some g ≠ v.ownBlock := by
 obtain ⟨u, x, hb, hg, y⟩ := h
 exact Kd.Q_ne ho hb ht
theorem IsS102.apartS {s W : World} {g : Nat} {j : List Int} {l : Int} {m : Int} {α : Type} {d : Kd α} {e : Nat} {base : Nat} {ok : Nat → Prop} {v : Value} {xs : List α} (h : IsS102 s W g j l m) (ho : d.S e W base ok v xs) (ht : ∀ q, q ∈ e :: d.E → q ≠ 102) : d.S e W base (fun k => ok k ∧ k ≠ g) v xs := by
 obtain ⟨u, x, hb, hg, y⟩ := h
 exact Kd.S_types ho hb ht
theorem IsS102.own_neS {s W : World} {g : Nat} {j : List Int} {l : Int} {m : Int} {α : Type} {d : Kd α} {e : Nat} {base : Nat} {ok : Nat → Prop} {v : Value} {xs : List α} (h : IsS102 s W g j l m) (ho : d.S e W base ok v xs) (ht : e ≠ 102) : some g ≠ v.ownBlock := by
 obtain ⟨u, x, hb, hg, y⟩ := h
 exact Kd.S_ne ho hb ht
theorem IsS102.lt {s W : World} {g : Nat} {j : List Int} {l : Int} {m : Int} (h : IsS102 s W g j l m) : g < W.heap.size := by
 obtain ⟨u, x, hb, hg, y⟩ := h
 exact blk_lt hb
theorem IsS102.ge {j W : World} {g : Nat} {l : List Int} {m : Int} {s : Int} (h : IsS102 j W g l m s) : j.heap.size ≤ g := by
 obtain ⟨u, x, hb, hg, y⟩ := h
 exact hg
theorem IsS102.ne_blk {u W : World} {g : Nat} {l : List Int} {m : Int} {s : Int} {a : Nat} {cs : Array Value} {t : TypeId} {fr : Nat × Nat} (h : IsS102 u W g l m s) (j : W.heap[a]? = some (.cells cs t fr)) (ht : t ≠ 102) : g ≠ a := by
 obtain ⟨x, y, hb, hg, z⟩ := h
 rintro rfl
 rw [hb] at j
 injection j with j
 injection j with _ ht2
 exact ht ht2.symm
theorem IsS102.far {s W : World} {g : Nat} {j : List Int} {l : Int} {m : Int} {p : Addr} (h : IsS102 s W g j l m) (hne : g ≠ p.block) (u : Value) : IsS102 s (W.setCell p u) g j l m := by
 obtain ⟨x, y, hb, hg, z⟩ := h
 exact ⟨x, y, blk_far hb hne u, hg, z⟩
theorem cellS102_0 {W : World} {g : Nat} {j : Option Addr} {l : Nat} {m : List Int} {s : Int} {u : Int} (h : W.heap[g]? = some (.cells #[.slice j m.length l, iv_ s, iv_ u] 102 (0, 0))) : W.cell? ⟨g, 0, none⟩ = some (.slice j m.length l) := (blk_cell h 0).trans rfl
theorem cellS102_1 {W : World} {g : Nat} {l : Option Addr} {m : Nat} {s : List Int} {j : Int} {u : Int} (h : W.heap[g]? = some (.cells #[.slice l s.length m, iv_ j, iv_ u] 102 (0, 0))) : W.cell? ⟨g, 1, none⟩ = some (iv_ j) := (blk_cell h 1).trans rfl
theorem IsS102.set_1 {m W : World} {g : Nat} {j : List Int} {y : Int} {l : Int} (h : IsS102 m W g j y l) (x : Int) : IsS102 m (W.setCell ⟨g, 1, none⟩ (iv_ x)) g j x l := by
 obtain ⟨s, u, hb, hg, z⟩ := h
 exact ⟨s, u, by simpa using blk_set hb 1 (iv_ x), hg, z⟩
theorem cellS102_2 {W : World} {g : Nat} {l : Option Addr} {m : Nat} {s : List Int} {u : Int} {j : Int} (h : W.heap[g]? = some (.cells #[.slice l s.length m, iv_ u, iv_ j] 102 (0, 0))) : W.cell? ⟨g, 2, none⟩ = some (iv_ j) := (blk_cell h 2).trans rfl
theorem IsS102.set_2 {m W : World} {g : Nat} {j : List Int} {l : Int} {y : Int} (h : IsS102 m W g j l y) (x : Int) : IsS102 m (W.setCell ⟨g, 2, none⟩ (iv_ x)) g j l x := by
 obtain ⟨s, u, hb, hg, z⟩ := h
 exact ⟨s, u, by simpa using blk_set hb 2 (iv_ x), hg, z⟩
theorem IsS102.new (l W : World) (m : Option Addr) (s : Nat) (j : List Int) (u x : Int) (hB : Below l.heap.size l W) (y : Kd.C (Kd.int .u8) l m j.length j) : IsS102 l (W.alloc (.cells #[.slice m j.length s, iv_ u, iv_ x] 102)) W.heap.size j u x := ⟨m, s, by simpa using heap_alloc_new W _, hB.size, y⟩

/-! ### spec_l1New: function 49 -/
def spec_l1New.l0 : Nat → List Int → Int → Int → Option (List Int × Int × Int)
 | 0, _, _, _ => none
 | k + 1, j, m, l => if l < (j.length : Int) then (if l < 4000 then (if 0 ≤ l then (spec_l1New.l0 k j (Go.bits .and .i64 (wrap64 ((wrap64 ((wrap64 (m * 137)) + (wrap64 (rd j l)))) + 11)) 1073741823) (wrap64 (l + 1))) else (none)) else (some (j, 0, m))) else (some (j, 0, m))
def spec_l1New.f (k : Nat) (j : List Int) : Option (List Int × Int × Int) := spec_l1New.l0 k j (wrap64 (193017 + (j.length : Int))) 0
theorem spec_l1New.calls (k : Nat) (u : Option Addr) (x : Nat) (j G : List Int) (I J : Int) (l w : World) (hB : Below l.heap.size l w) (X : Kd.C (Kd.int .u8) l u j.length j) (U : j.length ≤ x) (h : spec_l1New.f k j = some (G, I, J)) :
  Calls Try.prog 49 #[.slice u j.length x] w fun e w' => ∃ g_ : Nat, e = .returned (.pointer (some ⟨g_, 0, none⟩)) ∧ IsS102 l w' g_ G I J ∧ Below l.heap.size l w' ∧ Below w.heap.size w w' := by
 have b2 := Try.underlying102
 have y := Aside0.mk X
 have a9 := Aside0.mk U
 clear X U
 have HBW := Aside0.mk (Below.refl w.heap.size w)
 have T := Aside0.mk hB.size
 have HB := Aside0.mk hB
 clear hB
 have H := h
 clear h
 unfold spec_l1New.f at H
 have H' := Aside0.mk H
 clear H
 go_enter Try.func49, Try.ntmps49
 go_wp2
 go_loopg [3, 4] k (fun kq v3 v4 w' => ∃ (s : Int) (m : Int), v3 = iv_ s ∧ v4 = iv_ m ∧ Aside0 (spec_l1New.l0 kq j s m = some (G, I, J)) ∧ Aside0 (kq ≤ k) ∧ Aside0 (Below l.heap.size l w') ∧ Aside0 (Below w.heap.size w w'))
 case atStart => exact ⟨(wrap64 (193017 + (j.length : Int))), (0), (by first | rfl | (simp; done) | (simp [*]; done)), (by first | rfl | (simp; done) | (simp [*]; done)), H', ⟨Nat.le_refl _⟩, ⟨bl_ HB⟩, ⟨by repeat (first | (with_reducible first | exact HBW.out | apply below_alloc | apply pw_below_drewN | apply below_drew1) | exact HBW.out)⟩⟩
 case round =>
  clear H'
  obtain ⟨s, m, rfl, rfl, HA, O, HB, HBW⟩ := hrel
  cases gk with
  | zero => exact absurd HA.out (by simp [spec_l1New.l0])
  | succ k1 =>
   have H := HA.out
   clear HA
   simp only [spec_l1New.l0] at H
   by_cases c2 : m < (j.length : Int)
   ·rw [if_pos c2] at H
    have a3 := decide_eq_true c2
    clear c2
    by_cases c3 : m < 4000
    ·rw [if_pos c3] at H
     have a4 := decide_eq_true c3
     clear c3
     replace H := ifn_ H
     obtain ⟨c4, H⟩ := H
     have b1 := decide_eq_true c4
     clear c4
     have H' := Aside0.mk H
     clear H
     have D : 0 ≤ (m : Int) := od_
     have E : m < (j.length : Int) := od_
     obtain ⟨b0, a5, Y⟩ := Kd.at_int y.out m D E
     cases a5
     replace Y := pw_cell_below HB.out Y
     replace D := eq_true D
     replace E := eq_true E
     go_wp2
     go_roundg k1
     case measure => have := O.out; omega
     case rel => exact ⟨(Go.bits .and .i64 (wrap64 ((wrap64 ((wrap64 (s * 137)) + (wrap64 (rd j m)))) + 11)) 1073741823), (wrap64 (m + 1)), (by first | rfl | (simp; done) | (simp [*]; done)), (by first | rfl | (simp; done) | (simp [*]; done)), H', ⟨by have := O.out; omega⟩, ⟨bl_ HB⟩, ⟨by repeat (first | (with_reducible first | exact HBW.out | apply below_alloc | apply pw_below_drewN | apply below_drew1) | exact HBW.out)⟩⟩
    ·rw [if_neg c3] at H
     have a4 := decide_eq_false c3
     clear c3
     simp only [Option.some.injEq, Prod.mk.injEq] at H
     obtain ⟨rfl, rfl, rfl⟩ := H
     go_wp2_with (first | ((with_reducible refine gd_ 31 ?_); refine bx_ 31 102 #[.slice u j.length x, iv_ 0, iv_ s] ?_; intro z hg w5 hbox hb; refine sh5_ (below_step HBW.out hb) (below_step (bl_ HB) hb) hbox (ge_ hg (by repeat (first | (with_reducible first | exact HBW.out | apply below_alloc | apply pw_below_drewN | apply below_drew1) | exact HBW.out))) ((Nat.le_trans T.out (by rw [hg]; exact (below_size (by repeat (first | (with_reducible first | exact HBW.out | apply below_alloc | apply pw_below_drewN | apply below_drew1) | exact HBW.out))) : w.heap.size ≤ z) : l.heap.size ≤ z)) ?_; clear HBW HB hb hbox hg; intro HBW HB Z a1 L))
     go_ret
     exact ⟨_, rfl, (show IsS102 l _ z j 0 s from ⟨_, _, by (with_reducible repeat (first | refine blk_drewN ?_ _ | refine blk_drew ?_ | refine blk_alloc ?_ _)); exact Z.out, L.out, y.out⟩), bl1_ HB L, by repeat (first | (with_reducible first | exact HBW.out | apply below_alloc | apply pw_below_drewN | apply below_drew1 | refine below_set ?_ a1.out) | exact HBW.out)⟩
   ·rw [if_neg c2] at H
    have a3 := decide_eq_false c2
    clear c2
    simp only [Option.some.injEq, Prod.mk.injEq] at H
    obtain ⟨rfl, rfl, rfl⟩ := H
    go_wp2_with (first | ((with_reducible refine gd_ 31 ?_); refine bx_ 31 102 #[.slice u j.length x, iv_ 0, iv_ s] ?_; intro B hg w6 hbox hb; refine sh5_ (below_step HBW.out hb) (below_step (bl_ HB) hb) hbox (ge_ hg (by repeat (first | (with_reducible first | exact HBW.out | apply below_alloc | apply pw_below_drewN | apply below_drew1) | exact HBW.out))) ((Nat.le_trans T.out (by rw [hg]; exact (below_size (by repeat (first | (with_reducible first | exact HBW.out | apply below_alloc | apply pw_below_drewN | apply below_drew1) | exact HBW.out))) : w.heap.size ≤ B) : l.heap.size ≤ B)) ?_; clear HBW HB hb hbox hg; intro HBW HB a0 a2 M))
    go_ret
    exact ⟨_, rfl, (show IsS102 l _ B j 0 s from ⟨_, _, by (with_reducible repeat (first | refine blk_drewN ?_ _ | refine blk_drew ?_ | refine blk_alloc ?_ _)); exact a0.out, M.out, y.out⟩), bl1_ HB M, by repeat (first | (with_reducible first | exact HBW.out | apply below_alloc | apply pw_below_drewN | apply below_drew1 | refine below_set ?_ a2.out) | exact HBW.out)⟩

/-! ### spec_l1Byte: function 98 -/
def spec_l1Byte.f (m : List Int) (l j : Int) : Option (Int × Int × Int) := if l < (m.length : Int) then (if 0 ≤ l then (some (Go.bits .and .i64 (wrap64 ((Go.bits .and .i64 (Go.bits .xor .i64 ((wrap64 ((wrap64 (j * 6364136223846793005)) + 1442695040888963407)) / 8589934592) ((wrap64 ((wrap64 (j * 6364136223846793005)) + 1442695040888963407)) / 140737488355328)) 255) + (wrap64 (rd m l)))) 255, wrap64 (l + 1), wrap64 ((wrap64 (j * 6364136223846793005)) + 1442695040888963407))) else (none)) else (some (Go.bits .and .i64 (Go.bits .xor .i64 ((wrap64 ((wrap64 (j * 6364136223846793005)) + 1442695040888963407)) / 8589934592) ((wrap64 ((wrap64 (j * 6364136223846793005)) + 1442695040888963407)) / 140737488355328)) 255, l, wrap64 ((wrap64 (j * 6364136223846793005)) + 1442695040888963407)))
theorem spec_l1Byte.calls (g : Nat) (y : List Int) (u B G I J : Int) (x w : World) (hI : IsS102 x w g y u B) (hB : Below x.heap.size x w) (h : spec_l1Byte.f y u B = some (G, I, J)) :
  Calls Try.prog 98 #[.pointer (some ⟨g, 0, none⟩)] w fun e w' => e = .returned (iv_ G) ∧ IsS102 x w' g y I J ∧ Below x.heap.size x w' ∧ KeepBut w w' g none := by
 have j := Aside0.mk hI
 have HK := Aside0.mk (KeepBut.refl w g none)
 have HL := Aside0.mk hB.size
 clear hI
 have a1 := Aside0.mk hB.size
 have HB := Aside0.mk hB
 clear hB
 have H := h
 clear h
 unfold spec_l1Byte.f at H
 by_cases c2 : u < (y.length : Int)
 ·rw [if_pos c2] at H
  have O := decide_eq_true c2
  clear c2
  replace H := ifn_ H
  obtain ⟨c3, H⟩ := H
  have a2 := decide_eq_true c3
  clear c3
  simp only [Option.some.injEq, Prod.mk.injEq] at H
  obtain ⟨rfl, rfl, rfl⟩ := H
  obtain ⟨Y, a3, l, U, L⟩ := j.out
  have a5 := cellS102_0 l
  have a6 := cellS102_1 l
  have a7 := cellS102_2 l
  have b1 := blk_frozen l 1
  have b2 := blk_frozen l 2
  clear l U
  have D : 0 ≤ (u : Int) := od_
  have E : u < (y.length : Int) := od_
  obtain ⟨M, T, s⟩ := Kd.at_int L u D E
  cases T
  have z : M.block ≠ g := Nat.ne_of_lt (Nat.lt_of_lt_of_le (by have := World.block_lt_of_cell? _ _ s; first | rwa [add_block] at this | exact this) (IsS102.ge j.out))
  replace s := pw_cell_below HB.out s
  replace s := (cell_far (p := ⟨g, 2, none⟩) (by first | (rw [add_block]; exact z) | (show (Addr.add _ _).block ≠ _; rw [add_block]; exact z) | exact z) (iv_ (wrap64 ((wrap64 (B * 6364136223846793005)) + 1442695040888963407)))).trans s
  (try have b5 := fun (n_ : Nat) => (show (((w.drewN n_).setCell ⟨g, 2, none⟩ (iv_ (wrap64 ((wrap64 (B * 6364136223846793005)) + 1442695040888963407))))).cell? _ = some _ from s))
  clear z
  replace D := eq_true D
  replace E := eq_true E
  go_enter Try.func98, Try.ntmps98
  go_wp2
  repeat (go_quiet (fail); try go_wp2)
  go_ret
  exact ⟨by first | (rw [hRT_.out]; rfl) | exact er_, by repeat (first | (with_reducible first | exact j.out | apply IsS102.alloc | apply IsS102.drewN | apply IsS102.drew | apply IsS102.set_1 | apply IsS102.set_2) | exact j.out), by repeat (first | (with_reducible first | exact HB.out | apply below_alloc | apply pw_below_drewN | apply below_drew1 | refine below_set ?_ (IsS102.ge j.out)) | exact HB.out), by repeat (first | (with_reducible first | exact HK.out | apply KeepBut.set_ | apply keep_drewN | apply keep_drew | apply keep_alloc) | exact HK.out)⟩
 ·rw [if_neg c2] at H
  have O := decide_eq_false c2
  clear c2
  simp only [Option.some.injEq, Prod.mk.injEq] at H
  obtain ⟨rfl, rfl, rfl⟩ := H
  obtain ⟨Z, a4, m, X, a0⟩ := j.out
  have a8 := cellS102_0 m
  have a9 := cellS102_1 m
  have b0 := cellS102_2 m
  have b3 := blk_frozen m 1
  have b4 := blk_frozen m 2
  clear m X
  go_enter Try.func98, Try.ntmps98
  go_wp2
  repeat (go_quiet (fail); try go_wp2)
  go_ret
  exact ⟨by first | (rw [hRT_.out]; rfl) | exact er_, by repeat (first | (with_reducible first | exact j.out | apply IsS102.alloc | apply IsS102.drewN | apply IsS102.drew | apply IsS102.set_1 | apply IsS102.set_2) | exact j.out), by repeat (first | (with_reducible first | exact HB.out | apply below_alloc | apply pw_below_drewN | apply below_drew1 | refine below_set ?_ (IsS102.ge j.out)) | exact HB.out), by repeat (first | (with_reducible first | exact HK.out | apply KeepBut.set_ | apply keep_drewN | apply keep_drew | apply keep_alloc) | exact HK.out)⟩

/-! ### spec_l1Below: function 60 -/
def spec_l1Below.f (l : List Int) (y z j : Int) : Option (Int × Int × Int) := if j ≤ 0 then (some (0, y, z)) else (if j ≤ 256 then ((spec_l1Byte.f l y z).bind fun m => (if j = 0 then (none) else (some (Int.tmod m.1 j, m.2.1, m.2.2)))) else ((spec_l1Byte.f l y z).bind fun s => ((spec_l1Byte.f l s.2.1 s.2.2).bind fun u => ((spec_l1Byte.f l u.2.1 u.2.2).bind fun x => (if j = 0 then (none) else (some (Int.tmod (wrap64 ((wrap64 ((wrap64 (s.1 * 65536)) + (wrap64 (u.1 * 256)))) + x.1)) j, x.2.1, x.2.2)))))))
theorem spec_l1Below.calls (g : Nat) (m : List Int) (u x s z B D : Int) (l w : World) (hI : IsS102 l w g m u x) (hB : Below l.heap.size l w) (h : spec_l1Below.f m u x s = some (z, B, D)) :
  Calls Try.prog 60 #[.pointer (some ⟨g, 0, none⟩), iv_ s] w fun e w' => e = .returned (iv_ z) ∧ IsS102 l w' g m B D ∧ Below l.heap.size l w' ∧ KeepBut w w' g none := by
 have j := Aside0.mk hI
 have HK := Aside0.mk (KeepBut.refl w g none)
 have HL := Aside0.mk hB.size
 clear hI
 have a7 := Aside0.mk hB.size
 have HB := Aside0.mk hB
 clear hB
 have H := h
 clear h
 unfold spec_l1Below.f at H
 by_cases c3 : s ≤ 0
 ·rw [if_pos c3] at H
  have U := decide_eq_true c3
  clear c3
  simp only [Option.some.injEq, Prod.mk.injEq] at H
  obtain ⟨rfl, rfl, rfl⟩ := H
  go_enter Try.func60, Try.ntmps60
  go_wp2
  go_ret
  exact ⟨by first | (rw [hRT_.out]; rfl) | exact er_, by repeat (first | (with_reducible first | exact j.out | apply IsS102.alloc | apply IsS102.drewN | apply IsS102.drew | apply IsS102.set_1 | apply IsS102.set_2) | exact j.out), by repeat (first | (with_reducible first | exact HB.out | apply below_alloc | apply pw_below_drewN | apply below_drew1 | refine below_set ?_ (IsS102.ge j.out)) | exact HB.out), by repeat (first | (with_reducible first | exact HK.out | apply KeepBut.set_ | apply keep_drewN | apply keep_drew | apply keep_alloc) | exact HK.out)⟩
 ·rw [if_neg c3] at H
  have U := decide_eq_false c3
  clear c3
  by_cases c4 : s ≤ 256
  ·rw [if_pos c4] at H
   have X := decide_eq_true c4
   clear c4
   replace H := bs_ H
   obtain ⟨⟨Y, Z, a0⟩, M, H⟩ := H
   dsimp only at H
   by_cases c6 : s = 0
   ·rw [if_pos c6] at H
    exact absurd H (by simp)
   ·rw [if_neg c6] at H
    obtain ⟨b0, b1⟩ := bn_ c6
    simp only [Option.some.injEq, Prod.mk.injEq] at H
    obtain ⟨rfl, rfl, rfl⟩ := H
    go_enter Try.func60, Try.ntmps60
    go_wp2_with (first | ((with_reducible refine gate_callee (f := 98) rfl ?_); refine goesL_ (some 13) rfl rfl Try.func98 (by kernel_rfl) rfl #[.pointer (some ⟨g, 0, none⟩)] rfl mp_ ?_; (with_reducible refine (spec_l1Byte.calls g m u x Y Z a0 l _ ?side1 ?side2 M.out).mono ?_); (case side1 => repeat (first | (with_reducible first | exact j.out | apply IsS102.alloc | apply IsS102.drewN | apply IsS102.drew | apply IsS102.set_1 | apply IsS102.set_2) | exact j.out)); (case side2 => repeat (first | (with_reducible first | exact HB.out | apply below_alloc | apply pw_below_drewN | apply below_drew1 | refine below_set ?_ (IsS102.ge j.out)) | exact HB.out)); rintro e w7 ⟨rfl, hi, hb, hk⟩; refine ⟨_, rfl, sh3_ (KeepBut.trans (by repeat (first | (with_reducible first | exact HK.out | apply KeepBut.set_ | apply keep_drewN | apply keep_drew | apply keep_alloc) | exact HK.out)) hk (.inl rfl)) hb hi ?_⟩; clear HK HB j hb hk hi; intro HK HB j))
    go_ret
    exact ⟨by first | (rw [hRT_.out]; rfl) | exact er_, by repeat (first | (with_reducible first | exact j.out | apply IsS102.alloc | apply IsS102.drewN | apply IsS102.drew | apply IsS102.set_1 | apply IsS102.set_2) | exact j.out), by repeat (first | (with_reducible first | exact HB.out | apply below_alloc | apply pw_below_drewN | apply below_drew1 | refine below_set ?_ (IsS102.ge j.out)) | exact HB.out), by repeat (first | (with_reducible first | exact HK.out | apply KeepBut.set_ | apply keep_drewN | apply keep_drew | apply keep_alloc) | exact HK.out)⟩
  ·rw [if_neg c4] at H
   have X := decide_eq_false c4
   clear c4
   replace H := bs_ H
   obtain ⟨⟨a2, E, G⟩, O, H⟩ := H
   dsimp only at H
   replace H := bs_ H
   obtain ⟨⟨a3, I, J⟩, T, H⟩ := H
   dsimp only at H
   replace H := bs_ H
   obtain ⟨⟨a4, a5, a6⟩, L, H⟩ := H
   dsimp only at H
   by_cases y : s = 0
   ·rw [if_pos y] at H
    exact absurd H (by simp)
   ·rw [if_neg y] at H
    obtain ⟨a8, a9⟩ := bn_ y
    simp only [Option.some.injEq, Prod.mk.injEq] at H
    obtain ⟨rfl, rfl, rfl⟩ := H
    go_enter Try.func60, Try.ntmps60
    go_wp2_with (first | ((with_reducible refine gate_callee (f := 98) rfl ?_); refine goesL_ (some 17) rfl rfl Try.func98 (by kernel_rfl) rfl #[.pointer (some ⟨g, 0, none⟩)] rfl mp_ ?_; (with_reducible refine (spec_l1Byte.calls g m u x a2 E G l _ ?side1 ?side2 O.out).mono ?_); (case side1 => repeat (first | (with_reducible first | exact j.out | apply IsS102.alloc | apply IsS102.drewN | apply IsS102.drew | apply IsS102.set_1 | apply IsS102.set_2) | exact j.out)); (case side2 => repeat (first | (with_reducible first | exact HB.out | apply below_alloc | apply pw_below_drewN | apply below_drew1 | refine below_set ?_ (IsS102.ge j.out)) | exact HB.out)); rintro e b2 ⟨rfl, hi, hb, hk⟩; refine ⟨_, rfl, sh3_ (KeepBut.trans (by repeat (first | (with_reducible first | exact HK.out | apply KeepBut.set_ | apply keep_drewN | apply keep_drew | apply keep_alloc) | exact HK.out)) hk (.inl rfl)) hb hi ?_⟩; clear HK HB j hb hk hi; intro HK HB j) | ((with_reducible refine gate_callee (f := 98) rfl ?_); refine goesL_ (some 19) rfl rfl Try.func98 (by kernel_rfl) rfl #[.pointer (some ⟨g, 0, none⟩)] rfl mp_ ?_; (with_reducible refine (spec_l1Byte.calls g m E G a3 I J l _ ?side1 ?side2 T.out).mono ?_); (case side1 => repeat (first | (with_reducible first | exact j.out | apply IsS102.alloc | apply IsS102.drewN | apply IsS102.drew | apply IsS102.set_1 | apply IsS102.set_2) | exact j.out)); (case side2 => repeat (first | (with_reducible first | exact HB.out | apply below_alloc | apply pw_below_drewN | apply below_drew1 | refine below_set ?_ (IsS102.ge j.out)) | exact HB.out)); rintro e b3 ⟨rfl, hi, hb, hk⟩; refine ⟨_, rfl, sh3_ (KeepBut.trans (by repeat (first | (with_reducible first | exact HK.out | apply KeepBut.set_ | apply keep_drewN | apply keep_drew | apply keep_alloc) | exact HK.out)) hk (.inl rfl)) hb hi ?_⟩; clear HK HB j hb hk hi; intro HK HB j) | ((with_reducible refine gate_callee (f := 98) rfl ?_); refine goesL_ (some 21) rfl rfl Try.func98 (by kernel_rfl) rfl #[.pointer (some ⟨g, 0, none⟩)] rfl mp_ ?_; (with_reducible refine (spec_l1Byte.calls g m I J a4 a5 a6 l _ ?side1 ?side2 L.out).mono ?_); (case side1 => repeat (first | (with_reducible first | exact j.out | apply IsS102.alloc | apply IsS102.drewN | apply IsS102.drew | apply IsS102.set_1 | apply IsS102.set_2) | exact j.out)); (case side2 => repeat (first | (with_reducible first | exact HB.out | apply below_alloc | apply pw_below_drewN | apply below_drew1 | refine below_set ?_ (IsS102.ge j.out)) | exact HB.out)); rintro e b4 ⟨rfl, hi, hb, hk⟩; refine ⟨_, rfl, sh3_ (KeepBut.trans (by repeat (first | (with_reducible first | exact HK.out | apply KeepBut.set_ | apply keep_drewN | apply keep_drew | apply keep_alloc) | exact HK.out)) hk (.inl rfl)) hb hi ?_⟩; clear HK HB j hb hk hi; intro HK HB j))
    go_ret
    exact ⟨by first | (rw [hRT_.out]; rfl) | exact er_, by repeat (first | (with_reducible first | exact j.out | apply IsS102.alloc | apply IsS102.drewN | apply IsS102.drew | apply IsS102.set_1 | apply IsS102.set_2) | exact j.out), by repeat (first | (with_reducible first | exact HB.out | apply below_alloc | apply pw_below_drewN | apply below_drew1 | refine below_set ?_ (IsS102.ge j.out)) | exact HB.out), by repeat (first | (with_reducible first | exact HK.out | apply KeepBut.set_ | apply keep_drewN | apply keep_drew | apply keep_alloc) | exact HK.out)⟩

/-! ### spec_l1Once: function 77 -/
def spec_l1Once.f (m : List Int) (s u l : Int) : Option (Bool × Int × Int) := (spec_l1Below.f m s u l).bind fun j => (some ((j.1 == 0), j.2.1, j.2.2))
theorem spec_l1Once.calls (g : Nat) (s : List Int) (u x m : Int) (y : Bool) (z B : Int) (l w : World) (hI : IsS102 l w g s u x) (hB : Below l.heap.size l w) (h : spec_l1Once.f s u x m = some (y, z, B)) :
  Calls Try.prog 77 #[.pointer (some ⟨g, 0, none⟩), iv_ m] w fun e w' => e = .returned (.bool y) ∧ IsS102 l w' g s z B ∧ Below l.heap.size l w' ∧ KeepBut w w' g none := by
 have j := Aside0.mk hI
 have HK := Aside0.mk (KeepBut.refl w g none)
 have HL := Aside0.mk hB.size
 clear hI
 have J := Aside0.mk hB.size
 have HB := Aside0.mk hB
 clear hB
 have H := h
 clear h
 unfold spec_l1Once.f at H
 replace H := bs_ H
 obtain ⟨⟨E, G, I⟩, D, H⟩ := H
 dsimp only at H
 simp only [Option.some.injEq, Prod.mk.injEq] at H
 obtain ⟨rfl, rfl, rfl⟩ := H
 go_enter Try.func77, Try.ntmps77
 go_wp2_with (first | ((with_reducible refine gate_callee (f := 60) rfl ?_); refine goesL_ (some 7) rfl rfl Try.func60 (by kernel_rfl) rfl #[.pointer (some ⟨g, 0, none⟩), iv_ m] rfl mp_ ?_; (with_reducible refine (spec_l1Below.calls g s u x m E G I l _ ?side1 ?side2 D.out).mono ?_); (case side1 => repeat (first | (with_reducible first | exact j.out | apply IsS102.alloc | apply IsS102.drewN | apply IsS102.drew | apply IsS102.set_1 | apply IsS102.set_2) | exact j.out)); (case side2 => repeat (first | (with_reducible first | exact HB.out | apply below_alloc | apply pw_below_drewN | apply below_drew1 | refine below_set ?_ (IsS102.ge j.out)) | exact HB.out)); rintro e L ⟨rfl, hi, hb, hk⟩; refine ⟨_, rfl, sh3_ (KeepBut.trans (by repeat (first | (with_reducible first | exact HK.out | apply KeepBut.set_ | apply keep_drewN | apply keep_drew | apply keep_alloc) | exact HK.out)) hk (.inl rfl)) hb hi ?_⟩; clear HK HB j hb hk hi; intro HK HB j))
 go_ret
 exact ⟨by first | (rw [hRT_.out]; rfl) | exact er_, by repeat (first | (with_reducible first | exact j.out | apply IsS102.alloc | apply IsS102.drewN | apply IsS102.drew | apply IsS102.set_1 | apply IsS102.set_2) | exact j.out), by repeat (first | (with_reducible first | exact HB.out | apply below_alloc | apply pw_below_drewN | apply below_drew1 | refine below_set ?_ (IsS102.ge j.out)) | exact HB.out), by repeat (first | (with_reducible first | exact HK.out | apply KeepBut.set_ | apply keep_drewN | apply keep_drew | apply keep_alloc) | exact HK.out)⟩

/-! ### spec_l1In: function 124 -/
def spec_l1In.f (j l m : Int) : Option (Bool) := if j ≥ l then (some (decide (j ≤ m))) else (some false)
theorem spec_l1In.calls (j l m : Int) (r : Bool) (w : World) (h : spec_l1In.f j l m = some r) :
  Calls Try.prog 124 #[iv_ j, iv_ l, iv_ m] w fun e w' => e = .returned (.bool r) ∧ Drawn0 w w' := by
 have H := h
 clear h
 unfold spec_l1In.f at H
 by_cases c4 : j ≥ l
 ·rw [if_pos c4] at H
  have s : decide (l ≤ j) = true := decide_eq_true c4
  clear c4
  obtain rfl := Option.some.inj H
  go_enter Try.func124, Try.ntmps124
  go_wp2
  go_ret
  exact ⟨by first | rfl | (simp; done) | (simp [*]; done), by repeat (first | exact Drawn0.refl _ | apply Drawn0.step)⟩
 ·rw [if_neg c4] at H
  have s : decide (l ≤ j) = false := decide_eq_false c4
  clear c4
  obtain rfl := Option.some.inj H
  go_enter Try.func124, Try.ntmps124
  go_wp2
  go_ret
  exact ⟨by first | rfl | (simp; done) | (simp [*]; done), by repeat (first | exact Drawn0.refl _ | apply Drawn0.step)⟩

/-! ### spec_Mod: function 118 -/
def spec_Mod.f (l j : Int) : Option (Int) := (spec_l1In.f j 1 1000000000000).bind fun m => (if m = true then (if j = 0 then (none) else (some (Int.tmod (wrap64 ((Int.tmod l j) + j)) j))) else (some 0))
theorem spec_Mod.calls (s j r : Int) (w : World) (h : spec_Mod.f s j = some r) :
  Calls Try.prog 118 #[iv_ s, iv_ j] w fun e w' => e = .returned (iv_ r) ∧ Drawn0 w w' := by
 have H := h
 clear h
 unfold spec_Mod.f at H
 replace H := bs_ H
 obtain ⟨u, l, H⟩ := H
 by_cases c4 : u = true
 ·subst c4
  rw [if_pos rfl] at H
  by_cases c5 : j = 0
  ·rw [if_pos c5] at H
   exact absurd H (by simp)
  ·rw [if_neg c5] at H
   obtain ⟨x, y⟩ := bn_ c5
   obtain rfl := Option.some.inj H
   go_enter Try.func118, Try.ntmps118
   go_wp2_with (first | ((with_reducible refine gate_callee (f := 124) rfl ?_); refine gl_ 6 Try.func124 (spec_l1In.calls j 1 1000000000000 true _ l.out) ?_; rintro e w' ⟨rfl, ⟨nd, rfl⟩⟩; refine ⟨_, rfl, ?_⟩))
   go_ret
   exact ⟨by first | rfl | (simp; done) | (simp [*]; done), by repeat (first | exact Drawn0.refl _ | apply Drawn0.step)⟩
 ·replace c4 := Bool.eq_false_iff.mpr c4
  subst c4
  have m : (some 0) = some r := by rw [if_neg (show ¬ (false = true) by decide)] at H; exact H
  clear H
  have H := m
  clear m
  obtain rfl := Option.some.inj H
  go_enter Try.func118, Try.ntmps118
  go_wp2_with (first | ((with_reducible refine gate_callee (f := 124) rfl ?_); refine gl_ 6 Try.func124 (spec_l1In.calls j 1 1000000000000 false _ l.out) ?_; rintro e w' ⟨rfl, ⟨nd, rfl⟩⟩; refine ⟨_, rfl, ?_⟩))
  go_ret
  exact ⟨by first | rfl | (simp; done) | (simp [*]; done), by repeat (first | exact Drawn0.refl _ | apply Drawn0.step)⟩

/-! ### spec_AngleOf: function 97 -/
def spec_AngleOf.f (j : Int) : Option (Int) := (spec_Mod.f j 360).bind fun l => (some l)
theorem spec_AngleOf.calls (j r : Int) (w : World) (h : spec_AngleOf.f j = some r) :
  Calls Try.prog 97 #[iv_ j] w fun e w' => e = .returned (iv_ r) ∧ Drawn0 w w' := by
 have H := h
 clear h
 unfold spec_AngleOf.f at H
 replace H := bs_ H
 obtain ⟨m, l, H⟩ := H
 obtain rfl := Option.some.inj H
 go_enter Try.func97, Try.ntmps97
 go_wp2_with (first | ((with_reducible refine gate_callee (f := 118) rfl ?_); refine gl_ 4 Try.func118 (spec_Mod.calls j 360 m _ l.out) ?_; rintro e w' ⟨rfl, ⟨nd, rfl⟩⟩; refine ⟨_, rfl, ?_⟩))
 go_ret
 exact ⟨by first | rfl | (simp; done) | (simp [*]; done), by repeat (first | exact Drawn0.refl _ | apply Drawn0.step)⟩

/-! ### spec_l7Sky: function 59 -/
mutual
def spec_l7Sky.l0 : Nat → Int → List Int → Int → Int → Int → List S72 → Int → Int → Int → Int → Int → Int → Option (Int × List S72 × List S74 × Int × Int × Int × Int × Int × List S88 × Int × Int × Int)
 | 0, _, _, _, _, _, _, _, _, _, _, _, _ => none
 | k + 1, l, j, G, I, s, m, u, x, y, z, B, D => if l < 2 then ((spec_l1Below.f j G I 2).bind fun J => (spec_l7Sky.l1 k l (wrap64 (2 + J.1)) 0 j J.2.1 J.2.2 s m u x y z B D)) else ((spec_l1Below.f j G I 12).bind fun O => ((spec_l1Below.f j O.2.1 O.2.2 2).bind fun T => ((spec_l1Below.f j T.2.1 T.2.2 12).bind fun U => ((some (([(⟨0, wrap64 (10 * O.1), T.1⟩ : S74), (⟨1, wrap64 (180 + (wrap64 (10 * U.1))), 0⟩ : S74)] : List S74) : List S74)).bind fun a2 => ((spec_l1Once.f j U.2.1 U.2.2 3).bind fun E => (if E.1 = true then ((spec_l1Below.f j E.2.1 E.2.2 2).bind fun X => ((spec_l1Below.f j X.2.1 X.2.2 36).bind fun Y => ((spec_l1Below.f j Y.2.1 Y.2.2 5).bind fun Z => (some (s, m, a2, u, x, y, z, B, (([(⟨X.1, (⟨wrap64 (10 * Y.1), wrap64 (10 * Z.1)⟩ : S35)⟩ : S88)] : List S88)), D, Z.2.1, Z.2.2))))) else (some (s, m, a2, u, x, y, z, B, ([] : List S88), D, E.2.1, E.2.2))))))))
def spec_l7Sky.l1 : Nat → Int → Int → Int → List Int → Int → Int → Int → List S72 → Int → Int → Int → Int → Int → Int → Option (Int × List S72 × List S74 × Int × Int × Int × Int × Int × List S88 × Int × Int × Int)
 | 0, _, _, _, _, _, _, _, _, _, _, _, _, _, _ => none
 | k + 1, l, x5, x6, j, G, I, s, m, u, x, y, z, B, D => if x6 < x5 then ((spec_AngleOf.f (wrap64 ((wrap64 (120 * x6)) + (wrap64 (20 * l))))).bind fun a3 => ((spec_l1Below.f j G I 2).bind fun L => ((spec_l1Below.f j L.2.1 L.2.2 2).bind fun M => (if m.length < 4398046511104 then (spec_l7Sky.l1 k l x5 (wrap64 (x6 + 1)) j M.2.1 M.2.2 s (m ++ [(⟨l, a3, wrap64 (10 - (wrap64 ((wrap64 (4 * l)) * L.1))), M.1⟩ : S72)]) u x y z B D) else (none))))) else (spec_l7Sky.l0 k (wrap64 (l + 1)) j G I s m u x y z B D)
end
def spec_l7Sky.f (k : Nat) (j : List Int) (y z : Int) : Option (Int × List S72 × List S74 × Int × Int × Int × Int × Int × List S88 × Int × Int × Int) := (spec_l1Below.f j y z 3).bind fun l => ((spec_l1Below.f j l.2.1 l.2.2 4).bind fun m => ((spec_l1Below.f j m.2.1 m.2.2 4).bind fun s => ((spec_l1Below.f j s.2.1 s.2.2 2).bind fun u => ((spec_l1Below.f j u.2.1 u.2.2 2).bind fun x => (spec_l7Sky.l0 k 0 j x.2.1 x.2.2 2 ([] : List S72) (wrap64 (120 + (wrap64 (10 * l.1)))) (wrap64 (30 + (wrap64 (10 * m.1)))) (wrap64 (50 + (wrap64 (10 * s.1)))) u.1 60 x.1)))))
def spec_l7Sky.T9 : Bool × List (List Nat × List Nat) := (true, [([], []), ([0], [0]), ([], []), ([], []), ([3], [3]), ([], []), ([5], [5]), ([4, 6], [4, 6]), ([7], [7]), ([], []), ([9], [9]), ([], []), ([11, 8], [11]), ([10, 12], [10, 12]), ([13], [13]), ([], []), ([15, 12], [15]), ([2, 8, 14, 16], [2, 8, 14, 16]), ([17], [17]), ([1, 18, 16], [1, 18]), ([0, 1, 2, 3, 4, 5, 6, 7, 8, 9, 10, 11, 12, 13, 14, 15, 16, 17, 18, 19], []), ([20, 19, 19, 0, 1, 2, 3, 4, 5, 6, 7, 8, 9, 10, 11, 12, 13, 14, 15, 16, 17, 18, 19], [19, 20])])
def spec_l7Sky.B9 : List Nat := [0, 1, 0, 0, 8, 0, 32, 120, 248, 0, 512, 0, 2552, 8184, 16376, 0, 39416, 131068, 262140, 524287, 1048575, 2097151]
theorem spec_l7Sky.tab9 : rtab .any (opsOf Try.f59 9) = spec_l7Sky.T9 := by kernel_rfl
theorem spec_l7Sky.bits9 : waitsOk spec_l7Sky.T9.2 spec_l7Sky.B9 = true := by kernel_rfl
theorem spec_l7Sky.calls (k g : Nat) (x : List Int) (g3 g4 r1 : Int) (r2 : List S72) (r3 : List S74) (r4 r5 r6 r7 r8 : Int) (r9 : List S88) (b2 b3 b4 : Int) (y w : World) (hI : IsS102 y w g x g3 g4) (hB : Below y.heap.size y w) (h : spec_l7Sky.f k x g3 g4 = some (r1, r2, r3, r4, r5, r6, r7, r8, r9, b2, b3, b4)) :
  Calls Try.prog 59 #[.pointer (some ⟨g, 0, none⟩)] w fun e w' => ∃ l9 m0 m1 : Value, e = .returned (.agg #[iv_ r1, l9, m0, iv_ r4, iv_ r5, iv_ r6, iv_ r7, iv_ r8, m1, iv_ b2]) ∧ Kd.R k72 72 w' w.heap.size (fun _ => True) l9 r2 ∧ Kd.R k74 74 w' w.heap.size (fun _ => True) m0 r3 ∧ Kd.R k88 88 w' w.heap.size (fun _ => True) m1 r9 ∧ IsS102 y w' g x b3 b4 ∧ Below y.heap.size y w' ∧ KeepBut w w' g none := by
 have s6 := Try.underlying28
 have s8 := Try.underlying72
 have s9 := Try.underlying74
 have s7 := Try.underlying35
 have t0 := Try.underlying88
 have j := Aside0.mk hI
 have HK := Aside0.mk (KeepBut.refl w g none)
 have HL := Aside0.mk hB.size
 clear hI
 have j7 := Aside0.mk hB.size
 have HB := Aside0.mk hB
 clear hB
 have H := h
 clear h
 unfold spec_l7Sky.f at H
 replace H := bs_ H
 obtain ⟨⟨D, k5, k6⟩, A2, H⟩ := H
 dsimp only at H
 replace H := bs_ H
 obtain ⟨⟨E, k7, k8⟩, A3, H⟩ := H
 dsimp only at H
 replace H := bs_ H
 obtain ⟨⟨G, k9, l2⟩, A4, H⟩ := H
 dsimp only at H
 replace H := bs_ H
 obtain ⟨⟨I, l3, l4⟩, A5, H⟩ := H
 dsimp only at H
 replace H := bs_ H
 obtain ⟨⟨L, h6, h7⟩, A6, H⟩ := H
 dsimp only at H
 have H' := Aside0.mk H
 clear H
 go_enter Try.func59, Try.ntmps59
 go_wp2_with (first | ((with_reducible refine gd_ 2 ?_); refine bx_ 2 28 #[iv_ 0, .slice none 0 0, .slice none 0 0, iv_ 0, iv_ 0, iv_ 0, iv_ 0, iv_ 0, .slice none 0 0, iv_ 0] ?_; intro s hg w7 hbox hb; refine sh8_ (IsS102.below (by repeat (first | (with_reducible first | exact j.out | apply IsS102.alloc | apply IsS102.drewN | apply IsS102.drew | apply IsS102.set_1 | apply IsS102.set_2) | exact j.out)) hb) (KeepBut.trans (by repeat (first | (with_reducible first | exact HK.out | apply KeepBut.set_ | apply keep_drewN | apply keep_drew | apply keep_alloc) | exact HK.out)) (KeepBut.of_below hb g none) (.inl rfl)) (below_step (by repeat (first | (with_reducible first | exact HB.out | apply below_alloc | apply pw_below_drewN | apply below_drew1 | refine below_set ?_ (IsS102.ge j.out)) | exact HB.out)) hb) hbox ((by rw [hg]; exact (keep_size (w := w) (g := g) (row := none) (by repeat (first | (with_reducible first | exact HK.out | apply KeepBut.set_ | apply keep_drewN | apply keep_drew | apply keep_alloc) | exact HK.out))) : w.heap.size ≤ s)) ((Nat.le_trans j7.out (by rw [hg]; exact (keep_size (w := w) (g := g) (row := none) (by repeat (first | (with_reducible first | exact HK.out | apply KeepBut.set_ | apply keep_drewN | apply keep_drew | apply keep_alloc) | exact HK.out))) : w.heap.size ≤ s) : y.heap.size ≤ s)) ((by rw [hg]; exact Nat.ne_of_lt (IsS102.lt (show IsS102 y _ g x g3 g4 from by repeat (first | (with_reducible first | exact j.out | apply IsS102.alloc | apply IsS102.drewN | apply IsS102.drew | apply IsS102.set_1 | apply IsS102.set_2) | exact j.out))) : g ≠ s)) ((by rw [hg]; exact Nat.ne_of_gt (IsS102.lt (show IsS102 y _ g x g3 g4 from by repeat (first | (with_reducible first | exact j.out | apply IsS102.alloc | apply IsS102.drewN | apply IsS102.drew | apply IsS102.set_1 | apply IsS102.set_2) | exact j.out))) : s ≠ g)) ?_; clear j HK HB hb hbox hg; intro j HK HB m J T z a0) | ((with_reducible refine gate_callee (f := 60) rfl ?_); refine goesL_ (some 8) rfl rfl Try.func60 (by kernel_rfl) rfl #[.pointer (some ⟨g, 0, none⟩), iv_ 3] rfl mp_ ?_; (with_reducible refine (spec_l1Below.calls g x g3 g4 3 D k5 k6 y _ ?side1 ?side2 A2.out).mono ?_); (case side1 => repeat (first | (with_reducible first | exact j.out | apply IsS102.alloc | apply IsS102.drewN | apply IsS102.drew | apply IsS102.set_1 | apply IsS102.set_2 | refine IsS102.far ?_ z.out _) | exact j.out)); (case side2 => repeat (first | (with_reducible first | exact HB.out | apply below_alloc | apply pw_below_drewN | apply below_drew1 | refine below_set ?_ (IsS102.ge j.out) | refine below_set ?_ T.out) | exact HB.out)); rintro e w8 ⟨rfl, hi, hb, hk⟩; refine ⟨_, rfl, sh4_ (KeepBut.blk hk (g' := s) (o := .cells #[iv_ 0, .slice none 0 0, .slice none 0 0, iv_ 0, iv_ 0, iv_ 0, iv_ 0, iv_ 0, .slice none 0 0, iv_ 0] 28 (0, 0)) (bk_ m) a0.out (by simp)) (KeepBut.trans (by repeat (first | (with_reducible first | exact HK.out | apply KeepBut.set_ | apply keep_drewN | apply keep_drew | apply keep_alloc | refine keep_far ?_ J.out _) | exact HK.out)) hk (.inl rfl)) hb hi ?_⟩; clear m HK HB j hb hk hi; intro m HK HB j) | ((with_reducible refine gate_callee (f := 60) rfl ?_); refine goesL_ (some 12) rfl rfl Try.func60 (by kernel_rfl) rfl #[.pointer (some ⟨g, 0, none⟩), iv_ 4] rfl mp_ ?_; (with_reducible refine (spec_l1Below.calls g x k5 k6 4 E k7 k8 y _ ?side1 ?side2 A3.out).mono ?_); (case side1 => repeat (first | (with_reducible first | exact j.out | apply IsS102.alloc | apply IsS102.drewN | apply IsS102.drew | apply IsS102.set_1 | apply IsS102.set_2 | refine IsS102.far ?_ z.out _) | exact j.out)); (case side2 => repeat (first | (with_reducible first | exact HB.out | apply below_alloc | apply pw_below_drewN | apply below_drew1 | refine below_set ?_ (IsS102.ge j.out) | refine below_set ?_ T.out) | exact HB.out)); rintro e w9 ⟨rfl, hi, hb, hk⟩; refine ⟨_, rfl, sh4_ (KeepBut.blk hk (g' := s) (o := .cells #[iv_ 0, .slice none 0 0, .slice none 0 0, iv_ 0, iv_ 0, iv_ 0, iv_ 0, iv_ 0, .slice none 0 0, iv_ 0] 28 (0, 0)) (bk_ m) a0.out (by simp)) (KeepBut.trans (by repeat (first | (with_reducible first | exact HK.out | apply KeepBut.set_ | apply keep_drewN | apply keep_drew | apply keep_alloc | refine keep_far ?_ J.out _) | exact HK.out)) hk (.inl rfl)) hb hi ?_⟩; clear m HK HB j hb hk hi; intro m HK HB j) | ((with_reducible refine gate_callee (f := 60) rfl ?_); refine goesL_ (some 16) rfl rfl Try.func60 (by kernel_rfl) rfl #[.pointer (some ⟨g, 0, none⟩), iv_ 4] rfl mp_ ?_; (with_reducible refine (spec_l1Below.calls g x k7 k8 4 G k9 l2 y _ ?side1 ?side2 A4.out).mono ?_); (case side1 => repeat (first | (with_reducible first | exact j.out | apply IsS102.alloc | apply IsS102.drewN | apply IsS102.drew | apply IsS102.set_1 | apply IsS102.set_2 | refine IsS102.far ?_ z.out _) | exact j.out)); (case side2 => repeat (first | (with_reducible first | exact HB.out | apply below_alloc | apply pw_below_drewN | apply below_drew1 | refine below_set ?_ (IsS102.ge j.out) | refine below_set ?_ T.out) | exact HB.out)); rintro e t3 ⟨rfl, hi, hb, hk⟩; refine ⟨_, rfl, sh4_ (KeepBut.blk hk (g' := s) (o := .cells #[iv_ 0, .slice none 0 0, .slice none 0 0, iv_ 0, iv_ 0, iv_ 0, iv_ 0, iv_ 0, .slice none 0 0, iv_ 0] 28 (0, 0)) (bk_ m) a0.out (by simp)) (KeepBut.trans (by repeat (first | (with_reducible first | exact HK.out | apply KeepBut.set_ | apply keep_drewN | apply keep_drew | apply keep_alloc | refine keep_far ?_ J.out _) | exact HK.out)) hk (.inl rfl)) hb hi ?_⟩; clear m HK HB j hb hk hi; intro m HK HB j) | ((with_reducible refine gate_callee (f := 60) rfl ?_); refine goesL_ (some 20) rfl rfl Try.func60 (by kernel_rfl) rfl #[.pointer (some ⟨g, 0, none⟩), iv_ 2] rfl mp_ ?_; (with_reducible refine (spec_l1Below.calls g x k9 l2 2 I l3 l4 y _ ?side1 ?side2 A5.out).mono ?_); (case side1 => repeat (first | (with_reducible first | exact j.out | apply IsS102.alloc | apply IsS102.drewN | apply IsS102.drew | apply IsS102.set_1 | apply IsS102.set_2 | refine IsS102.far ?_ z.out _) | exact j.out)); (case side2 => repeat (first | (with_reducible first | exact HB.out | apply below_alloc | apply pw_below_drewN | apply below_drew1 | refine below_set ?_ (IsS102.ge j.out) | refine below_set ?_ T.out) | exact HB.out)); rintro e t4 ⟨rfl, hi, hb, hk⟩; refine ⟨_, rfl, sh4_ (KeepBut.blk hk (g' := s) (o := .cells #[iv_ 0, .slice none 0 0, .slice none 0 0, iv_ 0, iv_ 0, iv_ 0, iv_ 0, iv_ 0, .slice none 0 0, iv_ 0] 28 (0, 0)) (bk_ m) a0.out (by simp)) (KeepBut.trans (by repeat (first | (with_reducible first | exact HK.out | apply KeepBut.set_ | apply keep_drewN | apply keep_drew | apply keep_alloc | refine keep_far ?_ J.out _) | exact HK.out)) hk (.inl rfl)) hb hi ?_⟩; clear m HK HB j hb hk hi; intro m HK HB j) | ((with_reducible refine gate_callee (f := 60) rfl ?_); refine goesL_ (some 22) rfl rfl Try.func60 (by kernel_rfl) rfl #[.pointer (some ⟨g, 0, none⟩), iv_ 2] rfl mp_ ?_; (with_reducible refine (spec_l1Below.calls g x l3 l4 2 L h6 h7 y _ ?side1 ?side2 A6.out).mono ?_); (case side1 => repeat (first | (with_reducible first | exact j.out | apply IsS102.alloc | apply IsS102.drewN | apply IsS102.drew | apply IsS102.set_1 | apply IsS102.set_2 | refine IsS102.far ?_ z.out _) | exact j.out)); (case side2 => repeat (first | (with_reducible first | exact HB.out | apply below_alloc | apply pw_below_drewN | apply below_drew1 | refine below_set ?_ (IsS102.ge j.out) | refine below_set ?_ T.out) | exact HB.out)); rintro e t5 ⟨rfl, hi, hb, hk⟩; refine ⟨_, rfl, sh4_ (KeepBut.blk hk (g' := s) (o := .cells #[iv_ 0, .slice none 0 0, .slice none 0 0, iv_ 0, iv_ 0, iv_ 0, iv_ 0, iv_ 0, .slice none 0 0, iv_ 0] 28 (0, 0)) (bk_ m) a0.out (by simp)) (KeepBut.trans (by repeat (first | (with_reducible first | exact HK.out | apply KeepBut.set_ | apply keep_drewN | apply keep_drew | apply keep_alloc | refine keep_far ?_ J.out _) | exact HK.out)) hk (.inl rfl)) hb hi ?_⟩; clear m HK HB j hb hk hi; intro m HK HB j) | ((with_reducible refine gd_ 3 ?_); refine bx_ 3 28 #[iv_ 0, .slice none 0 0, .slice none 0 0, iv_ 0, iv_ 0, iv_ 0, iv_ 0, iv_ 0, .slice none 0 0, iv_ 0] ?_; intro O hg t6 hbox hb; refine sh11_ (IsS102.below (by repeat (first | (with_reducible first | exact j.out | apply IsS102.alloc | apply IsS102.drewN | apply IsS102.drew | apply IsS102.set_1 | apply IsS102.set_2 | refine IsS102.far ?_ z.out _) | exact j.out)) hb) (blk_below (bk_ m) hb) (KeepBut.trans (by repeat (first | (with_reducible first | exact HK.out | apply KeepBut.set_ | apply keep_drewN | apply keep_drew | apply keep_alloc | refine keep_far ?_ J.out _) | exact HK.out)) (KeepBut.of_below hb g none) (.inl rfl)) (below_step (by repeat (first | (with_reducible first | exact HB.out | apply below_alloc | apply pw_below_drewN | apply below_drew1 | refine below_set ?_ (IsS102.ge j.out) | refine below_set ?_ T.out) | exact HB.out)) hb) hbox ((by rw [hg]; exact (keep_size (w := w) (g := g) (row := none) (by repeat (first | (with_reducible first | exact HK.out | apply KeepBut.set_ | apply keep_drewN | apply keep_drew | apply keep_alloc | refine keep_far ?_ J.out _) | exact HK.out))) : w.heap.size ≤ O)) ((Nat.le_trans j7.out (by rw [hg]; exact (keep_size (w := w) (g := g) (row := none) (by repeat (first | (with_reducible first | exact HK.out | apply KeepBut.set_ | apply keep_drewN | apply keep_drew | apply keep_alloc | refine keep_far ?_ J.out _) | exact HK.out))) : w.heap.size ≤ O) : y.heap.size ≤ O)) (nl_ hg (bk_ m)) (ng_ hg (bk_ m)) ((by rw [hg]; exact Nat.ne_of_lt (IsS102.lt (show IsS102 y _ g x h6 h7 from by repeat (first | (with_reducible first | exact j.out | apply IsS102.alloc | apply IsS102.drewN | apply IsS102.drew | apply IsS102.set_1 | apply IsS102.set_2 | refine IsS102.far ?_ z.out _) | exact j.out))) : g ≠ O)) ((by rw [hg]; exact Nat.ne_of_gt (IsS102.lt (show IsS102 y _ g x h6 h7 from by repeat (first | (with_reducible first | exact j.out | apply IsS102.alloc | apply IsS102.drewN | apply IsS102.drew | apply IsS102.set_1 | apply IsS102.set_2 | refine IsS102.far ?_ z.out _) | exact j.out))) : O ≠ g)) ?_; clear j m HK HB hb hbox hg; intro j m HK HB l U Y a5 h2 B a2; have p9 := h2.out; have q7 := a5.out; have q0 := a2.out; have q8 := B.out; have p0 := cf10_ l))
 go_loopg [4] k (fun kq v4 w' => ∃ (a3 : Int) (d3 : Int) (d4 : Int) (a4 : List S72) (X : Value), v4 = iv_ a3 ∧ Aside0 (spec_l7Sky.l0 kq a3 x d3 d4 2 a4 (wrap64 (120 + (wrap64 (10 * D)))) (wrap64 (30 + (wrap64 (10 * E)))) (wrap64 (50 + (wrap64 (10 * G)))) I 60 L = some (r1, r2, r3, r4, r5, r6, r7, r8, r9, b2, b3, b4)) ∧ Aside0 (kq ≤ k) ∧ Aside0 (Kd.R k72 72 w' w.heap.size (fun _ => True) X a4) ∧ Aside0 (w'.heap[s]? = some (.cells #[iv_ 0, (.slice none 0 0), (.slice none 0 0), iv_ 0, iv_ 0, iv_ 0, iv_ 0, iv_ 0, (.slice none 0 0), iv_ 0] 28 (0, 0))) ∧ Aside0 (w'.heap[O]? = some (.cells #[iv_ 2, X, (.slice none 0 0), iv_ (wrap64 (120 + (wrap64 (10 * D)))), iv_ (wrap64 (30 + (wrap64 (10 * E)))), iv_ (wrap64 (50 + (wrap64 (10 * G)))), iv_ I, iv_ 60, (.slice none 0 0), iv_ L] 28 (0, 0))) ∧ Aside0 (IsS102 y w' g x d3 d4) ∧ Aside0 (KeepBut w w' g none) ∧ Aside0 (Below y.heap.size y w'))
 case atStart => exact ⟨(0), (h6), (h7), (([] : List S72)), (.slice none 0 0), (by first | rfl | (simp; done) | (simp [*]; done)), H', ⟨Nat.le_refl _⟩, ⟨by first | exact Kd.R_nil _ _ _ _ _ | exact Kd.N_nil _ _ _ _ _ | exact Kd.V_nil _ _ _ _ _ | exact Kd.Q_nil _ _ _ _ _ | exact Kd.S_nil _ _ _ _ _⟩, ⟨by (with_reducible repeat (first | refine blk_drewN ?_ _ | refine blk_drew ?_ | refine blk_alloc ?_ _)); refine blk_far ?_ a5.out _; (with_reducible repeat (first | refine blk_drewN ?_ _ | refine blk_drew ?_ | refine blk_alloc ?_ _)); refine blk_far ?_ a5.out _; (with_reducible repeat (first | refine blk_drewN ?_ _ | refine blk_drew ?_ | refine blk_alloc ?_ _)); refine blk_far ?_ a5.out _; (with_reducible repeat (first | refine blk_drewN ?_ _ | refine blk_drew ?_ | refine blk_alloc ?_ _)); refine blk_far ?_ a5.out _; (with_reducible repeat (first | refine blk_drewN ?_ _ | refine blk_drew ?_ | refine blk_alloc ?_ _)); refine blk_far ?_ a5.out _; (with_reducible repeat (first | refine blk_drewN ?_ _ | refine blk_drew ?_ | refine blk_alloc ?_ _)); refine blk_far ?_ a5.out _; (with_reducible repeat (first | refine blk_drewN ?_ _ | refine blk_drew ?_ | refine blk_alloc ?_ _)); refine blk_far ?_ a5.out _; (with_reducible repeat (first | refine blk_drewN ?_ _ | refine blk_drew ?_ | refine blk_alloc ?_ _)); refine blk_far ?_ a5.out _; (with_reducible repeat (first | refine blk_drewN ?_ _ | refine blk_drew ?_ | refine blk_alloc ?_ _)); refine blk_far ?_ a5.out _; (with_reducible repeat (first | refine blk_drewN ?_ _ | refine blk_drew ?_ | refine blk_alloc ?_ _)); refine blk_far ?_ a5.out _; (with_reducible repeat (first | refine blk_drewN ?_ _ | refine blk_drew ?_ | refine blk_alloc ?_ _)); exact m.out⟩, ⟨by (with_reducible repeat (first | refine blk_drewN ?_ _ | refine blk_drew ?_ | refine blk_alloc ?_ _)); refine blk_put (cs := #[iv_ 2, .slice none 0 0, .slice none 0 0, iv_ (wrap64 (120 + (wrap64 (10 * D)))), iv_ (wrap64 (30 + (wrap64 (10 * E)))), iv_ (wrap64 (50 + (wrap64 (10 * G)))), iv_ I, iv_ 60, .slice none 0 0, iv_ 0]) ?_ 9 _ rfl; (with_reducible repeat (first | refine blk_drewN ?_ _ | refine blk_drew ?_ | refine blk_alloc ?_ _)); refine blk_put (cs := #[iv_ 2, .slice none 0 0, .slice none 0 0, iv_ (wrap64 (120 + (wrap64 (10 * D)))), iv_ (wrap64 (30 + (wrap64 (10 * E)))), iv_ (wrap64 (50 + (wrap64 (10 * G)))), iv_ I, iv_ 60, .slice none 0 0, iv_ 0]) ?_ 8 _ rfl; (with_reducible repeat (first | refine blk_drewN ?_ _ | refine blk_drew ?_ | refine blk_alloc ?_ _)); refine blk_put (cs := #[iv_ 2, .slice none 0 0, .slice none 0 0, iv_ (wrap64 (120 + (wrap64 (10 * D)))), iv_ (wrap64 (30 + (wrap64 (10 * E)))), iv_ (wrap64 (50 + (wrap64 (10 * G)))), iv_ I, iv_ 0, .slice none 0 0, iv_ 0]) ?_ 7 _ rfl; (with_reducible repeat (first | refine blk_drewN ?_ _ | refine blk_drew ?_ | refine blk_alloc ?_ _)); refine blk_put (cs := #[iv_ 2, .slice none 0 0, .slice none 0 0, iv_ (wrap64 (120 + (wrap64 (10 * D)))), iv_ (wrap64 (30 + (wrap64 (10 * E)))), iv_ (wrap64 (50 + (wrap64 (10 * G)))), iv_ 0, iv_ 0, .slice none 0 0, iv_ 0]) ?_ 6 _ rfl; (with_reducible repeat (first | refine blk_drewN ?_ _ | refine blk_drew ?_ | refine blk_alloc ?_ _)); refine blk_put (cs := #[iv_ 2, .slice none 0 0, .slice none 0 0, iv_ (wrap64 (120 + (wrap64 (10 * D)))), iv_ (wrap64 (30 + (wrap64 (10 * E)))), iv_ 0, iv_ 0, iv_ 0, .slice none 0 0, iv_ 0]) ?_ 5 _ rfl; (with_reducible repeat (first | refine blk_drewN ?_ _ | refine blk_drew ?_ | refine blk_alloc ?_ _)); refine blk_put (cs := #[iv_ 2, .slice none 0 0, .slice none 0 0, iv_ (wrap64 (120 + (wrap64 (10 * D)))), iv_ 0, iv_ 0, iv_ 0, iv_ 0, .slice none 0 0, iv_ 0]) ?_ 4 _ rfl; (with_reducible repeat (first | refine blk_drewN ?_ _ | refine blk_drew ?_ | refine blk_alloc ?_ _)); refine blk_put (cs := #[iv_ 2, .slice none 0 0, .slice none 0 0, iv_ 0, iv_ 0, iv_ 0, iv_ 0, iv_ 0, .slice none 0 0, iv_ 0]) ?_ 3 _ rfl; (with_reducible repeat (first | refine blk_drewN ?_ _ | refine blk_drew ?_ | refine blk_alloc ?_ _)); refine blk_put (cs := #[iv_ 2, .slice none 0 0, .slice none 0 0, iv_ 0, iv_ 0, iv_ 0, iv_ 0, iv_ 0, .slice none 0 0, iv_ 0]) ?_ 2 _ rfl; (with_reducible repeat (first | refine blk_drewN ?_ _ | refine blk_drew ?_ | refine blk_alloc ?_ _)); refine blk_put (cs := #[iv_ 2, .slice none 0 0, .slice none 0 0, iv_ 0, iv_ 0, iv_ 0, iv_ 0, iv_ 0, .slice none 0 0, iv_ 0]) ?_ 1 _ rfl; (with_reducible repeat (first | refine blk_drewN ?_ _ | refine blk_drew ?_ | refine blk_alloc ?_ _)); refine blk_put (cs := #[iv_ 0, .slice none 0 0, .slice none 0 0, iv_ 0, iv_ 0, iv_ 0, iv_ 0, iv_ 0, .slice none 0 0, iv_ 0]) ?_ 0 _ rfl; (with_reducible repeat (first | refine blk_drewN ?_ _ | refine blk_drew ?_ | refine blk_alloc ?_ _)); exact l.out⟩, ⟨by repeat (first | (with_reducible first | exact j.out | apply IsS102.alloc | apply IsS102.drewN | apply IsS102.drew | apply IsS102.set_1 | apply IsS102.set_2 | refine IsS102.far ?_ z.out _ | refine IsS102.far ?_ B.out _) | exact j.out)⟩, ⟨by repeat (first | (with_reducible first | exact HK.out | apply KeepBut.set_ | apply keep_drewN | apply keep_drew | apply keep_alloc | refine keep_far ?_ J.out _ | refine keep_far ?_ U.out _) | exact HK.out)⟩, ⟨by repeat (first | (with_reducible first | exact HB.out | apply below_alloc | apply pw_below_drewN | apply below_drew1 | refine below_set ?_ (IsS102.ge j.out) | refine below_set ?_ T.out | refine below_set ?_ Y.out) | exact HB.out)⟩⟩
 case round =>
  clear H'
  obtain ⟨a3, d3, d4, a4, X, rfl, HA, h0, u, m, l, j, HK, HB⟩ := hrel
  cases gk with
  | zero => exact absurd HA.out (by simp [spec_l7Sky.l0])
  | succ k1 =>
   have H := HA.out
   clear HA
   simp only [spec_l7Sky.l0] at H
   by_cases e8 : a3 < 2
   ·rw [if_pos e8] at H
    have n6 := decide_eq_true e8
    clear e8
    replace H := bs_ H
    obtain ⟨⟨g5, l5, l6⟩, m2, H⟩ := H
    dsimp only at H
    have H' := Aside0.mk H
    clear H
    go_wp2_with (first | ((with_reducible refine gate_callee (f := 60) rfl ?_); refine goesL_ (some 29) rfl rfl Try.func60 (by kernel_rfl) rfl #[.pointer (some ⟨g, 0, none⟩), iv_ 2] rfl mp_ ?_; (with_reducible refine (spec_l1Below.calls g x d3 d4 2 g5 l5 l6 y _ ?side1 ?side2 m2.out).mono ?_); (case side1 => repeat (first | (with_reducible first | exact j.out | apply IsS102.alloc | apply IsS102.drewN | apply IsS102.drew | apply IsS102.set_1 | apply IsS102.set_2 | refine IsS102.far ?_ z.out _ | refine IsS102.far ?_ B.out _) | exact j.out)); (case side2 => repeat (first | (with_reducible first | exact HB.out | apply below_alloc | apply pw_below_drewN | apply below_drew1 | refine below_set ?_ (IsS102.ge j.out) | refine below_set ?_ T.out | refine below_set ?_ Y.out) | exact HB.out)); rintro e t7 ⟨rfl, hi, hb, hk⟩; refine ⟨_, rfl, sh6_ (Kd.R_mono (Kd.R_keep (IsS102.apart (show IsS102 y _ g x d3 d4 from by repeat (first | (with_reducible first | exact j.out | apply IsS102.alloc | apply IsS102.drewN | apply IsS102.drew | apply IsS102.set_1 | apply IsS102.set_2 | refine IsS102.far ?_ z.out _ | refine IsS102.far ?_ B.out _) | exact j.out)) (ra_ u) (by decide)) hk (fun _ h => h.2)) (fun _ h => h.1)) (KeepBut.blk hk (g' := s) (o := .cells #[iv_ 0, .slice none 0 0, .slice none 0 0, iv_ 0, iv_ 0, iv_ 0, iv_ 0, iv_ 0, .slice none 0 0, iv_ 0] 28 (0, 0)) (bk_ m) a0.out (by simp)) (KeepBut.blk hk (g' := O) (o := .cells #[iv_ 2, X, .slice none 0 0, iv_ (wrap64 (120 + (wrap64 (10 * D)))), iv_ (wrap64 (30 + (wrap64 (10 * E)))), iv_ (wrap64 (50 + (wrap64 (10 * G)))), iv_ I, iv_ 60, .slice none 0 0, iv_ L] 28 (0, 0)) (bk_ l) a2.out (by simp)) (KeepBut.trans (by repeat (first | (with_reducible first | exact HK.out | apply KeepBut.set_ | apply keep_drewN | apply keep_drew | apply keep_alloc | refine keep_far ?_ J.out _ | refine keep_far ?_ U.out _) | exact HK.out)) hk (.inl rfl)) hb hi ?_⟩; clear u m l HK HB j hb hk hi; intro u m l HK HB j))
    go_loopg [6] k1 (fun kq v6 w' => ∃ (d5 : Int) (f5 : Int) (f6 : Int) (f7 : List S72) (X : Value), v6 = iv_ d5 ∧ Aside0 (spec_l7Sky.l1 kq a3 (wrap64 (2 + g5)) d5 x f5 f6 2 f7 (wrap64 (120 + (wrap64 (10 * D)))) (wrap64 (30 + (wrap64 (10 * E)))) (wrap64 (50 + (wrap64 (10 * G)))) I 60 L = some (r1, r2, r3, r4, r5, r6, r7, r8, r9, b2, b3, b4)) ∧ Aside0 (kq ≤ k1) ∧ Aside0 (Kd.R k72 72 w' w.heap.size (fun _ => True) X f7) ∧ Aside0 (w'.heap[s]? = some (.cells #[iv_ 0, (.slice none 0 0), (.slice none 0 0), iv_ 0, iv_ 0, iv_ 0, iv_ 0, iv_ 0, (.slice none 0 0), iv_ 0] 28 (0, 0))) ∧ Aside0 (w'.heap[O]? = some (.cells #[iv_ 2, X, (.slice none 0 0), iv_ (wrap64 (120 + (wrap64 (10 * D)))), iv_ (wrap64 (30 + (wrap64 (10 * E)))), iv_ (wrap64 (50 + (wrap64 (10 * G)))), iv_ I, iv_ 60, (.slice none 0 0), iv_ L] 28 (0, 0))) ∧ Aside0 (IsS102 y w' g x f5 f6) ∧ Aside0 (KeepBut w w' g none) ∧ Aside0 (Below y.heap.size y w'))
    case atStart => exact ⟨(0), (l5), (l6), (a4), (X), (by first | rfl | (simp; done) | (simp [*]; done)), H', ⟨Nat.le_refl _⟩, ⟨ra_ u⟩, ⟨by (with_reducible repeat (first | refine blk_drewN ?_ _ | refine blk_drew ?_ | refine blk_alloc ?_ _)); exact m.out⟩, ⟨by (with_reducible repeat (first | refine blk_drewN ?_ _ | refine blk_drew ?_ | refine blk_alloc ?_ _)); exact l.out⟩, ⟨by repeat (first | (with_reducible first | exact j.out | apply IsS102.alloc | apply IsS102.drewN | apply IsS102.drew | apply IsS102.set_1 | apply IsS102.set_2 | refine IsS102.far ?_ z.out _ | refine IsS102.far ?_ B.out _) | exact j.out)⟩, ⟨by repeat (first | (with_reducible first | exact HK.out | apply KeepBut.set_ | apply keep_drewN | apply keep_drew | apply keep_alloc | refine keep_far ?_ J.out _ | refine keep_far ?_ U.out _) | exact HK.out)⟩, ⟨by repeat (first | (with_reducible first | exact HB.out | apply below_alloc | apply pw_below_drewN | apply below_drew1 | refine below_set ?_ (IsS102.ge j.out) | refine below_set ?_ T.out | refine below_set ?_ Y.out) | exact HB.out)⟩⟩
    case round =>
     clear H'
     obtain ⟨d5, f5, f6, f7, X, rfl, HA, h1, u, m, l, j, HK, HB⟩ := hrel
     cases gk with
     | zero => exact absurd HA.out (by simp [spec_l7Sky.l1])
     | succ k2 =>
      have H := HA.out
      clear HA
      simp only [spec_l7Sky.l1] at H
      by_cases e9 : d5 < (wrap64 (2 + g5))
      ·rw [if_pos e9] at H
       have n7 := decide_eq_true e9
       clear e9
       replace H := bs_ H
       obtain ⟨g6, m4, H⟩ := H
       replace H := bs_ H
       obtain ⟨⟨g7, i5, i6⟩, m5, H⟩ := H
       dsimp only at H
       replace H := bs_ H
       obtain ⟨⟨g8, i7, i8⟩, m6, H⟩ := H
       dsimp only at H
       replace H := ifn_ H
       obtain ⟨j9, H⟩ := H
       have n4 := Aside0.mk j9
       clear j9
       replace H : ∃ y_ : List S72, Aside0 (y_ = (f7 ++ [(⟨a3, g6, wrap64 (10 - (wrap64 ((wrap64 (4 * a3)) * g7))), g8⟩ : S72)])) ∧ (spec_l7Sky.l1 k2 a3 (wrap64 (2 + g5)) (wrap64 (d5 + 1)) x i7 i8 2 y_ (wrap64 (120 + (wrap64 (10 * D)))) (wrap64 (30 + (wrap64 (10 * E)))) (wrap64 (50 + (wrap64 (10 * G)))) I 60 L) = some (r1, r2, r3, r4, r5, r6, r7, r8, r9, b2, b3, b4) := ⟨_, ⟨rfl⟩, yh_ H⟩
       obtain ⟨i9, n5, H⟩ := H
       have H' := Aside0.mk H
       clear H
       try go_wp2
       refine sh6_ (Kd.R_drew u.out) (blk_drew m.out) (blk_drew l.out) (IsS102.drew j.out) (keep_drew HK.out) (below_drew1 HB.out) ?_
       clear u m l j HK HB
       intro u m l j HK HB
       refine start_ (n := 22) (S := fun w' => Cz10 w' O (iv_ 2) (X) (.slice none 0 0) (iv_ (wrap64 (120 + (wrap64 (10 * D))))) (iv_ (wrap64 (30 + (wrap64 (10 * E))))) (iv_ (wrap64 (50 + (wrap64 (10 * G))))) (iv_ I) (iv_ 60) (.slice none 0 0) (iv_ L)) (ds := [21]) (bo_ 22 0) (by kernel_rfl) rfl rfl (cz10_ l) (fun hHeld => ?_); refine with_tabW spec_l7Sky.tab9 spec_l7Sky.bits9 (fun HT_ HW_ => ?_)
       generalize wr.drew = t8 at u m l j HK HB hHeld ⊢
       refine pur_ 0 (bo_ 22 1) (some 36) HT_ ?_
       refine pur_ 2 (bo_ 22 5) (some 38) HT_ ?_
       refine pur_ 3 (bo_ 22 13) (some 39) HT_ ?_
       refine pur_ 4 (bo_ 22 29) (some 40) HT_ ?_
       refine pur_ 5 (bo_ 22 61) (some 41) HT_ ?_
       refine pur_ 6 (bo_ 22 125) (some 42) HT_ ?_
       refine pur_ 7 (bo_ 22 253) (some 43) HT_ ?_
       refine pur_ 9 (bo_ 22 765) (some 45) HT_ ?_
       refine pur_ 10 (bo_ 22 1789) (some 46) HT_ ?_
       refine pur_ 11 (bo_ 22 3837) (some 47) HT_ ?_
       refine pur_ 15 (bo_ 22 36605) (some 51) HT_ ?_
       refine tak_ 1 (bo_ 22 36607) (some 37) HT_ HW_ hHeld ?_
       refine onc_ 8 (bo_ 22 36863) (some 44) HT_ Try.func97 (spec_AngleOf.calls (wrap64 ((wrap64 (120 * d5)) + (wrap64 (20 * a3)))) g6 _ m4.out) ?_
       rintro e w' ⟨rfl, ⟨nd, rfl⟩⟩
       refine ⟨_, _, rfl, (cz10_ l), pt_, fun hHeld => ?_⟩
       refine one_ (i := 12) (N := some 48) (bo_ 22 40959) rfl rfl (one_of HT_.out (by kernel_rfl)) (by decide) (fun K hK => ?_)
       refine goes_ Try.func60 (by kernel_rfl) rfl #[.pointer (some ⟨g, 0, none⟩), iv_ 2] (by rfl) rfl rfl mp_ ?_
       with_reducible refine (spec_l1Below.calls g x f5 f6 2 g7 i5 i6 y _ ?side1 ?side2 m5.out).mono ?_
       (case side1 => repeat (first | (with_reducible first | exact j.out | apply IsS102.alloc | apply IsS102.drewN | apply IsS102.drew | apply IsS102.set_1 | apply IsS102.set_2 | refine IsS102.far ?_ z.out _ | refine IsS102.far ?_ B.out _) | exact j.out))
       (case side2 => repeat (first | (with_reducible first | exact HB.out | apply below_alloc | apply pw_below_drewN | apply below_drew1 | refine below_set ?_ (IsS102.ge j.out) | refine below_set ?_ T.out | refine below_set ?_ Y.out) | exact HB.out))
       rintro e t9 ⟨rfl, hi, hb, hk⟩
       refine ⟨_, rfl, sh6_ (Kd.R_mono (Kd.R_keep (IsS102.apart (show IsS102 y _ g x f5 f6 from by repeat (first | (with_reducible first | exact j.out | apply IsS102.alloc | apply IsS102.drewN | apply IsS102.drew | apply IsS102.set_1 | apply IsS102.set_2 | refine IsS102.far ?_ z.out _ | refine IsS102.far ?_ B.out _) | exact j.out)) (ra_ u) (by decide)) hk (fun _ h => h.2)) (fun _ h => h.1)) (KeepBut.blk hk (g' := s) (o := .cells #[iv_ 0, .slice none 0 0, .slice none 0 0, iv_ 0, iv_ 0, iv_ 0, iv_ 0, iv_ 0, .slice none 0 0, iv_ 0] 28 (0, 0)) (bk_ m) a0.out (by simp)) (KeepBut.blk hk (g' := O) (o := .cells #[iv_ 2, X, .slice none 0 0, iv_ (wrap64 (120 + (wrap64 (10 * D)))), iv_ (wrap64 (30 + (wrap64 (10 * E)))), iv_ (wrap64 (50 + (wrap64 (10 * G)))), iv_ I, iv_ 60, .slice none 0 0, iv_ L] 28 (0, 0)) (bk_ l) a2.out (by simp)) (KeepBut.trans (by repeat (first | (with_reducible first | exact HK.out | apply KeepBut.set_ | apply keep_drewN | apply keep_drew | apply keep_alloc | refine keep_far ?_ J.out _ | refine keep_far ?_ U.out _) | exact HK.out)) hk (.inl rfl)) hb hi ?_⟩
       clear u m l HK HB j hb hk hi
       intro u m l HK HB j
       refine hK.out _ _ (cz10_ l) (fun hHeld => ?_)
       clear hK K
       refine norm_ (show Act.put _ (some 48) _ = _ from pt_) ?_
       refine pur_ 13 (bo_ 22 49151) (some 49) HT_ ?_
       refine pur_ 14 (bo_ 22 65535) (some 50) HT_ ?_
       refine one_ (i := 16) (N := some 52) (bo_ 22 131071) rfl rfl (one_of HT_.out (by kernel_rfl)) (by decide) (fun K hK => ?_)
       refine goes_ Try.func60 (by kernel_rfl) rfl #[.pointer (some ⟨g, 0, none⟩), iv_ 2] (by rfl) rfl rfl mp_ ?_
       with_reducible refine (spec_l1Below.calls g x i5 i6 2 g8 i7 i8 y _ ?side1 ?side2 m6.out).mono ?_
       (case side1 => repeat (first | (with_reducible first | exact j.out | apply IsS102.alloc | apply IsS102.drewN | apply IsS102.drew | apply IsS102.set_1 | apply IsS102.set_2 | refine IsS102.far ?_ z.out _ | refine IsS102.far ?_ B.out _) | exact j.out))
       (case side2 => repeat (first | (with_reducible first | exact HB.out | apply below_alloc | apply pw_below_drewN | apply below_drew1 | refine below_set ?_ (IsS102.ge j.out) | refine below_set ?_ T.out | refine below_set ?_ Y.out) | exact HB.out))
       rintro e u0 ⟨rfl, hi, hb, hk⟩
       refine ⟨_, rfl, sh6_ (Kd.R_mono (Kd.R_keep (IsS102.apart (show IsS102 y _ g x i5 i6 from by repeat (first | (with_reducible first | exact j.out | apply IsS102.alloc | apply IsS102.drewN | apply IsS102.drew | apply IsS102.set_1 | apply IsS102.set_2 | refine IsS102.far ?_ z.out _ | refine IsS102.far ?_ B.out _) | exact j.out)) (ra_ u) (by decide)) hk (fun _ h => h.2)) (fun _ h => h.1)) (KeepBut.blk hk (g' := s) (o := .cells #[iv_ 0, .slice none 0 0, .slice none 0 0, iv_ 0, iv_ 0, iv_ 0, iv_ 0, iv_ 0, .slice none 0 0, iv_ 0] 28 (0, 0)) (bk_ m) a0.out (by simp)) (KeepBut.blk hk (g' := O) (o := .cells #[iv_ 2, X, .slice none 0 0, iv_ (wrap64 (120 + (wrap64 (10 * D)))), iv_ (wrap64 (30 + (wrap64 (10 * E)))), iv_ (wrap64 (50 + (wrap64 (10 * G)))), iv_ I, iv_ 60, .slice none 0 0, iv_ L] 28 (0, 0)) (bk_ l) a2.out (by simp)) (KeepBut.trans (by repeat (first | (with_reducible first | exact HK.out | apply KeepBut.set_ | apply keep_drewN | apply keep_drew | apply keep_alloc | refine keep_far ?_ J.out _ | refine keep_far ?_ U.out _) | exact HK.out)) hk (.inl rfl)) hb hi ?_⟩
       clear u m l HK HB j hb hk hi
       intro u m l HK HB j
       refine hK.out _ _ (cz10_ l) (fun hHeld => ?_)
       clear hK K
       refine norm_ (show Act.put _ (some 52) _ = _ from pt_) ?_
       refine pur_ 17 (bo_ 22 262143) (some 53) HT_ ?_
       refine one_ (i := 18) (N := some 54) (bo_ 22 524287) rfl rfl (one_of HT_.out (by kernel_rfl)) (by decide) (fun K hK => ?_)
       refine value_ (w1 := ?_) (v := ?_) (by rfl) rfl ?_ ?_
       rotate_left 2
       ·go_simp
        constructor
        ·rfl
        ·rfl
       refine hK.out _ _ ⟨(blk_cell (blk_alloc l.out _) 0).trans rfl, (blk_cell (blk_alloc l.out _) 1).trans rfl, (blk_cell (blk_alloc l.out _) 2).trans rfl, (blk_cell (blk_alloc l.out _) 3).trans rfl, (blk_cell (blk_alloc l.out _) 4).trans rfl, (blk_cell (blk_alloc l.out _) 5).trans rfl, (blk_cell (blk_alloc l.out _) 6).trans rfl, (blk_cell (blk_alloc l.out _) 7).trans rfl, (blk_cell (blk_alloc l.out _) 8).trans rfl, (blk_cell (blk_alloc l.out _) 9).trans rfl⟩ (fun hHeld => ?_)
       clear hK K
       refine norm_ (show Act.put _ (some 54) _ = _ from pt_) ?_
       refine one_ (i := 19) (N := some 55) (bo_ 22 1048575) rfl rfl (one_of HT_.out (by kernel_rfl)) (by decide) (fun K hK => ?_)
       refine Kd.R_append_step k72 w.heap.size (by rfl) (.tmp 37) (.tmp 54) 24 72 (.agg #[(iv_ 0), (iv_ 0), (iv_ 0), (iv_ 0)]) 32 rfl Try.underlying24 info72 rfl (by decide) (by omega) X f7 (⟨a3, g6, wrap64 (10 - (wrap64 ((wrap64 (4 * a3)) * g7))), g8⟩ : S72) [iv_ a3, iv_ g6, iv_ (wrap64 (10 - (wrap64 ((wrap64 (4 * a3)) * g7)))), iv_ g8] (fun _ => True) (fun _ => False) rfl rfl ?aP (fun _ hk => hk.elim) ?aF ?aO (Below.refl _ _) ?aS ?aL ?_
       (case aP => exact k72_mkM _ _ _ (⟨a3, g6, wrap64 (10 - (wrap64 ((wrap64 (4 * a3)) * g7))), g8⟩ : S72))
       (case aF => exact (fun _ _ => trivial))
       (case aO => exact (ra_ u))
       (case aS => exact (keep_size (w := w) (g := g) (row := none) (by repeat (first | (with_reducible first | exact HK.out | apply KeepBut.set_ | apply keep_drewN | apply keep_drew | apply keep_alloc | refine keep_far ?_ J.out _ | refine keep_far ?_ U.out _) | exact HK.out))))
       (case aL => have := n4.out; omega)
       intro t1 o9 ho hb hg hat
       rw [← n5.out] at ho
       refine sh6_ (blk_grown (g := s) (o := .cells #[iv_ 0, .slice none 0 0, .slice none 0 0, iv_ 0, iv_ 0, iv_ 0, iv_ 0, iv_ 0, .slice none 0 0, iv_ 0] 28 (0, 0)) (bk_ m) hg (Kd.R_ne u.out m.out (by decide))) (blk_grown (g := O) (o := .cells #[iv_ 2, X, .slice none 0 0, iv_ (wrap64 (120 + (wrap64 (10 * D)))), iv_ (wrap64 (30 + (wrap64 (10 * E)))), iv_ (wrap64 (50 + (wrap64 (10 * G)))), iv_ I, iv_ 60, .slice none 0 0, iv_ L] 28 (0, 0)) (bk_ l) hg (Kd.R_ne u.out l.out (by decide))) (IsS102.grown (by repeat (first | (with_reducible first | exact j.out | apply IsS102.alloc | apply IsS102.drewN | apply IsS102.drew | apply IsS102.set_1 | apply IsS102.set_2 | refine IsS102.far ?_ z.out _ | refine IsS102.far ?_ B.out _) | exact j.out)) hg (IsS102.own_ne j.out u.out (by decide))) (below_weaken (by repeat (first | (with_reducible first | exact HB.out | apply below_alloc | apply pw_below_drewN | apply below_drew1 | refine below_set ?_ (IsS102.ge j.out) | refine below_set ?_ T.out | refine below_set ?_ Y.out) | exact HB.out)) HL.out hb) (KeepBut.trans (by repeat (first | (with_reducible first | exact HK.out | apply KeepBut.set_ | apply keep_drewN | apply keep_drew | apply keep_alloc | refine keep_far ?_ J.out _ | refine keep_far ?_ U.out _) | exact HK.out)) (KeepBut.of_grown hg g) (Kd.R_base2 u.out)) ho ?_
       clear m l j HB HK u ho hb hg hat
       intro m l j HB HK j5
       obtain ⟨j4, k0, k3⟩ := Kd.R_slice j5.out
       (first | subst k3 | (injection k3 with f1_ f2_ f3_; have o3 := f1_.symm; have o4 := f3_.symm; clear f1_ f2_ f3_; subst o3; subst o4))
       refine hK.out _ _ (cz10_ l) (fun hHeld => ?_)
       clear hK K
       refine norm_ (show Act.put _ (some 55) _ = _ from pt_) ?_
       refine pur_ 20 (bo_ 22 2097151) (some 56) HT_ ?_
       refine last_ (i := 21) (N := none) (bo_ 22 4194303) rfl rfl (one_of HT_.out (by kernel_rfl)) (by decide) (fun K hK => ?_)
       have s5 : o9.cell? ⟨O, 1, none⟩ = some (X) := bc_ l 1 rfl
       have p7 := bf_ l 1
       have s4 := a5.out
       have p8 := h2.out
       refine skip_ (w1 := ?_) (by rfl) rfl ?_ ?_
       rotate_left
       ·go_simp
        rfl
       refine hK.out _ _ ?_
       clear hK K
       refine done_ (done_of HT_.out (by kernel_rfl)) ?_
       try go_wp2
       go_roundg k2
       case measure => have := h0.out; have := h1.out; omega
       case rel => exact ⟨(wrap64 (d5 + 1)), (i7), (i8), (i9), (.slice j4 i9.length k0), (by first | rfl | (simp; done) | (simp [*]; done)), H', ⟨by have := h0.out; have := h1.out; omega⟩, ⟨by (with_reducible repeat (first | apply Kd.R_alloc | apply Kd.R_drewN | apply Kd.R_drew)); exact Kd.R_mono (Kd.R_far (p := ⟨O, 1, none⟩) (Kd.R_types j5.out l.out (by decide)) (fun _ hk => hk.2) (.slice j4 i9.length k0)) (fun _ hk => trivial)⟩, ⟨by (with_reducible repeat (first | refine blk_drewN ?_ _ | refine blk_drew ?_ | refine blk_alloc ?_ _)); refine blk_far ?_ a5.out _; (with_reducible repeat (first | refine blk_drewN ?_ _ | refine blk_drew ?_ | refine blk_alloc ?_ _)); exact m.out⟩, ⟨by (with_reducible repeat (first | refine blk_drewN ?_ _ | refine blk_drew ?_ | refine blk_alloc ?_ _)); refine blk_put (cs := #[iv_ 2, X, .slice none 0 0, iv_ (wrap64 (120 + (wrap64 (10 * D)))), iv_ (wrap64 (30 + (wrap64 (10 * E)))), iv_ (wrap64 (50 + (wrap64 (10 * G)))), iv_ I, iv_ 60, .slice none 0 0, iv_ L]) ?_ 1 _ rfl; (with_reducible repeat (first | refine blk_drewN ?_ _ | refine blk_drew ?_ | refine blk_alloc ?_ _)); exact l.out⟩, ⟨by repeat (first | (with_reducible first | exact j.out | apply IsS102.alloc | apply IsS102.drewN | apply IsS102.drew | apply IsS102.set_1 | apply IsS102.set_2 | refine IsS102.far ?_ z.out _ | refine IsS102.far ?_ B.out _) | exact j.out)⟩, ⟨by repeat (first | (with_reducible first | exact HK.out | apply KeepBut.set_ | apply keep_drewN | apply keep_drew | apply keep_alloc | refine keep_far ?_ J.out _ | refine keep_far ?_ U.out _) | exact HK.out)⟩, ⟨by repeat (first | (with_reducible first | exact HB.out | apply below_alloc | apply pw_below_drewN | apply below_drew1 | refine below_set ?_ (IsS102.ge j.out) | refine below_set ?_ T.out | refine below_set ?_ Y.out) | exact HB.out)⟩⟩
      ·rw [if_neg e9] at H
       have n7 : decide (d5 < (wrap64 (2 + g5))) = false := decide_eq_false e9
       clear e9
       have H' := Aside0.mk H
       clear H
       go_wp2
       go_roundg k2
       case measure => have := h0.out; have := h1.out; omega
       case rel => exact ⟨(wrap64 (a3 + 1)), (f5), (f6), (f7), (X), (by first | rfl | (simp; done) | (simp [*]; done)), H', ⟨by have := h0.out; have := h1.out; omega⟩, ⟨ra_ u⟩, ⟨by (with_reducible repeat (first | refine blk_drewN ?_ _ | refine blk_drew ?_ | refine blk_alloc ?_ _)); exact m.out⟩, ⟨by (with_reducible repeat (first | refine blk_drewN ?_ _ | refine blk_drew ?_ | refine blk_alloc ?_ _)); exact l.out⟩, ⟨by repeat (first | (with_reducible first | exact j.out | apply IsS102.alloc | apply IsS102.drewN | apply IsS102.drew | apply IsS102.set_1 | apply IsS102.set_2 | refine IsS102.far ?_ z.out _ | refine IsS102.far ?_ B.out _) | exact j.out)⟩, ⟨by repeat (first | (with_reducible first | exact HK.out | apply KeepBut.set_ | apply keep_drewN | apply keep_drew | apply keep_alloc | refine keep_far ?_ J.out _ | refine keep_far ?_ U.out _) | exact HK.out)⟩, ⟨by repeat (first | (with_reducible first | exact HB.out | apply below_alloc | apply pw_below_drewN | apply below_drew1 | refine below_set ?_ (IsS102.ge j.out) | refine below_set ?_ T.out | refine below_set ?_ Y.out) | exact HB.out)⟩⟩
   ·rw [if_neg e8] at H
    have n6 : decide (a3 < 2) = false := decide_eq_false e8
    clear e8
    replace H := bs_ H
    obtain ⟨⟨a6, f1, f2⟩, j0, H⟩ := H
    dsimp only at H
    replace H := bs_ H
    obtain ⟨⟨a7, f3, f4⟩, j1, H⟩ := H
    dsimp only at H
    replace H := bs_ H
    obtain ⟨⟨a8, d1, d2⟩, j2, H⟩ := H
    dsimp only at H
    replace H : ∃ y_ : List S74, Aside0 (y_ = (([(⟨0, wrap64 (10 * a6), a7⟩ : S74), (⟨1, wrap64 (180 + (wrap64 (10 * a8))), 0⟩ : S74)] : List S74))) ∧ ((spec_l1Once.f x d1 d2 3).bind fun f9 => (if f9.1 = true then ((spec_l1Below.f x f9.2.1 f9.2.2 2).bind fun d7 => ((spec_l1Below.f x d7.2.1 d7.2.2 36).bind fun d8 => ((spec_l1Below.f x d8.2.1 d8.2.2 5).bind fun d9 => (some (2, a4, y_, (wrap64 (120 + (wrap64 (10 * D)))), (wrap64 (30 + (wrap64 (10 * E)))), (wrap64 (50 + (wrap64 (10 * G)))), I, 60, (([(⟨d7.1, (⟨wrap64 (10 * d8.1), wrap64 (10 * d9.1)⟩ : S35)⟩ : S88)] : List S88)), L, d9.2.1, d9.2.2))))) else (some (2, a4, y_, (wrap64 (120 + (wrap64 (10 * D)))), (wrap64 (30 + (wrap64 (10 * E)))), (wrap64 (50 + (wrap64 (10 * G)))), I, 60, ([] : List S88), L, f9.2.1, f9.2.2)))) = some (r1, r2, r3, r4, r5, r6, r7, r8, r9, b2, b3, b4) := ⟨_, ⟨rfl⟩, yh_ H⟩
    obtain ⟨a1, h3, H⟩ := H
    replace H := bs_ H
    obtain ⟨⟨o5, e1, e2⟩, j3, H⟩ := H
    dsimp only at H
    by_cases h4 : o5 = true
    ·subst h4
     have H1 : ((spec_l1Below.f x e1 e2 2).bind fun d7 => ((spec_l1Below.f x d7.2.1 d7.2.2 36).bind fun d8 => ((spec_l1Below.f x d8.2.1 d8.2.2 5).bind fun d9 => (some (2, a4, a1, (wrap64 (120 + (wrap64 (10 * D)))), (wrap64 (30 + (wrap64 (10 * E)))), (wrap64 (50 + (wrap64 (10 * G)))), I, 60, (([(⟨d7.1, (⟨wrap64 (10 * d8.1), wrap64 (10 * d9.1)⟩ : S35)⟩ : S88)] : List S88)), L, d9.2.1, d9.2.2))))) = some (r1, r2, r3, r4, r5, r6, r7, r8, r9, b2, b3, b4) := by rw [if_pos rfl] at H; exact H
     clear H
     have H := H1
     clear H1
     replace H := bs_ H
     obtain ⟨⟨e3, h8, h9⟩, m8, H⟩ := H
     dsimp only at H
     replace H := bs_ H
     obtain ⟨⟨e4, i0, i1⟩, m9, H⟩ := H
     dsimp only at H
     replace H := bs_ H
     obtain ⟨⟨e5, l7, l8⟩, n0, H⟩ := H
     dsimp only at H
     replace H : ∃ y_ : List S88, Aside0 (y_ = (([(⟨e3, (⟨wrap64 (10 * e4), wrap64 (10 * e5)⟩ : S35)⟩ : S88)] : List S88))) ∧ (some (2, a4, a1, (wrap64 (120 + (wrap64 (10 * D)))), (wrap64 (30 + (wrap64 (10 * E)))), (wrap64 (50 + (wrap64 (10 * G)))), I, 60, y_, L, l7, l8)) = some (r1, r2, r3, r4, r5, r6, r7, r8, r9, b2, b3, b4) := ⟨_, ⟨rfl⟩, yh_ H⟩
     obtain ⟨e6, j8, H⟩ := H
     simp only [Option.some.injEq, Prod.mk.injEq] at H
     obtain ⟨rfl, rfl, rfl, rfl, rfl, rfl, rfl, rfl, rfl, rfl, rfl, rfl⟩ := H
     go_wp2_with (first | ((with_reducible refine gate_callee (f := 60) rfl ?_); refine goesL_ (some 58) rfl rfl Try.func60 (by kernel_rfl) rfl #[.pointer (some ⟨g, 0, none⟩), iv_ 12] rfl mp_ ?_; (with_reducible refine (spec_l1Below.calls g x d3 d4 12 a6 f1 f2 y _ ?side1 ?side2 j0.out).mono ?_); (case side1 => repeat (first | (with_reducible first | exact j.out | apply IsS102.alloc | apply IsS102.drewN | apply IsS102.drew | apply IsS102.set_1 | apply IsS102.set_2 | refine IsS102.far ?_ z.out _ | refine IsS102.far ?_ B.out _) | exact j.out)); (case side2 => repeat (first | (with_reducible first | exact HB.out | apply below_alloc | apply pw_below_drewN | apply below_drew1 | refine below_set ?_ (IsS102.ge j.out) | refine below_set ?_ T.out | refine below_set ?_ Y.out) | exact HB.out)); rintro e u1 ⟨rfl, hi, hb, hk⟩; refine ⟨_, rfl, sh6_ (Kd.R_mono (Kd.R_keep (IsS102.apart (show IsS102 y _ g x d3 d4 from by repeat (first | (with_reducible first | exact j.out | apply IsS102.alloc | apply IsS102.drewN | apply IsS102.drew | apply IsS102.set_1 | apply IsS102.set_2 | refine IsS102.far ?_ z.out _ | refine IsS102.far ?_ B.out _) | exact j.out)) (ra_ u) (by decide)) hk (fun _ h => h.2)) (fun _ h => h.1)) (KeepBut.blk hk (g' := s) (o := .cells #[iv_ 0, .slice none 0 0, .slice none 0 0, iv_ 0, iv_ 0, iv_ 0, iv_ 0, iv_ 0, .slice none 0 0, iv_ 0] 28 (0, 0)) (bk_ m) a0.out (by simp)) (KeepBut.blk hk (g' := O) (o := .cells #[iv_ 2, X, .slice none 0 0, iv_ (wrap64 (120 + (wrap64 (10 * D)))), iv_ (wrap64 (30 + (wrap64 (10 * E)))), iv_ (wrap64 (50 + (wrap64 (10 * G)))), iv_ I, iv_ 60, .slice none 0 0, iv_ L] 28 (0, 0)) (bk_ l) a2.out (by simp)) (KeepBut.trans (by repeat (first | (with_reducible first | exact HK.out | apply KeepBut.set_ | apply keep_drewN | apply keep_drew | apply keep_alloc | refine keep_far ?_ J.out _ | refine keep_far ?_ U.out _) | exact HK.out)) hk (.inl rfl)) hb hi ?_⟩; clear u m l HK HB j hb hk hi; intro u m l HK HB j) | ((with_reducible refine gate_callee (f := 60) rfl ?_); refine goesL_ (some 61) rfl rfl Try.func60 (by kernel_rfl) rfl #[.pointer (some ⟨g, 0, none⟩), iv_ 2] rfl mp_ ?_; (with_reducible refine (spec_l1Below.calls g x f1 f2 2 a7 f3 f4 y _ ?side1 ?side2 j1.out).mono ?_); (case side1 => repeat (first | (with_reducible first | exact j.out | apply IsS102.alloc | apply IsS102.drewN | apply IsS102.drew | apply IsS102.set_1 | apply IsS102.set_2 | refine IsS102.far ?_ z.out _ | refine IsS102.far ?_ B.out _) | exact j.out)); (case side2 => repeat (first | (with_reducible first | exact HB.out | apply below_alloc | apply pw_below_drewN | apply below_drew1 | refine below_set ?_ (IsS102.ge j.out) | refine below_set ?_ T.out | refine below_set ?_ Y.out) | exact HB.out)); rintro e u2 ⟨rfl, hi, hb, hk⟩; refine ⟨_, rfl, sh6_ (Kd.R_mono (Kd.R_keep (IsS102.apart (show IsS102 y _ g x f1 f2 from by repeat (first | (with_reducible first | exact j.out | apply IsS102.alloc | apply IsS102.drewN | apply IsS102.drew | apply IsS102.set_1 | apply IsS102.set_2 | refine IsS102.far ?_ z.out _ | refine IsS102.far ?_ B.out _) | exact j.out)) (ra_ u) (by decide)) hk (fun _ h => h.2)) (fun _ h => h.1)) (KeepBut.blk hk (g' := s) (o := .cells #[iv_ 0, .slice none 0 0, .slice none 0 0, iv_ 0, iv_ 0, iv_ 0, iv_ 0, iv_ 0, .slice none 0 0, iv_ 0] 28 (0, 0)) (bk_ m) a0.out (by simp)) (KeepBut.blk hk (g' := O) (o := .cells #[iv_ 2, X, .slice none 0 0, iv_ (wrap64 (120 + (wrap64 (10 * D)))), iv_ (wrap64 (30 + (wrap64 (10 * E)))), iv_ (wrap64 (50 + (wrap64 (10 * G)))), iv_ I, iv_ 60, .slice none 0 0, iv_ L] 28 (0, 0)) (bk_ l) a2.out (by simp)) (KeepBut.trans (by repeat (first | (with_reducible first | exact HK.out | apply KeepBut.set_ | apply keep_drewN | apply keep_drew | apply keep_alloc | refine keep_far ?_ J.out _ | refine keep_far ?_ U.out _) | exact HK.out)) hk (.inl rfl)) hb hi ?_⟩; clear u m l HK HB j hb hk hi; intro u m l HK HB j) | ((with_reducible refine gate_callee (f := 60) rfl ?_); refine goesL_ (some 64) rfl rfl Try.func60 (by kernel_rfl) rfl #[.pointer (some ⟨g, 0, none⟩), iv_ 12] rfl mp_ ?_; (with_reducible refine (spec_l1Below.calls g x f3 f4 12 a8 d1 d2 y _ ?side1 ?side2 j2.out).mono ?_); (case side1 => repeat (first | (with_reducible first | exact j.out | apply IsS102.alloc | apply IsS102.drewN | apply IsS102.drew | apply IsS102.set_1 | apply IsS102.set_2 | refine IsS102.far ?_ z.out _ | refine IsS102.far ?_ B.out _) | exact j.out)); (case side2 => repeat (first | (with_reducible first | exact HB.out | apply below_alloc | apply pw_below_drewN | apply below_drew1 | refine below_set ?_ (IsS102.ge j.out) | refine below_set ?_ T.out | refine below_set ?_ Y.out) | exact HB.out)); rintro e u3 ⟨rfl, hi, hb, hk⟩; refine ⟨_, rfl, sh6_ (Kd.R_mono (Kd.R_keep (IsS102.apart (show IsS102 y _ g x f3 f4 from by repeat (first | (with_reducible first | exact j.out | apply IsS102.alloc | apply IsS102.drewN | apply IsS102.drew | apply IsS102.set_1 | apply IsS102.set_2 | refine IsS102.far ?_ z.out _ | refine IsS102.far ?_ B.out _) | exact j.out)) (ra_ u) (by decide)) hk (fun _ h => h.2)) (fun _ h => h.1)) (KeepBut.blk hk (g' := s) (o := .cells #[iv_ 0, .slice none 0 0, .slice none 0 0, iv_ 0, iv_ 0, iv_ 0, iv_ 0, iv_ 0, .slice none 0 0, iv_ 0] 28 (0, 0)) (bk_ m) a0.out (by simp)) (KeepBut.blk hk (g' := O) (o := .cells #[iv_ 2, X, .slice none 0 0, iv_ (wrap64 (120 + (wrap64 (10 * D)))), iv_ (wrap64 (30 + (wrap64 (10 * E)))), iv_ (wrap64 (50 + (wrap64 (10 * G)))), iv_ I, iv_ 60, .slice none 0 0, iv_ L] 28 (0, 0)) (bk_ l) a2.out (by simp)) (KeepBut.trans (by repeat (first | (with_reducible first | exact HK.out | apply KeepBut.set_ | apply keep_drewN | apply keep_drew | apply keep_alloc | refine keep_far ?_ J.out _ | refine keep_far ?_ U.out _) | exact HK.out)) hk (.inl rfl)) hb hi ?_⟩; clear u m l HK HB j hb hk hi; intro u m l HK HB j) | ((with_reducible refine gate_dst (N := 68) rfl ?_); refine Kd.R_lit k74 _ 74 ?hg (N := 68) ?hd (xs := ([(⟨0, wrap64 (10 * a6), a7⟩ : S74), (⟨1, wrap64 (180 + (wrap64 (10 * a8))), 0⟩ : S74)] : List S74)) (inner := [iv_ 0, iv_ (wrap64 (10 * a6)), iv_ a7, iv_ 1, iv_ (wrap64 (180 + (wrap64 (10 * a8)))), iv_ 0]) (ok := fun _ => True) (okp := fun _ => True) ?hr ?hp (fun _ hk => hk) trivial (Below.refl _ _) (Nat.le_refl _) (by simp) ?_; (case hd => rfl); (case hg => rfl); (case hr => first | (go_simp; done) | (go_simp; rfl)); (case hp => exact (Reps.c3 (show Kd.M k74 _ _ _ (⟨0, wrap64 (10 * a6), a7⟩ : S74) [iv_ 0, iv_ (wrap64 (10 * a6)), iv_ a7] from (k74_mkM _ _ _ (⟨0, wrap64 (10 * a6), a7⟩ : S74) )) (Reps.c3 (show Kd.M k74 _ _ _ (⟨1, wrap64 (180 + (wrap64 (10 * a8))), 0⟩ : S74) [iv_ 1, iv_ (wrap64 (180 + (wrap64 (10 * a8)))), iv_ 0] from (k74_mkM _ _ _ (⟨1, wrap64 (180 + (wrap64 (10 * a8))), 0⟩ : S74) )) (Reps.none _ _)))); intro o6 u4 g0 hb hg_ hnew_; clear hg_ hnew_; (first | rw [← h3.out] at g0 | (simp only [Int.reduceToNat] at g0; rw [← h3.out] at g0)); refine sh7_ (Kd.R_below (ra_ u) hb) (Kd.R_lower g0 (keep_size (w := w) (g := g) (row := none) (by repeat (first | (with_reducible first | exact HK.out | apply KeepBut.set_ | apply keep_drewN | apply keep_drew | apply keep_alloc | refine keep_far ?_ J.out _ | refine keep_far ?_ U.out _) | exact HK.out)))) (blk_below (bk_ m) hb) (blk_below (bk_ l) hb) (IsS102.below (by repeat (first | (with_reducible first | exact j.out | apply IsS102.alloc | apply IsS102.drewN | apply IsS102.drew | apply IsS102.set_1 | apply IsS102.set_2 | refine IsS102.far ?_ z.out _ | refine IsS102.far ?_ B.out _) | exact j.out)) hb) (KeepBut.trans (by repeat (first | (with_reducible first | exact HK.out | apply KeepBut.set_ | apply keep_drewN | apply keep_drew | apply keep_alloc | refine keep_far ?_ J.out _ | refine keep_far ?_ U.out _) | exact HK.out)) (KeepBut.of_below hb g none) (.inl rfl)) (below_step (by repeat (first | (with_reducible first | exact HB.out | apply below_alloc | apply pw_below_drewN | apply below_drew1 | refine below_set ?_ (IsS102.ge j.out) | refine below_set ?_ T.out | refine below_set ?_ Y.out) | exact HB.out)) hb) ?_; clear u m l j HK HB hb g0; intro u Z m l j HK HB; obtain ⟨a9, b0, n8⟩ := Kd.R_slice Z.out; subst n8; have q1 := h2.out; have q9 := a5.out; have q2 := a2.out; have r0 := B.out; have p1 := cf10_ l) | ((with_reducible refine gate_callee (f := 77) rfl ?_); refine goesL_ (some 71) rfl rfl Try.func77 (by kernel_rfl) rfl #[.pointer (some ⟨g, 0, none⟩), iv_ 3] rfl mp_ ?_; (with_reducible refine (spec_l1Once.calls g x d1 d2 3 true e1 e2 y _ ?side1 ?side2 j3.out).mono ?_); (case side1 => repeat (first | (with_reducible first | exact j.out | apply IsS102.alloc | apply IsS102.drewN | apply IsS102.drew | apply IsS102.set_1 | apply IsS102.set_2 | refine IsS102.far ?_ z.out _ | refine IsS102.far ?_ B.out _) | exact j.out)); (case side2 => repeat (first | (with_reducible first | exact HB.out | apply below_alloc | apply pw_below_drewN | apply below_drew1 | refine below_set ?_ (IsS102.ge j.out) | refine below_set ?_ T.out | refine below_set ?_ Y.out) | exact HB.out)); rintro e u5 ⟨rfl, hi, hb, hk⟩; refine ⟨_, rfl, sh7_ (Kd.R_mono (Kd.R_keep (IsS102.apart (show IsS102 y _ g x d1 d2 from by repeat (first | (with_reducible first | exact j.out | apply IsS102.alloc | apply IsS102.drewN | apply IsS102.drew | apply IsS102.set_1 | apply IsS102.set_2 | refine IsS102.far ?_ z.out _ | refine IsS102.far ?_ B.out _) | exact j.out)) (by (with_reducible repeat (first | apply Kd.R_alloc | apply Kd.R_drewN | apply Kd.R_drew)); exact (Kd.R_mono (Kd.R_far (p := ⟨O, 2, none⟩) (Kd.R_types u.out l.out (by decide)) (fun _ hk => hk.2) (.slice a9 a1.length b0)) (fun _ h_ => h_.1))) (by decide)) hk (fun _ h => h.2)) (fun _ h => h.1)) (KeepBut.blk hk (g' := s) (o := .cells #[iv_ 0, .slice none 0 0, .slice none 0 0, iv_ 0, iv_ 0, iv_ 0, iv_ 0, iv_ 0, .slice none 0 0, iv_ 0] 28 (0, 0)) (bp_ m) a0.out (by simp)) (KeepBut.blk hk (g' := O) (o := .cells #[iv_ 2, X, .slice a9 a1.length b0, iv_ (wrap64 (120 + (wrap64 (10 * D)))), iv_ (wrap64 (30 + (wrap64 (10 * E)))), iv_ (wrap64 (50 + (wrap64 (10 * G)))), iv_ I, iv_ 60, .slice none 0 0, iv_ L] 28 (0, 0)) (bp_ l) a2.out (by simp)) (Kd.R_mono (Kd.R_keep (IsS102.apart (show IsS102 y _ g x d1 d2 from by repeat (first | (with_reducible first | exact j.out | apply IsS102.alloc | apply IsS102.drewN | apply IsS102.drew | apply IsS102.set_1 | apply IsS102.set_2 | refine IsS102.far ?_ z.out _ | refine IsS102.far ?_ B.out _) | exact j.out)) (by (with_reducible repeat (first | apply Kd.R_alloc | apply Kd.R_drewN | apply Kd.R_drew)); exact (Kd.R_mono (Kd.R_far (p := ⟨O, 2, none⟩) (Kd.R_types Z.out l.out (by decide)) (fun _ hk => hk.2) (.slice a9 a1.length b0)) (fun _ h_ => h_.1))) (by decide)) hk (fun _ h => h.2)) (fun _ h => h.1)) (KeepBut.trans (by repeat (first | (with_reducible first | exact HK.out | apply KeepBut.set_ | apply keep_drewN | apply keep_drew | apply keep_alloc | refine keep_far ?_ J.out _ | refine keep_far ?_ U.out _) | exact HK.out)) hk (.inl rfl)) hb hi ?_⟩; clear u m l Z HK HB j hb hk hi; intro u m l Z HK HB j) | ((with_reducible refine gate_callee (f := 60) rfl ?_); refine goesL_ (some 73) rfl rfl Try.func60 (by kernel_rfl) rfl #[.pointer (some ⟨g, 0, none⟩), iv_ 2] rfl mp_ ?_; (with_reducible refine (spec_l1Below.calls g x e1 e2 2 e3 h8 h9 y _ ?side1 ?side2 m8.out).mono ?_); (case side1 => repeat (first | (with_reducible first | exact j.out | apply IsS102.alloc | apply IsS102.drewN | apply IsS102.drew | apply IsS102.set_1 | apply IsS102.set_2 | refine IsS102.far ?_ z.out _ | refine IsS102.far ?_ B.out _) | exact j.out)); (case side2 => repeat (first | (with_reducible first | exact HB.out | apply below_alloc | apply pw_below_drewN | apply below_drew1 | refine below_set ?_ (IsS102.ge j.out) | refine below_set ?_ T.out | refine below_set ?_ Y.out) | exact HB.out)); rintro e u6 ⟨rfl, hi, hb, hk⟩; refine ⟨_, rfl, sh7_ (Kd.R_mono (Kd.R_keep (IsS102.apart (show IsS102 y _ g x e1 e2 from by repeat (first | (with_reducible first | exact j.out | apply IsS102.alloc | apply IsS102.drewN | apply IsS102.drew | apply IsS102.set_1 | apply IsS102.set_2 | refine IsS102.far ?_ z.out _ | refine IsS102.far ?_ B.out _) | exact j.out)) (ra_ u) (by decide)) hk (fun _ h => h.2)) (fun _ h => h.1)) (KeepBut.blk hk (g' := s) (o := .cells #[iv_ 0, .slice none 0 0, .slice none 0 0, iv_ 0, iv_ 0, iv_ 0, iv_ 0, iv_ 0, .slice none 0 0, iv_ 0] 28 (0, 0)) (bk_ m) a0.out (by simp)) (KeepBut.blk hk (g' := O) (o := .cells #[iv_ 2, X, .slice a9 a1.length b0, iv_ (wrap64 (120 + (wrap64 (10 * D)))), iv_ (wrap64 (30 + (wrap64 (10 * E)))), iv_ (wrap64 (50 + (wrap64 (10 * G)))), iv_ I, iv_ 60, .slice none 0 0, iv_ L] 28 (0, 0)) (bk_ l) a2.out (by simp)) (Kd.R_mono (Kd.R_keep (IsS102.apart (show IsS102 y _ g x e1 e2 from by repeat (first | (with_reducible first | exact j.out | apply IsS102.alloc | apply IsS102.drewN | apply IsS102.drew | apply IsS102.set_1 | apply IsS102.set_2 | refine IsS102.far ?_ z.out _ | refine IsS102.far ?_ B.out _) | exact j.out)) (ra_ Z) (by decide)) hk (fun _ h => h.2)) (fun _ h => h.1)) (KeepBut.trans (by repeat (first | (with_reducible first | exact HK.out | apply KeepBut.set_ | apply keep_drewN | apply keep_drew | apply keep_alloc | refine keep_far ?_ J.out _ | refine keep_far ?_ U.out _) | exact HK.out)) hk (.inl rfl)) hb hi ?_⟩; clear u m l Z HK HB j hb hk hi; intro u m l Z HK HB j) | ((with_reducible refine gate_callee (f := 60) rfl ?_); refine goesL_ (some 75) rfl rfl Try.func60 (by kernel_rfl) rfl #[.pointer (some ⟨g, 0, none⟩), iv_ 36] rfl mp_ ?_; (with_reducible refine (spec_l1Below.calls g x h8 h9 36 e4 i0 i1 y _ ?side1 ?side2 m9.out).mono ?_); (case side1 => repeat (first | (with_reducible first | exact j.out | apply IsS102.alloc | apply IsS102.drewN | apply IsS102.drew | apply IsS102.set_1 | apply IsS102.set_2 | refine IsS102.far ?_ z.out _ | refine IsS102.far ?_ B.out _) | exact j.out)); (case side2 => repeat (first | (with_reducible first | exact HB.out | apply below_alloc | apply pw_below_drewN | apply below_drew1 | refine below_set ?_ (IsS102.ge j.out) | refine below_set ?_ T.out | refine below_set ?_ Y.out) | exact HB.out)); rintro e u7 ⟨rfl, hi, hb, hk⟩; refine ⟨_, rfl, sh7_ (Kd.R_mono (Kd.R_keep (IsS102.apart (show IsS102 y _ g x h8 h9 from by repeat (first | (with_reducible first | exact j.out | apply IsS102.alloc | apply IsS102.drewN | apply IsS102.drew | apply IsS102.set_1 | apply IsS102.set_2 | refine IsS102.far ?_ z.out _ | refine IsS102.far ?_ B.out _) | exact j.out)) (ra_ u) (by decide)) hk (fun _ h => h.2)) (fun _ h => h.1)) (KeepBut.blk hk (g' := s) (o := .cells #[iv_ 0, .slice none 0 0, .slice none 0 0, iv_ 0, iv_ 0, iv_ 0, iv_ 0, iv_ 0, .slice none 0 0, iv_ 0] 28 (0, 0)) (bk_ m) a0.out (by simp)) (KeepBut.blk hk (g' := O) (o := .cells #[iv_ 2, X, .slice a9 a1.length b0, iv_ (wrap64 (120 + (wrap64 (10 * D)))), iv_ (wrap64 (30 + (wrap64 (10 * E)))), iv_ (wrap64 (50 + (wrap64 (10 * G)))), iv_ I, iv_ 60, .slice none 0 0, iv_ L] 28 (0, 0)) (bk_ l) a2.out (by simp)) (Kd.R_mono (Kd.R_keep (IsS102.apart (show IsS102 y _ g x h8 h9 from by repeat (first | (with_reducible first | exact j.out | apply IsS102.alloc | apply IsS102.drewN | apply IsS102.drew | apply IsS102.set_1 | apply IsS102.set_2 | refine IsS102.far ?_ z.out _ | refine IsS102.far ?_ B.out _) | exact j.out)) (ra_ Z) (by decide)) hk (fun _ h => h.2)) (fun _ h => h.1)) (KeepBut.trans (by repeat (first | (with_reducible first | exact HK.out | apply KeepBut.set_ | apply keep_drewN | apply keep_drew | apply keep_alloc | refine keep_far ?_ J.out _ | refine keep_far ?_ U.out _) | exact HK.out)) hk (.inl rfl)) hb hi ?_⟩; clear u m l Z HK HB j hb hk hi; intro u m l Z HK HB j) | ((with_reducible refine gate_callee (f := 60) rfl ?_); refine goesL_ (some 78) rfl rfl Try.func60 (by kernel_rfl) rfl #[.pointer (some ⟨g, 0, none⟩), iv_ 5] rfl mp_ ?_; (with_reducible refine (spec_l1Below.calls g x i0 i1 5 e5 l7 l8 y _ ?side1 ?side2 n0.out).mono ?_); (case side1 => repeat (first | (with_reducible first | exact j.out | apply IsS102.alloc | apply IsS102.drewN | apply IsS102.drew | apply IsS102.set_1 | apply IsS102.set_2 | refine IsS102.far ?_ z.out _ | refine IsS102.far ?_ B.out _) | exact j.out)); (case side2 => repeat (first | (with_reducible first | exact HB.out | apply below_alloc | apply pw_below_drewN | apply below_drew1 | refine below_set ?_ (IsS102.ge j.out) | refine below_set ?_ T.out | refine below_set ?_ Y.out) | exact HB.out)); rintro e u8 ⟨rfl, hi, hb, hk⟩; refine ⟨_, rfl, sh7_ (Kd.R_mono (Kd.R_keep (IsS102.apart (show IsS102 y _ g x i0 i1 from by repeat (first | (with_reducible first | exact j.out | apply IsS102.alloc | apply IsS102.drewN | apply IsS102.drew | apply IsS102.set_1 | apply IsS102.set_2 | refine IsS102.far ?_ z.out _ | refine IsS102.far ?_ B.out _) | exact j.out)) (ra_ u) (by decide)) hk (fun _ h => h.2)) (fun _ h => h.1)) (KeepBut.blk hk (g' := s) (o := .cells #[iv_ 0, .slice none 0 0, .slice none 0 0, iv_ 0, iv_ 0, iv_ 0, iv_ 0, iv_ 0, .slice none 0 0, iv_ 0] 28 (0, 0)) (bk_ m) a0.out (by simp)) (KeepBut.blk hk (g' := O) (o := .cells #[iv_ 2, X, .slice a9 a1.length b0, iv_ (wrap64 (120 + (wrap64 (10 * D)))), iv_ (wrap64 (30 + (wrap64 (10 * E)))), iv_ (wrap64 (50 + (wrap64 (10 * G)))), iv_ I, iv_ 60, .slice none 0 0, iv_ L] 28 (0, 0)) (bk_ l) a2.out (by simp)) (Kd.R_mono (Kd.R_keep (IsS102.apart (show IsS102 y _ g x i0 i1 from by repeat (first | (with_reducible first | exact j.out | apply IsS102.alloc | apply IsS102.drewN | apply IsS102.drew | apply IsS102.set_1 | apply IsS102.set_2 | refine IsS102.far ?_ z.out _ | refine IsS102.far ?_ B.out _) | exact j.out)) (ra_ Z) (by decide)) hk (fun _ h => h.2)) (fun _ h => h.1)) (KeepBut.trans (by repeat (first | (with_reducible first | exact HK.out | apply KeepBut.set_ | apply keep_drewN | apply keep_drew | apply keep_alloc | refine keep_far ?_ J.out _ | refine keep_far ?_ U.out _) | exact HK.out)) hk (.inl rfl)) hb hi ?_⟩; clear u m l Z HK HB j hb hk hi; intro u m l Z HK HB j) | ((with_reducible refine gate_dst (N := 82) rfl ?_); refine Kd.R_lit k88 _ 88 ?hg (N := 82) ?hd (xs := ([(⟨e3, (⟨wrap64 (10 * e4), wrap64 (10 * e5)⟩ : S35)⟩ : S88)] : List S88)) (inner := [iv_ e3, iv_ (wrap64 (10 * e4)), iv_ (wrap64 (10 * e5))]) (ok := fun _ => True) (okp := fun _ => True) ?hr ?hp (fun _ hk => hk) trivial (Below.refl _ _) (Nat.le_refl _) (by simp) ?_; (case hd => rfl); (case hg => rfl); (case hr => first | (go_simp; done) | (go_simp; rfl)); (case hp => exact (Reps.c3 (show Kd.M k88 _ _ _ (⟨e3, (⟨wrap64 (10 * e4), wrap64 (10 * e5)⟩ : S35)⟩ : S88) [iv_ e3, iv_ (wrap64 (10 * e4)), iv_ (wrap64 (10 * e5))] from (k88_mkM _ _ _ (⟨e3, (⟨wrap64 (10 * e4), wrap64 (10 * e5)⟩ : S35)⟩ : S88) )) (Reps.none _ _))); intro t2 u9 g1 hb hg_ hnew_; clear hg_ hnew_; (first | rw [← j8.out] at g1 | (simp only [Int.reduceToNat] at g1; rw [← j8.out] at g1)); refine sh8_ (Kd.R_below (ra_ u) hb) (Kd.R_below (ra_ Z) hb) (Kd.R_lower g1 (keep_size (w := w) (g := g) (row := none) (by repeat (first | (with_reducible first | exact HK.out | apply KeepBut.set_ | apply keep_drewN | apply keep_drew | apply keep_alloc | refine keep_far ?_ J.out _ | refine keep_far ?_ U.out _) | exact HK.out)))) (blk_below (bk_ m) hb) (blk_below (bk_ l) hb) (IsS102.below (by repeat (first | (with_reducible first | exact j.out | apply IsS102.alloc | apply IsS102.drewN | apply IsS102.drew | apply IsS102.set_1 | apply IsS102.set_2 | refine IsS102.far ?_ z.out _ | refine IsS102.far ?_ B.out _) | exact j.out)) hb) (KeepBut.trans (by repeat (first | (with_reducible first | exact HK.out | apply KeepBut.set_ | apply keep_drewN | apply keep_drew | apply keep_alloc | refine keep_far ?_ J.out _ | refine keep_far ?_ U.out _) | exact HK.out)) (KeepBut.of_below hb g none) (.inl rfl)) (below_step (by repeat (first | (with_reducible first | exact HB.out | apply below_alloc | apply pw_below_drewN | apply below_drew1 | refine below_set ?_ (IsS102.ge j.out) | refine below_set ?_ T.out | refine below_set ?_ Y.out) | exact HB.out)) hb) ?_; clear u Z m l j HK HB hb g1; intro u Z j6 m l j HK HB; obtain ⟨d6, e0, n9⟩ := Kd.R_slice j6.out; subst n9; have p2 := cf10_ l; have q3 := a0.out; have s0 := z.out; have p3 := cf10_ m; obtain ⟨g9, h5, o0⟩ := Kd.R_slice u.out; subst o0))
     refine bodyPost_ret (results_cell_row rfl _ _ s 28 #[iv_ 2, .slice g9 a4.length h5, .slice a9 a1.length b0, iv_ (wrap64 (120 + (wrap64 (10 * D)))), iv_ (wrap64 (30 + (wrap64 (10 * E)))), iv_ (wrap64 (50 + (wrap64 (10 * G)))), iv_ I, iv_ 60, .slice d6 e6.length e0, iv_ L] (0, 0) _ rfl (bp_ m) Try.underlying28 rfl (by kernel_rfl)) rfl ?_
     exact ⟨_, _, _, by first | (rw [hRT_.out]; rfl) | exact er_, by (with_reducible repeat (first | apply Kd.R_alloc | apply Kd.R_drewN | apply Kd.R_drew)); exact Kd.R_mono (Kd.R_far (p := ⟨s, 9, none⟩) (Kd.R_far (p := ⟨s, 8, none⟩) (Kd.R_far (p := ⟨s, 7, none⟩) (Kd.R_far (p := ⟨s, 6, none⟩) (Kd.R_far (p := ⟨s, 5, none⟩) (Kd.R_far (p := ⟨s, 4, none⟩) (Kd.R_far (p := ⟨s, 3, none⟩) (Kd.R_far (p := ⟨s, 2, none⟩) (Kd.R_far (p := ⟨s, 1, none⟩) (Kd.R_far (p := ⟨s, 0, none⟩) (Kd.R_far (p := ⟨O, 8, none⟩) (Kd.R_types (Kd.R_types u.out l.out (by decide)) m.out (by decide)) (fun _ hk => hk.1.2) (.slice d6 e6.length e0)) (fun _ hk => hk.2) (iv_ 2)) (fun _ hk => hk.2) (.slice g9 a4.length h5)) (fun _ hk => hk.2) (.slice a9 a1.length b0)) (fun _ hk => hk.2) (iv_ (wrap64 (120 + (wrap64 (10 * D)))))) (fun _ hk => hk.2) (iv_ (wrap64 (30 + (wrap64 (10 * E)))))) (fun _ hk => hk.2) (iv_ (wrap64 (50 + (wrap64 (10 * G)))))) (fun _ hk => hk.2) (iv_ I)) (fun _ hk => hk.2) (iv_ 60)) (fun _ hk => hk.2) (.slice d6 e6.length e0)) (fun _ hk => hk.2) (iv_ L)) (fun _ hk => trivial), by (with_reducible repeat (first | apply Kd.R_alloc | apply Kd.R_drewN | apply Kd.R_drew)); exact Kd.R_mono (Kd.R_far (p := ⟨s, 9, none⟩) (Kd.R_far (p := ⟨s, 8, none⟩) (Kd.R_far (p := ⟨s, 7, none⟩) (Kd.R_far (p := ⟨s, 6, none⟩) (Kd.R_far (p := ⟨s, 5, none⟩) (Kd.R_far (p := ⟨s, 4, none⟩) (Kd.R_far (p := ⟨s, 3, none⟩) (Kd.R_far (p := ⟨s, 2, none⟩) (Kd.R_far (p := ⟨s, 1, none⟩) (Kd.R_far (p := ⟨s, 0, none⟩) (Kd.R_far (p := ⟨O, 8, none⟩) (Kd.R_types (Kd.R_types Z.out l.out (by decide)) m.out (by decide)) (fun _ hk => hk.1.2) (.slice d6 e6.length e0)) (fun _ hk => hk.2) (iv_ 2)) (fun _ hk => hk.2) (.slice g9 a4.length h5)) (fun _ hk => hk.2) (.slice a9 a1.length b0)) (fun _ hk => hk.2) (iv_ (wrap64 (120 + (wrap64 (10 * D)))))) (fun _ hk => hk.2) (iv_ (wrap64 (30 + (wrap64 (10 * E)))))) (fun _ hk => hk.2) (iv_ (wrap64 (50 + (wrap64 (10 * G)))))) (fun _ hk => hk.2) (iv_ I)) (fun _ hk => hk.2) (iv_ 60)) (fun _ hk => hk.2) (.slice d6 e6.length e0)) (fun _ hk => hk.2) (iv_ L)) (fun _ hk => trivial), by (with_reducible repeat (first | apply Kd.R_alloc | apply Kd.R_drewN | apply Kd.R_drew)); exact Kd.R_mono (Kd.R_far (p := ⟨s, 9, none⟩) (Kd.R_far (p := ⟨s, 8, none⟩) (Kd.R_far (p := ⟨s, 7, none⟩) (Kd.R_far (p := ⟨s, 6, none⟩) (Kd.R_far (p := ⟨s, 5, none⟩) (Kd.R_far (p := ⟨s, 4, none⟩) (Kd.R_far (p := ⟨s, 3, none⟩) (Kd.R_far (p := ⟨s, 2, none⟩) (Kd.R_far (p := ⟨s, 1, none⟩) (Kd.R_far (p := ⟨s, 0, none⟩) (Kd.R_far (p := ⟨O, 8, none⟩) (Kd.R_types (Kd.R_types j6.out l.out (by decide)) m.out (by decide)) (fun _ hk => hk.1.2) (.slice d6 e6.length e0)) (fun _ hk => hk.2) (iv_ 2)) (fun _ hk => hk.2) (.slice g9 a4.length h5)) (fun _ hk => hk.2) (.slice a9 a1.length b0)) (fun _ hk => hk.2) (iv_ (wrap64 (120 + (wrap64 (10 * D)))))) (fun _ hk => hk.2) (iv_ (wrap64 (30 + (wrap64 (10 * E)))))) (fun _ hk => hk.2) (iv_ (wrap64 (50 + (wrap64 (10 * G)))))) (fun _ hk => hk.2) (iv_ I)) (fun _ hk => hk.2) (iv_ 60)) (fun _ hk => hk.2) (.slice d6 e6.length e0)) (fun _ hk => hk.2) (iv_ L)) (fun _ hk => trivial), by repeat (first | (with_reducible first | exact j.out | apply IsS102.alloc | apply IsS102.drewN | apply IsS102.drew | apply IsS102.set_1 | apply IsS102.set_2 | refine IsS102.far ?_ z.out _ | refine IsS102.far ?_ B.out _) | exact j.out), by repeat (first | (with_reducible first | exact HB.out | apply below_alloc | apply pw_below_drewN | apply below_drew1 | refine below_set ?_ (IsS102.ge j.out) | refine below_set ?_ T.out | refine below_set ?_ Y.out) | exact HB.out), by repeat (first | (with_reducible first | exact HK.out | apply KeepBut.set_ | apply keep_drewN | apply keep_drew | apply keep_alloc | refine keep_far ?_ J.out _ | refine keep_far ?_ U.out _) | exact HK.out)⟩
    ·replace h4 := Bool.eq_false_iff.mpr h4
     subst h4
     have H1 : (some (2, a4, a1, (wrap64 (120 + (wrap64 (10 * D)))), (wrap64 (30 + (wrap64 (10 * E)))), (wrap64 (50 + (wrap64 (10 * G)))), I, 60, ([] : List S88), L, e1, e2)) = some (r1, r2, r3, r4, r5, r6, r7, r8, r9, b2, b3, b4) := by rw [if_neg (show ¬ (false = true) by decide)] at H; exact H
     clear H
     have H := H1
     clear H1
     simp only [Option.some.injEq, Prod.mk.injEq] at H
     obtain ⟨rfl, rfl, rfl, rfl, rfl, rfl, rfl, rfl, rfl, rfl, rfl, rfl⟩ := H
     go_wp2_with (first | ((with_reducible refine gate_callee (f := 60) rfl ?_); refine goesL_ (some 58) rfl rfl Try.func60 (by kernel_rfl) rfl #[.pointer (some ⟨g, 0, none⟩), iv_ 12] rfl mp_ ?_; (with_reducible refine (spec_l1Below.calls g x d3 d4 12 a6 f1 f2 y _ ?side1 ?side2 j0.out).mono ?_); (case side1 => repeat (first | (with_reducible first | exact j.out | apply IsS102.alloc | apply IsS102.drewN | apply IsS102.drew | apply IsS102.set_1 | apply IsS102.set_2 | refine IsS102.far ?_ z.out _ | refine IsS102.far ?_ B.out _) | exact j.out)); (case side2 => repeat (first | (with_reducible first | exact HB.out | apply below_alloc | apply pw_below_drewN | apply below_drew1 | refine below_set ?_ (IsS102.ge j.out) | refine below_set ?_ T.out | refine below_set ?_ Y.out) | exact HB.out)); rintro e v0 ⟨rfl, hi, hb, hk⟩; refine ⟨_, rfl, sh6_ (Kd.R_mono (Kd.R_keep (IsS102.apart (show IsS102 y _ g x d3 d4 from by repeat (first | (with_reducible first | exact j.out | apply IsS102.alloc | apply IsS102.drewN | apply IsS102.drew | apply IsS102.set_1 | apply IsS102.set_2 | refine IsS102.far ?_ z.out _ | refine IsS102.far ?_ B.out _) | exact j.out)) (ra_ u) (by decide)) hk (fun _ h => h.2)) (fun _ h => h.1)) (KeepBut.blk hk (g' := s) (o := .cells #[iv_ 0, .slice none 0 0, .slice none 0 0, iv_ 0, iv_ 0, iv_ 0, iv_ 0, iv_ 0, .slice none 0 0, iv_ 0] 28 (0, 0)) (bk_ m) a0.out (by simp)) (KeepBut.blk hk (g' := O) (o := .cells #[iv_ 2, X, .slice none 0 0, iv_ (wrap64 (120 + (wrap64 (10 * D)))), iv_ (wrap64 (30 + (wrap64 (10 * E)))), iv_ (wrap64 (50 + (wrap64 (10 * G)))), iv_ I, iv_ 60, .slice none 0 0, iv_ L] 28 (0, 0)) (bk_ l) a2.out (by simp)) (KeepBut.trans (by repeat (first | (with_reducible first | exact HK.out | apply KeepBut.set_ | apply keep_drewN | apply keep_drew | apply keep_alloc | refine keep_far ?_ J.out _ | refine keep_far ?_ U.out _) | exact HK.out)) hk (.inl rfl)) hb hi ?_⟩; clear u m l HK HB j hb hk hi; intro u m l HK HB j) | ((with_reducible refine gate_callee (f := 60) rfl ?_); refine goesL_ (some 61) rfl rfl Try.func60 (by kernel_rfl) rfl #[.pointer (some ⟨g, 0, none⟩), iv_ 2] rfl mp_ ?_; (with_reducible refine (spec_l1Below.calls g x f1 f2 2 a7 f3 f4 y _ ?side1 ?side2 j1.out).mono ?_); (case side1 => repeat (first | (with_reducible first | exact j.out | apply IsS102.alloc | apply IsS102.drewN | apply IsS102.drew | apply IsS102.set_1 | apply IsS102.set_2 | refine IsS102.far ?_ z.out _ | refine IsS102.far ?_ B.out _) | exact j.out)); (case side2 => repeat (first | (with_reducible first | exact HB.out | apply below_alloc | apply pw_below_drewN | apply below_drew1 | refine below_set ?_ (IsS102.ge j.out) | refine below_set ?_ T.out | refine below_set ?_ Y.out) | exact HB.out)); rintro e v1 ⟨rfl, hi, hb, hk⟩; refine ⟨_, rfl, sh6_ (Kd.R_mono (Kd.R_keep (IsS102.apart (show IsS102 y _ g x f1 f2 from by repeat (first | (with_reducible first | exact j.out | apply IsS102.alloc | apply IsS102.drewN | apply IsS102.drew | apply IsS102.set_1 | apply IsS102.set_2 | refine IsS102.far ?_ z.out _ | refine IsS102.far ?_ B.out _) | exact j.out)) (ra_ u) (by decide)) hk (fun _ h => h.2)) (fun _ h => h.1)) (KeepBut.blk hk (g' := s) (o := .cells #[iv_ 0, .slice none 0 0, .slice none 0 0, iv_ 0, iv_ 0, iv_ 0, iv_ 0, iv_ 0, .slice none 0 0, iv_ 0] 28 (0, 0)) (bk_ m) a0.out (by simp)) (KeepBut.blk hk (g' := O) (o := .cells #[iv_ 2, X, .slice none 0 0, iv_ (wrap64 (120 + (wrap64 (10 * D)))), iv_ (wrap64 (30 + (wrap64 (10 * E)))), iv_ (wrap64 (50 + (wrap64 (10 * G)))), iv_ I, iv_ 60, .slice none 0 0, iv_ L] 28 (0, 0)) (bk_ l) a2.out (by simp)) (KeepBut.trans (by repeat (first | (with_reducible first | exact HK.out | apply KeepBut.set_ | apply keep_drewN | apply keep_drew | apply keep_alloc | refine keep_far ?_ J.out _ | refine keep_far ?_ U.out _) | exact HK.out)) hk (.inl rfl)) hb hi ?_⟩; clear u m l HK HB j hb hk hi; intro u m l HK HB j) | ((with_reducible refine gate_callee (f := 60) rfl ?_); refine goesL_ (some 64) rfl rfl Try.func60 (by kernel_rfl) rfl #[.pointer (some ⟨g, 0, none⟩), iv_ 12] rfl mp_ ?_; (with_reducible refine (spec_l1Below.calls g x f3 f4 12 a8 d1 d2 y _ ?side1 ?side2 j2.out).mono ?_); (case side1 => repeat (first | (with_reducible first | exact j.out | apply IsS102.alloc | apply IsS102.drewN | apply IsS102.drew | apply IsS102.set_1 | apply IsS102.set_2 | refine IsS102.far ?_ z.out _ | refine IsS102.far ?_ B.out _) | exact j.out)); (case side2 => repeat (first | (with_reducible first | exact HB.out | apply below_alloc | apply pw_below_drewN | apply below_drew1 | refine below_set ?_ (IsS102.ge j.out) | refine below_set ?_ T.out | refine below_set ?_ Y.out) | exact HB.out)); rintro e v2 ⟨rfl, hi, hb, hk⟩; refine ⟨_, rfl, sh6_ (Kd.R_mono (Kd.R_keep (IsS102.apart (show IsS102 y _ g x f3 f4 from by repeat (first | (with_reducible first | exact j.out | apply IsS102.alloc | apply IsS102.drewN | apply IsS102.drew | apply IsS102.set_1 | apply IsS102.set_2 | refine IsS102.far ?_ z.out _ | refine IsS102.far ?_ B.out _) | exact j.out)) (ra_ u) (by decide)) hk (fun _ h => h.2)) (fun _ h => h.1)) (KeepBut.blk hk (g' := s) (o := .cells #[iv_ 0, .slice none 0 0, .slice none 0 0, iv_ 0, iv_ 0, iv_ 0, iv_ 0, iv_ 0, .slice none 0 0, iv_ 0] 28 (0, 0)) (bk_ m) a0.out (by simp)) (KeepBut.blk hk (g' := O) (o := .cells #[iv_ 2, X, .slice none 0 0, iv_ (wrap64 (120 + (wrap64 (10 * D)))), iv_ (wrap64 (30 + (wrap64 (10 * E)))), iv_ (wrap64 (50 + (wrap64 (10 * G)))), iv_ I, iv_ 60, .slice none 0 0, iv_ L] 28 (0, 0)) (bk_ l) a2.out (by simp)) (KeepBut.trans (by repeat (first | (with_reducible first | exact HK.out | apply KeepBut.set_ | apply keep_drewN | apply keep_drew | apply keep_alloc | refine keep_far ?_ J.out _ | refine keep_far ?_ U.out _) | exact HK.out)) hk (.inl rfl)) hb hi ?_⟩; clear u m l HK HB j hb hk hi; intro u m l HK HB j) | ((with_reducible refine gate_dst (N := 68) rfl ?_); refine Kd.R_lit k74 _ 74 ?hg (N := 68) ?hd (xs := ([(⟨0, wrap64 (10 * a6), a7⟩ : S74), (⟨1, wrap64 (180 + (wrap64 (10 * a8))), 0⟩ : S74)] : List S74)) (inner := [iv_ 0, iv_ (wrap64 (10 * a6)), iv_ a7, iv_ 1, iv_ (wrap64 (180 + (wrap64 (10 * a8)))), iv_ 0]) (ok := fun _ => True) (okp := fun _ => True) ?hr ?hp (fun _ hk => hk) trivial (Below.refl _ _) (Nat.le_refl _) (by simp) ?_; (case hd => rfl); (case hg => rfl); (case hr => first | (go_simp; done) | (go_simp; rfl)); (case hp => exact (Reps.c3 (show Kd.M k74 _ _ _ (⟨0, wrap64 (10 * a6), a7⟩ : S74) [iv_ 0, iv_ (wrap64 (10 * a6)), iv_ a7] from (k74_mkM _ _ _ (⟨0, wrap64 (10 * a6), a7⟩ : S74) )) (Reps.c3 (show Kd.M k74 _ _ _ (⟨1, wrap64 (180 + (wrap64 (10 * a8))), 0⟩ : S74) [iv_ 1, iv_ (wrap64 (180 + (wrap64 (10 * a8)))), iv_ 0] from (k74_mkM _ _ _ (⟨1, wrap64 (180 + (wrap64 (10 * a8))), 0⟩ : S74) )) (Reps.none _ _)))); intro o6 v3 g2 hb hg_ hnew_; clear hg_ hnew_; (first | rw [← h3.out] at g2 | (simp only [Int.reduceToNat] at g2; rw [← h3.out] at g2)); refine sh7_ (Kd.R_below (ra_ u) hb) (Kd.R_lower g2 (keep_size (w := w) (g := g) (row := none) (by repeat (first | (with_reducible first | exact HK.out | apply KeepBut.set_ | apply keep_drewN | apply keep_drew | apply keep_alloc | refine keep_far ?_ J.out _ | refine keep_far ?_ U.out _) | exact HK.out)))) (blk_below (bk_ m) hb) (blk_below (bk_ l) hb) (IsS102.below (by repeat (first | (with_reducible first | exact j.out | apply IsS102.alloc | apply IsS102.drewN | apply IsS102.drew | apply IsS102.set_1 | apply IsS102.set_2 | refine IsS102.far ?_ z.out _ | refine IsS102.far ?_ B.out _) | exact j.out)) hb) (KeepBut.trans (by repeat (first | (with_reducible first | exact HK.out | apply KeepBut.set_ | apply keep_drewN | apply keep_drew | apply keep_alloc | refine keep_far ?_ J.out _ | refine keep_far ?_ U.out _) | exact HK.out)) (KeepBut.of_below hb g none) (.inl rfl)) (below_step (by repeat (first | (with_reducible first | exact HB.out | apply below_alloc | apply pw_below_drewN | apply below_drew1 | refine below_set ?_ (IsS102.ge j.out) | refine below_set ?_ T.out | refine below_set ?_ Y.out) | exact HB.out)) hb) ?_; clear u m l j HK HB hb g2; intro u Z m l j HK HB; obtain ⟨e7, f0, o1⟩ := Kd.R_slice Z.out; subst o1; have q4 := h2.out; have s1 := a5.out; have q5 := a2.out; have s2 := B.out; have p4 := cf10_ l) | ((with_reducible refine gate_callee (f := 77) rfl ?_); refine goesL_ (some 71) rfl rfl Try.func77 (by kernel_rfl) rfl #[.pointer (some ⟨g, 0, none⟩), iv_ 3] rfl mp_ ?_; (with_reducible refine (spec_l1Once.calls g x d1 d2 3 false e1 e2 y _ ?side1 ?side2 j3.out).mono ?_); (case side1 => repeat (first | (with_reducible first | exact j.out | apply IsS102.alloc | apply IsS102.drewN | apply IsS102.drew | apply IsS102.set_1 | apply IsS102.set_2 | refine IsS102.far ?_ z.out _ | refine IsS102.far ?_ B.out _) | exact j.out)); (case side2 => repeat (first | (with_reducible first | exact HB.out | apply below_alloc | apply pw_below_drewN | apply below_drew1 | refine below_set ?_ (IsS102.ge j.out) | refine below_set ?_ T.out | refine below_set ?_ Y.out) | exact HB.out)); rintro e v5 ⟨rfl, hi, hb, hk⟩; refine ⟨_, rfl, sh7_ (Kd.R_mono (Kd.R_keep (IsS102.apart (show IsS102 y _ g x d1 d2 from by repeat (first | (with_reducible first | exact j.out | apply IsS102.alloc | apply IsS102.drewN | apply IsS102.drew | apply IsS102.set_1 | apply IsS102.set_2 | refine IsS102.far ?_ z.out _ | refine IsS102.far ?_ B.out _) | exact j.out)) (by (with_reducible repeat (first | apply Kd.R_alloc | apply Kd.R_drewN | apply Kd.R_drew)); exact (Kd.R_mono (Kd.R_far (p := ⟨O, 2, none⟩) (Kd.R_types u.out l.out (by decide)) (fun _ hk => hk.2) (.slice e7 a1.length f0)) (fun _ h_ => h_.1))) (by decide)) hk (fun _ h => h.2)) (fun _ h => h.1)) (KeepBut.blk hk (g' := s) (o := .cells #[iv_ 0, .slice none 0 0, .slice none 0 0, iv_ 0, iv_ 0, iv_ 0, iv_ 0, iv_ 0, .slice none 0 0, iv_ 0] 28 (0, 0)) (bp_ m) a0.out (by simp)) (KeepBut.blk hk (g' := O) (o := .cells #[iv_ 2, X, .slice e7 a1.length f0, iv_ (wrap64 (120 + (wrap64 (10 * D)))), iv_ (wrap64 (30 + (wrap64 (10 * E)))), iv_ (wrap64 (50 + (wrap64 (10 * G)))), iv_ I, iv_ 60, .slice none 0 0, iv_ L] 28 (0, 0)) (bp_ l) a2.out (by simp)) (Kd.R_mono (Kd.R_keep (IsS102.apart (show IsS102 y _ g x d1 d2 from by repeat (first | (with_reducible first | exact j.out | apply IsS102.alloc | apply IsS102.drewN | apply IsS102.drew | apply IsS102.set_1 | apply IsS102.set_2 | refine IsS102.far ?_ z.out _ | refine IsS102.far ?_ B.out _) | exact j.out)) (by (with_reducible repeat (first | apply Kd.R_alloc | apply Kd.R_drewN | apply Kd.R_drew)); exact (Kd.R_mono (Kd.R_far (p := ⟨O, 2, none⟩) (Kd.R_types Z.out l.out (by decide)) (fun _ hk => hk.2) (.slice e7 a1.length f0)) (fun _ h_ => h_.1))) (by decide)) hk (fun _ h => h.2)) (fun _ h => h.1)) (KeepBut.trans (by repeat (first | (with_reducible first | exact HK.out | apply KeepBut.set_ | apply keep_drewN | apply keep_drew | apply keep_alloc | refine keep_far ?_ J.out _ | refine keep_far ?_ U.out _) | exact HK.out)) hk (.inl rfl)) hb hi ?_⟩; clear u m l Z HK HB j hb hk hi; intro u m l Z HK HB j; have p5 := cf10_ l; have q6 := a0.out; have s3 := z.out; have p6 := cf10_ m; obtain ⟨i2, i3, o2⟩ := Kd.R_slice u.out; subst o2))
     refine bodyPost_ret (results_cell_row rfl _ _ s 28 #[iv_ 2, .slice i2 a4.length i3, .slice e7 a1.length f0, iv_ (wrap64 (120 + (wrap64 (10 * D)))), iv_ (wrap64 (30 + (wrap64 (10 * E)))), iv_ (wrap64 (50 + (wrap64 (10 * G)))), iv_ I, iv_ 60, .slice none 0 0, iv_ L] (0, 0) _ rfl (bp_ m) Try.underlying28 rfl (by kernel_rfl)) rfl ?_
     exact ⟨_, _, _, by first | (rw [hRT_.out]; rfl) | exact er_, by (with_reducible repeat (first | apply Kd.R_alloc | apply Kd.R_drewN | apply Kd.R_drew)); exact Kd.R_mono (Kd.R_far (p := ⟨s, 9, none⟩) (Kd.R_far (p := ⟨s, 8, none⟩) (Kd.R_far (p := ⟨s, 7, none⟩) (Kd.R_far (p := ⟨s, 6, none⟩) (Kd.R_far (p := ⟨s, 5, none⟩) (Kd.R_far (p := ⟨s, 4, none⟩) (Kd.R_far (p := ⟨s, 3, none⟩) (Kd.R_far (p := ⟨s, 2, none⟩) (Kd.R_far (p := ⟨s, 1, none⟩) (Kd.R_far (p := ⟨s, 0, none⟩) (Kd.R_types u.out m.out (by decide)) (fun _ hk => hk.2) (iv_ 2)) (fun _ hk => hk.2) (.slice i2 a4.length i3)) (fun _ hk => hk.2) (.slice e7 a1.length f0)) (fun _ hk => hk.2) (iv_ (wrap64 (120 + (wrap64 (10 * D)))))) (fun _ hk => hk.2) (iv_ (wrap64 (30 + (wrap64 (10 * E)))))) (fun _ hk => hk.2) (iv_ (wrap64 (50 + (wrap64 (10 * G)))))) (fun _ hk => hk.2) (iv_ I)) (fun _ hk => hk.2) (iv_ 60)) (fun _ hk => hk.2) (.slice none 0 0)) (fun _ hk => hk.2) (iv_ L)) (fun _ hk => trivial), by (with_reducible repeat (first | apply Kd.R_alloc | apply Kd.R_drewN | apply Kd.R_drew)); exact Kd.R_mono (Kd.R_far (p := ⟨s, 9, none⟩) (Kd.R_far (p := ⟨s, 8, none⟩) (Kd.R_far (p := ⟨s, 7, none⟩) (Kd.R_far (p := ⟨s, 6, none⟩) (Kd.R_far (p := ⟨s, 5, none⟩) (Kd.R_far (p := ⟨s, 4, none⟩) (Kd.R_far (p := ⟨s, 3, none⟩) (Kd.R_far (p := ⟨s, 2, none⟩) (Kd.R_far (p := ⟨s, 1, none⟩) (Kd.R_far (p := ⟨s, 0, none⟩) (Kd.R_types Z.out m.out (by decide)) (fun _ hk => hk.2) (iv_ 2)) (fun _ hk => hk.2) (.slice i2 a4.length i3)) (fun _ hk => hk.2) (.slice e7 a1.length f0)) (fun _ hk => hk.2) (iv_ (wrap64 (120 + (wrap64 (10 * D)))))) (fun _ hk => hk.2) (iv_ (wrap64 (30 + (wrap64 (10 * E)))))) (fun _ hk => hk.2) (iv_ (wrap64 (50 + (wrap64 (10 * G)))))) (fun _ hk => hk.2) (iv_ I)) (fun _ hk => hk.2) (iv_ 60)) (fun _ hk => hk.2) (.slice none 0 0)) (fun _ hk => hk.2) (iv_ L)) (fun _ hk => trivial), by first | exact Kd.R_nil _ _ _ _ _ | exact Kd.N_nil _ _ _ _ _ | exact Kd.V_nil _ _ _ _ _ | exact Kd.Q_nil _ _ _ _ _ | exact Kd.S_nil _ _ _ _ _, by repeat (first | (with_reducible first | exact j.out | apply IsS102.alloc | apply IsS102.drewN | apply IsS102.drew | apply IsS102.set_1 | apply IsS102.set_2 | refine IsS102.far ?_ z.out _ | refine IsS102.far ?_ B.out _) | exact j.out), by repeat (first | (with_reducible first | exact HB.out | apply below_alloc | apply pw_below_drewN | apply below_drew1 | refine below_set ?_ (IsS102.ge j.out) | refine below_set ?_ T.out | refine below_set ?_ Y.out) | exact HB.out), by repeat (first | (with_reducible first | exact HK.out | apply KeepBut.set_ | apply keep_drewN | apply keep_drew | apply keep_alloc | refine keep_far ?_ J.out _ | refine keep_far ?_ U.out _) | exact HK.out)⟩

end Go.Proofs.Ytopbkdcicidajaa.PFnSilence
