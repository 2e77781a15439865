-- Written by a program of this session for this claim (the kit's printer with changes).
import Derived.Test.YtopbkdcicidajaaQFnSilencex0
import Derived.Test.YtopbkdcicidajaaQFnSilencex7
namespace Go.Proofs.Ytopbkdcicidajaa.PFnSilence
open Go.RowKit Go.Proofs.YtopbkdcicidajaaW.PrintWords Go.Proofs.YtopbkdcicidajaaW.PrintLast Go.Proofs.YtopbkdcicidajaaW.PrintMore
attribute [local go_sem] max2_int min2_int max_two min_two max_three min_three max_four min_four   -- for this text's walks alone
set_option linter.unusedVariables false
set_option maxHeartbeats 8000000
set_option maxRecDepth 100000
set_option linter.unusedSimpArgs false

/-! ### impl_IsQuietSky: function 33 -/
def impl_IsQuietSky.l0 : Nat → Int → Int → Int → Int → List S72 → List S74 → Int → Int → Int → Int → Int → List S88 → Int → Option (Bool)
 | 0, _, _, _, _, _, _, _, _, _, _, _, _, _ => none
 | k + 1, l, I, j, m, s, u, x, y, z, B, D, E, G => if j < I then ((impl_MayDisturb.f k m s u x y z B D E G j l).bind fun J => (if J = true then (some false) else (impl_IsQuietSky.l0 k l I (wrap64 (j + 1)) m s u x y z B D E G))) else (some true)
def impl_IsQuietSky.f (k : Nat) (l : Int) (j : List S72) (D : List S74) (m s u x y : Int) (E : List S88) (z B : Int) : Option (Bool) := impl_IsQuietSky.l0 k B (j.length : Int) 0 l j D m s u x y E z
theorem impl_IsQuietSky.calls (k : Nat) (u : Int) (L : Option Addr) (T : Nat) (j : List S72) (M : Option Addr) (U : Nat) (m : List S74) (x y z B D : Int) (O : Option Addr) (X : Nat) (s : List S88) (E J : Int) (r : Bool) (w : World) (b2 : Kd.C k72 w L j.length j) (a9 : j.length ≤ T) (b3 : Kd.C k74 w M m.length m) (b0 : m.length ≤ U) (b4 : Kd.C k88 w O s.length s) (b1 : s.length ≤ X) (h : impl_IsQuietSky.f k u j m x y z B D s E J = some r) :
  Calls Try.prog 33 #[.agg #[iv_ u, .slice L j.length T, .slice M m.length U, iv_ x, iv_ y, iv_ z, iv_ B, iv_ D, .slice O s.length X, iv_ E], iv_ J] w fun e w' => e = .returned (.bool r) ∧ Below w.heap.size w w' := by
 have d0 := Try.underlying28
 have a6 := Aside0.mk b2
 have a2 := Aside0.mk a9
 clear b2 a9
 have a7 := Aside0.mk b3
 have a3 := Aside0.mk b0
 clear b3 b0
 have a8 := Aside0.mk b4
 have a4 := Aside0.mk b1
 clear b4 b1
 have HB := Aside0.mk (Below.refl w.heap.size w)
 have H := h
 clear h
 unfold impl_IsQuietSky.f at H
 have H' := Aside0.mk H
 clear H
 go_enter Try.func33, Try.ntmps33
 go_wp2_with (first | ((with_reducible refine gd_ 2 ?_); refine bx_ 2 28 #[iv_ u, .slice L j.length T, .slice M m.length U, iv_ x, iv_ y, iv_ z, iv_ B, iv_ D, .slice O s.length X, iv_ E] ?_; intro b6 hg w3 hbox hb; refine sh3_ (below_step (bl_ HB) hb) hbox (ge_ hg (bl_ HB)) ?_; clear HB hb hbox hg; intro HB l I; have c0 := cf10_ l))
 go_loopg [9] k (fun kq v9 w' => ∃ (G : Int), v9 = iv_ G ∧ Aside0 (impl_IsQuietSky.l0 kq J (j.length : Int) G u j m x y z B D s E = some r) ∧ Aside0 (kq ≤ k) ∧ Aside0 (w'.heap[b6]? = some (.cells #[iv_ u, (.slice L j.length T), (.slice M m.length U), iv_ x, iv_ y, iv_ z, iv_ B, iv_ D, (.slice O s.length X), iv_ E] 28 (0, 0))) ∧ Aside0 (Below w.heap.size w w'))
 case atStart => exact ⟨(0), (by first | rfl | (simp; done) | (simp [*]; done)), H', ⟨Nat.le_refl _⟩, ⟨by (with_reducible repeat (first | refine blk_drewN ?_ _ | refine blk_drew ?_ | refine blk_alloc ?_ _)); exact l.out⟩, ⟨bl1_ HB I⟩⟩
 case round =>
  clear H'
  obtain ⟨G, rfl, HA, a5, l, HB⟩ := hrel
  cases gk with
  | zero => exact absurd HA.out (by simp [impl_IsQuietSky.l0])
  | succ Y =>
   have H := HA.out
   clear HA
   simp only [impl_IsQuietSky.l0] at H
   by_cases c5 : G < (j.length : Int)
   ·rw [if_pos c5] at H
    have b5 := decide_eq_true c5
    clear c5
    replace H := bs_ H
    obtain ⟨b7, Z, H⟩ := H
    by_cases c7 : b7 = true
    ·subst c7
     rw [if_pos rfl] at H
     obtain rfl := Option.some.inj H
     have c1 := cf10_ l
     go_wp2_with (first | ((with_reducible refine gate_callee (f := 31) rfl ?_); refine gl_ 15 Try.func31 (impl_MayDisturb.calls Y u _ _ j _ _ m x y z B D _ _ s E G J true _ (ck_ a6 HB) a2.out (ck_ a7 HB) a3.out (ck_ a8 HB) a4.out Z.out) ?_; rintro e w9 ⟨rfl, hb⟩; refine ⟨_, rfl, sh2_ (blk_below (bk_ l) hb) (below_step (bl1_ HB I) hb) ?_⟩; clear l HB hb; intro l HB))
     go_ret
     exact ⟨by first | (rw [hRT_.out]; rfl) | exact er_, bl1_ HB I⟩
    ·replace c7 := Bool.eq_false_iff.mpr c7
     subst c7
     have H1 : (impl_IsQuietSky.l0 Y J (j.length : Int) (wrap64 (G + 1)) u j m x y z B D s E) = some r := by rw [if_neg (show ¬ (false = true) by decide)] at H; exact H
     clear H
     have H := H1
     clear H1
     have H' := Aside0.mk H
     clear H
     have b9 := cf10_ l
     go_wp2_with (first | ((with_reducible refine gate_callee (f := 31) rfl ?_); refine gl_ 15 Try.func31 (impl_MayDisturb.calls Y u _ _ j _ _ m x y z B D _ _ s E G J false _ (ck_ a6 HB) a2.out (ck_ a7 HB) a3.out (ck_ a8 HB) a4.out Z.out) ?_; rintro e d1 ⟨rfl, hb⟩; refine ⟨_, rfl, sh2_ (blk_below (bk_ l) hb) (below_step (bl1_ HB I) hb) ?_⟩; clear l HB hb; intro l HB))
     go_roundg Y
     case measure => have := a5.out; omega
     case rel => exact ⟨(wrap64 (G + 1)), (by first | rfl | (simp; done) | (simp [*]; done)), H', ⟨by have := a5.out; omega⟩, ⟨by (with_reducible repeat (first | refine blk_drewN ?_ _ | refine blk_drew ?_ | refine blk_alloc ?_ _)); exact l.out⟩, ⟨bl1_ HB I⟩⟩
   ·rw [if_neg c5] at H
    have b5 := decide_eq_false c5
    clear c5
    obtain rfl := Option.some.inj H
    go_wp2
    go_ret
    exact ⟨by first | (rw [hRT_.out]; rfl) | exact er_, bl1_ HB I⟩

end Go.Proofs.Ytopbkdcicidajaa.PFnSilence
