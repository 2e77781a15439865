-- Written by a program of this session for this claim (the kit's printer with changes).
import Derived.Test.YtpjhdehbikohmaaGreatQFnExactPlanOfx0
namespace Go.Proofs.YtpjhdehbikohmaaGreat.PFnExactPlanOf
open Go.RowKit Go.Proofs.YtpjhdehbikohmaaGreatW.PrintWords Go.Proofs.YtpjhdehbikohmaaGreatW.PrintLast Go.Proofs.YtpjhdehbikohmaaGreatW.PrintMore
attribute [local go_sem] max2_int min2_int max_two min_two max_three min_three max_four min_four   -- for this text's walks alone
set_option linter.unusedVariables false
set_option maxHeartbeats 8000000
set_option maxRecDepth 100000
set_option linter.unusedSimpArgs false

/-! ### impl_InRange: function 51 -/
def impl_InRange.f (j l m : Int) : Option (Bool) := if l ≤ j then (some (decide (j ≤ m))) else (some false)
theorem impl_InRange.calls (j l m : Int) (r : Bool) (w : World) (h : impl_InRange.f j l m = some r) :
  Calls Tryz.prog 51 #[iv_ j, iv_ l, iv_ m] w fun e w' => e = .returned (.bool r) ∧ Drawn0 w w' := by
 have H := h
 clear h
 unfold impl_InRange.f at H
 by_cases c4 : l ≤ j
 ·rw [if_pos c4] at H
  have s := decide_eq_true c4
  clear c4
  obtain rfl := Option.some.inj H
  go_enter Tryz.func51, Tryz.ntmps51
  go_wp2
  go_ret
  exact ⟨by first | rfl | (simp; done) | (simp [*]; done), by repeat (first | exact Drawn0.refl _ | apply Drawn0.step)⟩
 ·rw [if_neg c4] at H
  have s := decide_eq_false c4
  clear c4
  obtain rfl := Option.some.inj H
  go_enter Tryz.func51, Tryz.ntmps51
  go_wp2
  go_ret
  exact ⟨by first | rfl | (simp; done) | (simp [*]; done), by repeat (first | exact Drawn0.refl _ | apply Drawn0.step)⟩

/-! ### impl_IsSat: function 52 -/
def impl_IsSat.f (j l m s u : Int) : Option (Bool) := if j ≥ 0 then (if j < u then ((impl_InRange.f l 0 359).bind fun x => (if x = true then ((impl_InRange.f m (-60) 60).bind fun y => (if y = true then ((impl_InRange.f s 0 20).bind fun z => (some z)) else (some false))) else (some false))) else (some false)) else (some false)
theorem impl_IsSat.calls (j l u x D : Int) (r : Bool) (w : World) (h : impl_IsSat.f j l u x D = some r) :
  Calls Tryz.prog 52 #[.agg #[iv_ j, iv_ l, iv_ u, iv_ x], iv_ D] w fun e w' => e = .returned (.bool r) ∧ Below w.heap.size w w' := by
 have a0 := Tryz.underlying68
 have HB := Aside0.mk (Below.refl w.heap.size w)
 have H := h
 clear h
 unfold impl_IsSat.f at H
 by_cases c3 : j ≥ 0
 ·rw [if_pos c3] at H
  have I : decide (0 ≤ j) = true := decide_eq_true c3
  clear c3
  by_cases c4 : j < D
  ·rw [if_pos c4] at H
   have J := decide_eq_true c4
   clear c4
   replace H := bs_ H
   obtain ⟨L, B, H⟩ := H
   by_cases c6 : L = true
   ·subst c6
    rw [if_pos rfl] at H
    replace H := bs_ H
    obtain ⟨M, E, H⟩ := H
    by_cases c8 : M = true
    ·subst c8
     rw [if_pos rfl] at H
     replace H := bs_ H
     obtain ⟨O, G, H⟩ := H
     obtain rfl := Option.some.inj H
     go_enter Tryz.func52, Tryz.ntmps52
     go_wp2_with (first | ((with_reducible refine gd_ 2 ?_); refine bx_ 2 68 #[iv_ j, iv_ l, iv_ u, iv_ x] ?_; intro z hg a2 hbox hb; refine sh3_ (below_step (bl_ HB) hb) hbox (ge_ hg (bl_ HB)) ?_; clear HB hb hbox hg; intro HB m s; have T := cf4_ m) | (go_at_call 51; (with_reducible refine (impl_InRange.calls l 0 359 true _ B.out).mono ?_); rintro e w' ⟨rfl, ⟨nd, rfl⟩⟩) | (go_at_call 51; (with_reducible refine (impl_InRange.calls u (-60) 60 true _ E.out).mono ?_); rintro e w' ⟨rfl, ⟨nd, rfl⟩⟩) | (go_at_call 51; (with_reducible refine (impl_InRange.calls x 0 20 O _ G.out).mono ?_); rintro e w' ⟨rfl, ⟨nd, rfl⟩⟩))
     go_ret
     exact ⟨er_, bl1_ HB s⟩
    ·replace c8 := Bool.eq_false_iff.mpr c8
     subst c8
     have y : (some false) = some r := by rw [if_neg (show ¬ (false = true) by decide)] at H; exact H
     clear H
     have H := y
     clear y
     obtain rfl := Option.some.inj H
     go_enter Tryz.func52, Tryz.ntmps52
     go_wp2_with (first | ((with_reducible refine gd_ 2 ?_); refine bx_ 2 68 #[iv_ j, iv_ l, iv_ u, iv_ x] ?_; intro z hg a3 hbox hb; refine sh3_ (below_step (bl_ HB) hb) hbox (ge_ hg (bl_ HB)) ?_; clear HB hb hbox hg; intro HB m s; have U := cf4_ m) | (go_at_call 51; (with_reducible refine (impl_InRange.calls l 0 359 true _ B.out).mono ?_); rintro e w' ⟨rfl, ⟨nd, rfl⟩⟩) | (go_at_call 51; (with_reducible refine (impl_InRange.calls u (-60) 60 false _ E.out).mono ?_); rintro e w' ⟨rfl, ⟨nd, rfl⟩⟩))
     go_ret
     exact ⟨er_, bl1_ HB s⟩
   ·replace c6 := Bool.eq_false_iff.mpr c6
    subst c6
    have y : (some false) = some r := by rw [if_neg (show ¬ (false = true) by decide)] at H; exact H
    clear H
    have H := y
    clear y
    obtain rfl := Option.some.inj H
    go_enter Tryz.func52, Tryz.ntmps52
    go_wp2_with (first | ((with_reducible refine gd_ 2 ?_); refine bx_ 2 68 #[iv_ j, iv_ l, iv_ u, iv_ x] ?_; intro z hg a4 hbox hb; refine sh3_ (below_step (bl_ HB) hb) hbox (ge_ hg (bl_ HB)) ?_; clear HB hb hbox hg; intro HB m s; have X := cf4_ m) | (go_at_call 51; (with_reducible refine (impl_InRange.calls l 0 359 false _ B.out).mono ?_); rintro e w' ⟨rfl, ⟨nd, rfl⟩⟩))
    go_ret
    exact ⟨er_, bl1_ HB s⟩
  ·rw [if_neg c4] at H
   have J := decide_eq_false c4
   clear c4
   obtain rfl := Option.some.inj H
   go_enter Tryz.func52, Tryz.ntmps52
   go_wp2_with (first | ((with_reducible refine gd_ 2 ?_); refine bx_ 2 68 #[iv_ j, iv_ l, iv_ u, iv_ x] ?_; intro z hg a5 hbox hb; refine sh3_ (below_step (bl_ HB) hb) hbox (ge_ hg (bl_ HB)) ?_; clear HB hb hbox hg; intro HB m s; have Y := cf4_ m))
   go_ret
   exact ⟨er_, bl1_ HB s⟩
 ·rw [if_neg c3] at H
  have I : decide (0 ≤ j) = false := decide_eq_false c3
  clear c3
  obtain rfl := Option.some.inj H
  go_enter Tryz.func52, Tryz.ntmps52
  go_wp2_with (first | ((with_reducible refine gd_ 2 ?_); refine bx_ 2 68 #[iv_ j, iv_ l, iv_ u, iv_ x] ?_; intro z hg a6 hbox hb; refine sh3_ (below_step (bl_ HB) hb) hbox (ge_ hg (bl_ HB)) ?_; clear HB hb hbox hg; intro HB m s; have Z := cf4_ m))
  go_ret
  exact ⟨er_, bl1_ HB s⟩

/-! ### impl_isWidth: function 53 -/
def impl_isWidth.f (j : Int) : Option (Bool) := (impl_InRange.f j 0 359).bind fun l => (some l)
theorem impl_isWidth.calls (j : Int) (r : Bool) (w : World) (h : impl_isWidth.f j = some r) :
  Calls Tryz.prog 53 #[iv_ j] w fun e w' => e = .returned (.bool r) ∧ Drawn0 w w' := by
 have H := h
 clear h
 unfold impl_isWidth.f at H
 replace H := bs_ H
 obtain ⟨m, l, H⟩ := H
 obtain rfl := Option.some.inj H
 go_enter Tryz.func53, Tryz.ntmps53
 go_wp2_with (first | ((with_reducible refine gate_callee (f := 51) rfl ?_); refine gl_ 4 Tryz.func51 (impl_InRange.calls j 0 359 m _ l.out) ?_; rintro e w' ⟨rfl, ⟨nd, rfl⟩⟩; refine ⟨_, rfl, ?_⟩))
 go_ret
 exact ⟨by first | rfl | (simp; done) | (simp [*]; done), by repeat (first | exact Drawn0.refl _ | apply Drawn0.step)⟩

end Go.Proofs.YtpjhdehbikohmaaGreat.PFnExactPlanOf
