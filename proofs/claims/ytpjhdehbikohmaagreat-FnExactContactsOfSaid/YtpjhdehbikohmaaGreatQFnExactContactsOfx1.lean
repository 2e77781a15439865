-- Written by a program of this session for this claim (the kit's printer with changes).
import Derived.Test.YtpjhdehbikohmaaGreatQFnExactContactsOfx0
namespace Go.Proofs.YtpjhdehbikohmaaGreat.PFnExactContactsOf
open Go.RowKit Go.Proofs.YtpjhdehbikohmaaGreatW.PrintWords Go.Proofs.YtpjhdehbikohmaaGreatW.PrintLast Go.Proofs.YtpjhdehbikohmaaGreatW.PrintMore
attribute [local go_sem] max2_int min2_int max_two min_two max_three min_three max_four min_four   -- for this text's walks alone
set_option linter.unusedVariables false
set_option maxHeartbeats 8000000
set_option maxRecDepth 100000
set_option linter.unusedSimpArgs false

/-! ### laws_szSatS: function 16 -/
def laws_szSatS.f (l : List S82) (j : Int) : Option (Int) := if (wrap64 (j - (l.length : Int))) < 0 then (some (-1)) else (some (wrap64 (j - (l.length : Int))))
theorem laws_szSatS.calls (m : Option Addr) (s : Nat) (j : List S82) (l r : Int) (w : World) (x : Kd.C k82 w m j.length j) (u : j.length ≤ s) (h : laws_szSatS.f j l = some r) :
  Calls Tryz.prog 16 #[.slice m j.length s, iv_ l] w fun e w' => e = .returned (iv_ r) ∧ Drawn0 w w' := by
 have B := Aside0.mk x
 have z := Aside0.mk u
 clear x u
 have H := h
 clear h
 unfold laws_szSatS.f at H
 by_cases c3 : (wrap64 (l - (j.length : Int))) < 0
 ·rw [if_pos c3] at H
  have y := decide_eq_true c3
  clear c3
  obtain rfl := Option.some.inj H
  go_enter Tryz.func16, Tryz.ntmps16
  go_wp2
  go_ret
  exact ⟨by first | rfl | (simp; done) | (simp [*]; done), by repeat (first | exact Drawn0.refl _ | apply Drawn0.step)⟩
 ·rw [if_neg c3] at H
  have y := decide_eq_false c3
  clear c3
  obtain rfl := Option.some.inj H
  go_enter Tryz.func16, Tryz.ntmps16
  go_wp2
  go_ret
  exact ⟨by first | rfl | (simp; done) | (simp [*]; done), by repeat (first | exact Drawn0.refl _ | apply Drawn0.step)⟩

/-! ### laws_szSiteS: function 17 -/
def laws_szSiteS.f (l : List S84) (j : Int) : Option (Int) := if (wrap64 (j - (l.length : Int))) < 0 then (some (-1)) else (some (wrap64 (j - (l.length : Int))))
theorem laws_szSiteS.calls (m : Option Addr) (s : Nat) (j : List S84) (l r : Int) (w : World) (x : Kd.C k84 w m j.length j) (u : j.length ≤ s) (h : laws_szSiteS.f j l = some r) :
  Calls Tryz.prog 17 #[.slice m j.length s, iv_ l] w fun e w' => e = .returned (iv_ r) ∧ Drawn0 w w' := by
 have B := Aside0.mk x
 have z := Aside0.mk u
 clear x u
 have H := h
 clear h
 unfold laws_szSiteS.f at H
 by_cases c3 : (wrap64 (l - (j.length : Int))) < 0
 ·rw [if_pos c3] at H
  have y := decide_eq_true c3
  clear c3
  obtain rfl := Option.some.inj H
  go_enter Tryz.func17, Tryz.ntmps17
  go_wp2
  go_ret
  exact ⟨by first | rfl | (simp; done) | (simp [*]; done), by repeat (first | exact Drawn0.refl _ | apply Drawn0.step)⟩
 ·rw [if_neg c3] at H
  have y := decide_eq_false c3
  clear c3
  obtain rfl := Option.some.inj H
  go_enter Tryz.func17, Tryz.ntmps17
  go_wp2
  go_ret
  exact ⟨by first | rfl | (simp; done) | (simp [*]; done), by repeat (first | exact Drawn0.refl _ | apply Drawn0.step)⟩

/-! ### laws_szZoneS: function 18 -/
def laws_szZoneS.f (l : List S88) (j : Int) : Option (Int) := if (wrap64 (j - (l.length : Int))) < 0 then (some (-1)) else (some (wrap64 (j - (l.length : Int))))
theorem laws_szZoneS.calls (m : Option Addr) (s : Nat) (j : List S88) (l r : Int) (w : World) (x : Kd.C k88 w m j.length j) (u : j.length ≤ s) (h : laws_szZoneS.f j l = some r) :
  Calls Tryz.prog 18 #[.slice m j.length s, iv_ l] w fun e w' => e = .returned (iv_ r) ∧ Drawn0 w w' := by
 have B := Aside0.mk x
 have z := Aside0.mk u
 clear x u
 have H := h
 clear h
 unfold laws_szZoneS.f at H
 by_cases c3 : (wrap64 (l - (j.length : Int))) < 0
 ·rw [if_pos c3] at H
  have y := decide_eq_true c3
  clear c3
  obtain rfl := Option.some.inj H
  go_enter Tryz.func18, Tryz.ntmps18
  go_wp2
  go_ret
  exact ⟨by first | rfl | (simp; done) | (simp [*]; done), by repeat (first | exact Drawn0.refl _ | apply Drawn0.step)⟩
 ·rw [if_neg c3] at H
  have y := decide_eq_false c3
  clear c3
  obtain rfl := Option.some.inj H
  go_enter Tryz.func18, Tryz.ntmps18
  go_wp2
  go_ret
  exact ⟨by first | rfl | (simp; done) | (simp [*]; done), by repeat (first | exact Drawn0.refl _ | apply Drawn0.step)⟩

/-! ### laws_szSky: function 5 -/
def laws_szSky.f (z : Int) (u : List S82) (x : List S84) (B D E G I : Int) (y : List S88) (J s : Int) : Option (Int) := (laws_szSatS.f u s).bind fun j => (if j < 0 then (some (-1)) else ((laws_szSiteS.f x j).bind fun l => (if l < 0 then (some (-1)) else ((laws_szZoneS.f y l).bind fun m => (if m < 0 then (some (-1)) else (some m))))))
theorem laws_szSky.calls (I : Int) (G : Option Addr) (Y : Nat) (l : List S82) (x : Option Addr) (y : Nat) (j : List S84) (J L M O T : Int) (z : Option Addr) (B : Nat) (m : List S88) (U X r : Int) (w : World) (b5 : Kd.C k82 w G l.length l) (b2 : l.length ≤ Y) (b6 : Kd.C k84 w x j.length j) (b3 : j.length ≤ y) (b7 : Kd.C k88 w z m.length m) (b4 : m.length ≤ B) (h : laws_szSky.f I l j J L M O T m U X = some r) :
  Calls Tryz.prog 5 #[.agg #[iv_ I, .slice G l.length Y, .slice x j.length y, iv_ J, iv_ L, iv_ M, iv_ O, iv_ T, .slice z m.length B, iv_ U], iv_ X] w fun e w' => e = .returned (iv_ r) ∧ Below w.heap.size w w' := by
 have d3 := Tryz.underlying26
 have a3 := Aside0.mk b5
 have a2 := Aside0.mk b2
 clear b5 b2
 have a6 := Aside0.mk b6
 have a5 := Aside0.mk b3
 clear b6 b3
 have b1 := Aside0.mk b7
 have b0 := Aside0.mk b4
 clear b7 b4
 have HB := Aside0.mk (Below.refl w.heap.size w)
 have H := h
 clear h
 unfold laws_szSky.f at H
 replace H := bs_ H
 obtain ⟨u, A3, H⟩ := H
 by_cases c4 : u < 0
 ·rw [if_pos c4] at H
  have b9 := decide_eq_true c4
  clear c4
  obtain rfl := Option.some.inj H
  go_enter Tryz.func5, Tryz.ntmps5
  go_wp2_with (first | ((with_reducible refine gd_ 2 ?_); refine bx_ 2 26 #[iv_ I, .slice G l.length Y, .slice x j.length y, iv_ J, iv_ L, iv_ M, iv_ O, iv_ T, .slice z m.length B, iv_ U] ?_; intro a7 hg w5 hbox hb; refine sh3_ (below_step (bl_ HB) hb) hbox (ge_ hg (bl_ HB)) ?_; clear HB hb hbox hg; intro HB E s; have d2 := cf10_ E) | ((with_reducible refine gate_callee (f := 16) rfl ?_); refine gl_ 8 Tryz.func16 (laws_szSatS.calls _ _ l X u _ (ck_ a3 HB) a2.out A3.out) ?_; rintro e w' ⟨rfl, ⟨nd, rfl⟩⟩; refine ⟨_, rfl, ?_⟩))
  go_ret
  exact ⟨er_, bl1_ HB s⟩
 ·rw [if_neg c4] at H
  have b9 := decide_eq_false c4
  clear c4
  replace H := bs_ H
  obtain ⟨D, A7, H⟩ := H
  by_cases c8 : D < 0
  ·rw [if_pos c8] at H
   have c0 := decide_eq_true c8
   clear c8
   obtain rfl := Option.some.inj H
   go_enter Tryz.func5, Tryz.ntmps5
   go_wp2_with (first | ((with_reducible refine gd_ 2 ?_); refine bx_ 2 26 #[iv_ I, .slice G l.length Y, .slice x j.length y, iv_ J, iv_ L, iv_ M, iv_ O, iv_ T, .slice z m.length B, iv_ U] ?_; intro a7 hg w9 hbox hb; refine sh3_ (below_step (bl_ HB) hb) hbox (ge_ hg (bl_ HB)) ?_; clear HB hb hbox hg; intro HB E s; have c1 := cf10_ E) | ((with_reducible refine gate_callee (f := 16) rfl ?_); refine gl_ 8 Tryz.func16 (laws_szSatS.calls _ _ l X u _ (ck_ a3 HB) a2.out A3.out) ?_; rintro e w' ⟨rfl, ⟨nd, rfl⟩⟩; refine ⟨_, rfl, ?_⟩) | ((with_reducible refine gate_callee (f := 17) rfl ?_); refine goesL_ (some 14) rfl rfl Tryz.func17 (by kernel_rfl) rfl #[.slice x j.length y, iv_ u] rfl mp_ ?_; (with_reducible refine (laws_szSiteS.calls _ _ j u D _ ?side1 ?side2 A7.out).mono ?_); (case side1 => repeat (first | exact (Kd.C_below a6.out (bl1_ HB s)) | (with_reducible refine Kd.C_alloc ?_ _) | (with_reducible refine Kd.C_drewN ?_ _) | (with_reducible refine Kd.C_drew ?_))); (case side2 => exact a5.out); rintro e w' ⟨rfl, ⟨nd, rfl⟩⟩; refine ⟨_, rfl, ?_⟩))
   go_ret
   exact ⟨er_, bl1_ HB s⟩
  ·rw [if_neg c8] at H
   have c0 := decide_eq_false c8
   clear c8
   replace H := bs_ H
   obtain ⟨a8, a9, H⟩ := H
   by_cases Z : a8 < 0
   ·rw [if_pos Z] at H
    have b8 := decide_eq_true Z
    clear Z
    obtain rfl := Option.some.inj H
    go_enter Tryz.func5, Tryz.ntmps5
    go_wp2_with (first | ((with_reducible refine gd_ 2 ?_); refine bx_ 2 26 #[iv_ I, .slice G l.length Y, .slice x j.length y, iv_ J, iv_ L, iv_ M, iv_ O, iv_ T, .slice z m.length B, iv_ U] ?_; intro a7 hg d4 hbox hb; refine sh3_ (below_step (bl_ HB) hb) hbox (ge_ hg (bl_ HB)) ?_; clear HB hb hbox hg; intro HB E s; have d0 := cf10_ E) | ((with_reducible refine gate_callee (f := 16) rfl ?_); refine gl_ 8 Tryz.func16 (laws_szSatS.calls _ _ l X u _ (ck_ a3 HB) a2.out A3.out) ?_; rintro e w' ⟨rfl, ⟨nd, rfl⟩⟩; refine ⟨_, rfl, ?_⟩) | ((with_reducible refine gate_callee (f := 17) rfl ?_); refine goesL_ (some 14) rfl rfl Tryz.func17 (by kernel_rfl) rfl #[.slice x j.length y, iv_ u] rfl mp_ ?_; (with_reducible refine (laws_szSiteS.calls _ _ j u D _ ?side1 ?side2 A7.out).mono ?_); (case side1 => repeat (first | exact (Kd.C_below a6.out (bl1_ HB s)) | (with_reducible refine Kd.C_alloc ?_ _) | (with_reducible refine Kd.C_drewN ?_ _) | (with_reducible refine Kd.C_drew ?_))); (case side2 => exact a5.out); rintro e w' ⟨rfl, ⟨nd, rfl⟩⟩; refine ⟨_, rfl, ?_⟩) | ((with_reducible refine gate_callee (f := 18) rfl ?_); refine goesL_ (some 20) rfl rfl Tryz.func18 (by kernel_rfl) rfl #[.slice z m.length B, iv_ D] rfl mp_ ?_; (with_reducible refine (laws_szZoneS.calls _ _ m D a8 _ ?side1 ?side2 a9.out).mono ?_); (case side1 => repeat (first | exact (Kd.C_below b1.out (bl1_ HB s)) | (with_reducible refine Kd.C_alloc ?_ _) | (with_reducible refine Kd.C_drewN ?_ _) | (with_reducible refine Kd.C_drew ?_))); (case side2 => exact b0.out); rintro e w' ⟨rfl, ⟨nd, rfl⟩⟩; refine ⟨_, rfl, ?_⟩))
    go_ret
    exact ⟨er_, bl1_ HB s⟩
   ·rw [if_neg Z] at H
    have b8 := decide_eq_false Z
    clear Z
    obtain rfl := Option.some.inj H
    go_enter Tryz.func5, Tryz.ntmps5
    go_wp2_with (first | ((with_reducible refine gd_ 2 ?_); refine bx_ 2 26 #[iv_ I, .slice G l.length Y, .slice x j.length y, iv_ J, iv_ L, iv_ M, iv_ O, iv_ T, .slice z m.length B, iv_ U] ?_; intro a7 hg d5 hbox hb; refine sh3_ (below_step (bl_ HB) hb) hbox (ge_ hg (bl_ HB)) ?_; clear HB hb hbox hg; intro HB E s; have d1 := cf10_ E) | ((with_reducible refine gate_callee (f := 16) rfl ?_); refine gl_ 8 Tryz.func16 (laws_szSatS.calls _ _ l X u _ (ck_ a3 HB) a2.out A3.out) ?_; rintro e w' ⟨rfl, ⟨nd, rfl⟩⟩; refine ⟨_, rfl, ?_⟩) | ((with_reducible refine gate_callee (f := 17) rfl ?_); refine goesL_ (some 14) rfl rfl Tryz.func17 (by kernel_rfl) rfl #[.slice x j.length y, iv_ u] rfl mp_ ?_; (with_reducible refine (laws_szSiteS.calls _ _ j u D _ ?side1 ?side2 A7.out).mono ?_); (case side1 => repeat (first | exact (Kd.C_below a6.out (bl1_ HB s)) | (with_reducible refine Kd.C_alloc ?_ _) | (with_reducible refine Kd.C_drewN ?_ _) | (with_reducible refine Kd.C_drew ?_))); (case side2 => exact a5.out); rintro e w' ⟨rfl, ⟨nd, rfl⟩⟩; refine ⟨_, rfl, ?_⟩) | ((with_reducible refine gate_callee (f := 18) rfl ?_); refine goesL_ (some 20) rfl rfl Tryz.func18 (by kernel_rfl) rfl #[.slice z m.length B, iv_ D] rfl mp_ ?_; (with_reducible refine (laws_szZoneS.calls _ _ m D a8 _ ?side1 ?side2 a9.out).mono ?_); (case side1 => repeat (first | exact (Kd.C_below b1.out (bl1_ HB s)) | (with_reducible refine Kd.C_alloc ?_ _) | (with_reducible refine Kd.C_drewN ?_ _) | (with_reducible refine Kd.C_drew ?_))); (case side2 => exact b0.out); rintro e w' ⟨rfl, ⟨nd, rfl⟩⟩; refine ⟨_, rfl, ?_⟩))
    go_ret
    exact ⟨er_, bl1_ HB s⟩

/-! ### spec_l1In: function 40 -/
def spec_l1In.f (j l m : Int) : Option (Bool) := if j ≥ l then (some (decide (j ≤ m))) else (some false)
theorem spec_l1In.calls (j l m : Int) (r : Bool) (w : World) (h : spec_l1In.f j l m = some r) :
  Calls Tryz.prog 40 #[iv_ j, iv_ l, iv_ m] w fun e w' => e = .returned (.bool r) ∧ Drawn0 w w' := by
 have H := h
 clear h
 unfold spec_l1In.f at H
 by_cases c4 : j ≥ l
 ·rw [if_pos c4] at H
  have s : decide (l ≤ j) = true := decide_eq_true c4
  clear c4
  obtain rfl := Option.some.inj H
  go_enter Tryz.func40, Tryz.ntmps40
  go_wp2
  go_ret
  exact ⟨by first | rfl | (simp; done) | (simp [*]; done), by repeat (first | exact Drawn0.refl _ | apply Drawn0.step)⟩
 ·rw [if_neg c4] at H
  have s : decide (l ≤ j) = false := decide_eq_false c4
  clear c4
  obtain rfl := Option.some.inj H
  go_enter Tryz.func40, Tryz.ntmps40
  go_wp2
  go_ret
  exact ⟨by first | rfl | (simp; done) | (simp [*]; done), by repeat (first | exact Drawn0.refl _ | apply Drawn0.step)⟩

/-! ### spec_IsSat: function 39 -/
def spec_IsSat.f (j l m s u : Int) : Option (Bool) := if j ≥ 0 then (if j < u then ((spec_l1In.f l 0 359).bind fun x => (if x = true then ((spec_l1In.f m (-60) 60).bind fun y => (if y = true then ((spec_l1In.f s 0 20).bind fun z => (some z)) else (some false))) else (some false))) else (some false)) else (some false)
theorem spec_IsSat.calls (j l u x D : Int) (r : Bool) (w : World) (h : spec_IsSat.f j l u x D = some r) :
  Calls Tryz.prog 39 #[.agg #[iv_ j, iv_ l, iv_ u, iv_ x], iv_ D] w fun e w' => e = .returned (.bool r) ∧ Below w.heap.size w w' := by
 have a0 := Tryz.underlying68
 have HB := Aside0.mk (Below.refl w.heap.size w)
 have H := h
 clear h
 unfold spec_IsSat.f at H
 by_cases c3 : j ≥ 0
 ·rw [if_pos c3] at H
  have I : decide (0 ≤ j) = true := decide_eq_true c3
  clear c3
  by_cases c4 : j < D
  ·rw [if_pos c4] at H
   have J := decide_eq_true c4
   clear c4
   replace H := bs_ H
   obtain ⟨L, B, H⟩ := H
   by_cases c6 : L = true
   ·subst c6
    rw [if_pos rfl] at H
    replace H := bs_ H
    obtain ⟨M, E, H⟩ := H
    by_cases c8 : M = true
    ·subst c8
     rw [if_pos rfl] at H
     replace H := bs_ H
     obtain ⟨O, G, H⟩ := H
     obtain rfl := Option.some.inj H
     go_enter Tryz.func39, Tryz.ntmps39
     go_wp2_with (first | ((with_reducible refine gd_ 2 ?_); refine bx_ 2 68 #[iv_ j, iv_ l, iv_ u, iv_ x] ?_; intro z hg a2 hbox hb; refine sh3_ (below_step (bl_ HB) hb) hbox (ge_ hg (bl_ HB)) ?_; clear HB hb hbox hg; intro HB m s; have T := cf4_ m) | (go_at_call 40; (with_reducible refine (spec_l1In.calls l 0 359 true _ B.out).mono ?_); rintro e w' ⟨rfl, ⟨nd, rfl⟩⟩) | (go_at_call 40; (with_reducible refine (spec_l1In.calls u (-60) 60 true _ E.out).mono ?_); rintro e w' ⟨rfl, ⟨nd, rfl⟩⟩) | (go_at_call 40; (with_reducible refine (spec_l1In.calls x 0 20 O _ G.out).mono ?_); rintro e w' ⟨rfl, ⟨nd, rfl⟩⟩))
     go_ret
     exact ⟨er_, bl1_ HB s⟩
    ·replace c8 := Bool.eq_false_iff.mpr c8
     subst c8
     have y : (some false) = some r := by rw [if_neg (show ¬ (false = true) by decide)] at H; exact H
     clear H
     have H := y
     clear y
     obtain rfl := Option.some.inj H
     go_enter Tryz.func39, Tryz.ntmps39
     go_wp2_with (first | ((with_reducible refine gd_ 2 ?_); refine bx_ 2 68 #[iv_ j, iv_ l, iv_ u, iv_ x] ?_; intro z hg a3 hbox hb; refine sh3_ (below_step (bl_ HB) hb) hbox (ge_ hg (bl_ HB)) ?_; clear HB hb hbox hg; intro HB m s; have U := cf4_ m) | (go_at_call 40; (with_reducible refine (spec_l1In.calls l 0 359 true _ B.out).mono ?_); rintro e w' ⟨rfl, ⟨nd, rfl⟩⟩) | (go_at_call 40; (with_reducible refine (spec_l1In.calls u (-60) 60 false _ E.out).mono ?_); rintro e w' ⟨rfl, ⟨nd, rfl⟩⟩))
     go_ret
     exact ⟨er_, bl1_ HB s⟩
   ·replace c6 := Bool.eq_false_iff.mpr c6
    subst c6
    have y : (some false) = some r := by rw [if_neg (show ¬ (false = true) by decide)] at H; exact H
    clear H
    have H := y
    clear y
    obtain rfl := Option.some.inj H
    go_enter Tryz.func39, Tryz.ntmps39
    go_wp2_with (first | ((with_reducible refine gd_ 2 ?_); refine bx_ 2 68 #[iv_ j, iv_ l, iv_ u, iv_ x] ?_; intro z hg a4 hbox hb; refine sh3_ (below_step (bl_ HB) hb) hbox (ge_ hg (bl_ HB)) ?_; clear HB hb hbox hg; intro HB m s; have X := cf4_ m) | (go_at_call 40; (with_reducible refine (spec_l1In.calls l 0 359 false _ B.out).mono ?_); rintro e w' ⟨rfl, ⟨nd, rfl⟩⟩))
    go_ret
    exact ⟨er_, bl1_ HB s⟩
  ·rw [if_neg c4] at H
   have J := decide_eq_false c4
   clear c4
   obtain rfl := Option.some.inj H
   go_enter Tryz.func39, Tryz.ntmps39
   go_wp2_with (first | ((with_reducible refine gd_ 2 ?_); refine bx_ 2 68 #[iv_ j, iv_ l, iv_ u, iv_ x] ?_; intro z hg a5 hbox hb; refine sh3_ (below_step (bl_ HB) hb) hbox (ge_ hg (bl_ HB)) ?_; clear HB hb hbox hg; intro HB m s; have Y := cf4_ m))
   go_ret
   exact ⟨er_, bl1_ HB s⟩
 ·rw [if_neg c3] at H
  have I : decide (0 ≤ j) = false := decide_eq_false c3
  clear c3
  obtain rfl := Option.some.inj H
  go_enter Tryz.func39, Tryz.ntmps39
  go_wp2_with (first | ((with_reducible refine gd_ 2 ?_); refine bx_ 2 68 #[iv_ j, iv_ l, iv_ u, iv_ x] ?_; intro z hg a6 hbox hb; refine sh3_ (below_step (bl_ HB) hb) hbox (ge_ hg (bl_ HB)) ?_; clear HB hb hbox hg; intro HB m s; have Z := cf4_ m))
  go_ret
  exact ⟨er_, bl1_ HB s⟩

/-! ### spec_l7Turn: function 41 -/
def spec_l7Turn.f (j : Int) : Option (Bool) := (spec_l1In.f j (-60) 60).bind fun l => (some l)
theorem spec_l7Turn.calls (j : Int) (r : Bool) (w : World) (h : spec_l7Turn.f j = some r) :
  Calls Tryz.prog 41 #[iv_ j] w fun e w' => e = .returned (.bool r) ∧ Drawn0 w w' := by
 have H := h
 clear h
 unfold spec_l7Turn.f at H
 replace H := bs_ H
 obtain ⟨m, l, H⟩ := H
 obtain rfl := Option.some.inj H
 go_enter Tryz.func41, Tryz.ntmps41
 go_wp2_with (first | ((with_reducible refine gate_callee (f := 40) rfl ?_); refine gl_ 4 Tryz.func40 (spec_l1In.calls j (-60) 60 m _ l.out) ?_; rintro e w' ⟨rfl, ⟨nd, rfl⟩⟩; refine ⟨_, rfl, ?_⟩))
 go_ret
 exact ⟨by first | rfl | (simp; done) | (simp [*]; done), by repeat (first | exact Drawn0.refl _ | apply Drawn0.step)⟩

/-! ### spec_l7Half: function 42 -/
def spec_l7Half.f (j : Int) : Option (Bool) := (spec_l1In.f j 0 180).bind fun l => (some l)
theorem spec_l7Half.calls (j : Int) (r : Bool) (w : World) (h : spec_l7Half.f j = some r) :
  Calls Tryz.prog 42 #[iv_ j] w fun e w' => e = .returned (.bool r) ∧ Drawn0 w w' := by
 have H := h
 clear h
 unfold spec_l7Half.f at H
 replace H := bs_ H
 obtain ⟨m, l, H⟩ := H
 obtain rfl := Option.some.inj H
 go_enter Tryz.func42, Tryz.ntmps42
 go_wp2_with (first | ((with_reducible refine gate_callee (f := 40) rfl ?_); refine gl_ 4 Tryz.func40 (spec_l1In.calls j 0 180 m _ l.out) ?_; rintro e w' ⟨rfl, ⟨nd, rfl⟩⟩; refine ⟨_, rfl, ?_⟩))
 go_ret
 exact ⟨by first | rfl | (simp; done) | (simp [*]; done), by repeat (first | exact Drawn0.refl _ | apply Drawn0.step)⟩

end Go.Proofs.YtpjhdehbikohmaaGreat.PFnExactContactsOf
