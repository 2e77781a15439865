-- Written by a program of this session for this claim (the kit's printer with changes).
import Derived.Test.YtpjhdehbikohmaaGreatQFnExactPlanOfx0
namespace Go.Proofs.YtpjhdehbikohmaaGreat.PFnExactPlanOf
open Go.RowKit Go.Proofs.YtpjhdehbikohmaaGreatW.PrintWords Go.Proofs.YtpjhdehbikohmaaGreatW.PrintLast Go.Proofs.YtpjhdehbikohmaaGreatW.PrintMore
attribute [local go_sem] max2_int min2_int max_two min_two max_three min_three max_four min_four   -- for this text's walks alone
set_option linter.unusedVariables false
set_option maxHeartbeats 8000000
set_option maxRecDepth 100000
set_option linter.unusedSimpArgs false

/-! ### laws_szSatS: function 16 -/
def laws_szSatS.f (l : List S82) (j : Int) : Option (Int) := if (wrap64 (j - (l.length : Int))) < 0 then (some (-1)) else (some (wrap64 (j - (l.length : Int))))
theorem laws_szSatS.calls (m : Option Addr) (s : Nat) (j : List S82) (l r : Int) (w : World) (x : Kd.C k82 w m j.length j) (u : j.length ≤ s) (h : laws_szSatS.f j l = some r) :
  Calls Tryz.prog 16 #[.slice m j.length s, iv_ l] w fun e w' => e = .returned (iv_ r) ∧ Drawn0 w w' := by
 have B := Aside0.mk x
 have z := Aside0.mk u
 clear x u
 have H := h
 clear h
 unfold laws_szSatS.f at H
 by_cases c3 : (wrap64 (l - (j.length : Int))) < 0
 ·rw [if_pos c3] at H
  have y := decide_eq_true c3
  clear c3
  obtain rfl := Option.some.inj H
  go_enter Tryz.func16, Tryz.ntmps16
  go_wp2
  go_ret
  exact ⟨by first | rfl | (simp; done) | (simp [*]; done), by repeat (first | exact Drawn0.refl _ | apply Drawn0.step)⟩
 ·rw [if_neg c3] at H
  have y := decide_eq_false c3
  clear c3
  obtain rfl := Option.some.inj H
  go_enter Tryz.func16, Tryz.ntmps16
  go_wp2
  go_ret
  exact ⟨by first | rfl | (simp; done) | (simp [*]; done), by repeat (first | exact Drawn0.refl _ | apply Drawn0.step)⟩

/-! ### laws_szSiteS: function 17 -/
def laws_szSiteS.f (l : List S84) (j : Int) : Option (Int) := if (wrap64 (j - (l.length : Int))) < 0 then (some (-1)) else (some (wrap64 (j - (l.length : Int))))
theorem laws_szSiteS.calls (m : Option Addr) (s : Nat) (j : List S84) (l r : Int) (w : World) (x : Kd.C k84 w m j.length j) (u : j.length ≤ s) (h : laws_szSiteS.f j l = some r) :
  Calls Tryz.prog 17 #[.slice m j.length s, iv_ l] w fun e w' => e = .returned (iv_ r) ∧ Drawn0 w w' := by
 have B := Aside0.mk x
 have z := Aside0.mk u
 clear x u
 have H := h
 clear h
 unfold laws_szSiteS.f at H
 by_cases c3 : (wrap64 (l - (j.length : Int))) < 0
 ·rw [if_pos c3] at H
  have y := decide_eq_true c3
  clear c3
  obtain rfl := Option.some.inj H
  go_enter Tryz.func17, Tryz.ntmps17
  go_wp2
  go_ret
  exact ⟨by first | rfl | (simp; done) | (simp [*]; done), by repeat (first | exact Drawn0.refl _ | apply Drawn0.step)⟩
 ·rw [if_neg c3] at H
  have y := decide_eq_false c3
  clear c3
  obtain rfl := Option.some.inj H
  go_enter Tryz.func17, Tryz.ntmps17
  go_wp2
  go_ret
  exact ⟨by first | rfl | (simp; done) | (simp [*]; done), by repeat (first | exact Drawn0.refl _ | apply Drawn0.step)⟩

/-! ### laws_szZoneS: function 18 -/
def laws_szZoneS.f (l : List S88) (j : Int) : Option (Int) := if (wrap64 (j - (l.length : Int))) < 0 then (some (-1)) else (some (wrap64 (j - (l.length : Int))))
theorem laws_szZoneS.calls (m : Option Addr) (s : Nat) (j : List S88) (l r : Int) (w : World) (x : Kd.C k88 w m j.length j) (u : j.length ≤ s) (h : laws_szZoneS.f j l = some r) :
  Calls Tryz.prog 18 #[.slice m j.length s, iv_ l] w fun e w' => e = .returned (iv_ r) ∧ Drawn0 w w' := by
 have B := Aside0.mk x
 have z := Aside0.mk u
 clear x u
 have H := h
 clear h
 unfold laws_szZoneS.f at H
 by_cases c3 : (wrap64 (l - (j.length : Int))) < 0
 ·rw [if_pos c3] at H
  have y := decide_eq_true c3
  clear c3
  obtain rfl := Option.some.inj H
  go_enter Tryz.func18, Tryz.ntmps18
  go_wp2
  go_ret
  exact ⟨by first | rfl | (simp; done) | (simp [*]; done), by repeat (first | exact Drawn0.refl _ | apply Drawn0.step)⟩
 ·rw [if_neg c3] at H
  have y := decide_eq_false c3
  clear c3
  obtain rfl := Option.some.inj H
  go_enter Tryz.func18, Tryz.ntmps18
  go_wp2
  go_ret
  exact ⟨by first | rfl | (simp; done) | (simp [*]; done), by repeat (first | exact Drawn0.refl _ | apply Drawn0.step)⟩

/-! ### laws_szSky: function 5 -/
def laws_szSky.f (z : Int) (u : List S82) (x : List S84) (B D E G I : Int) (y : List S88) (J s : Int) : Option (Int) := (laws_szSatS.f u s).bind fun j => (if j < 0 then (some (-1)) else ((laws_szSiteS.f x j).bind fun l => (if l < 0 then (some (-1)) else ((laws_szZoneS.f y l).bind fun m => (if m < 0 then (some (-1)) else (some m))))))
theorem laws_szSky.calls (I : Int) (G : Option Addr) (Y : Nat) (l : List S82) (x : Option Addr) (y : Nat) (j : List S84) (J L M O T : Int) (z : Option Addr) (B : Nat) (m : List S88) (U X r : Int) (w : World) (b5 : Kd.C k82 w G l.length l) (b2 : l.length ≤ Y) (b6 : Kd.C k84 w x j.length j) (b3 : j.length ≤ y) (b7 : Kd.C k88 w z m.length m) (b4 : m.length ≤ B) (h : laws_szSky.f I l j J L M O T m U X = some r) :
  Calls Tryz.prog 5 #[.agg #[iv_ I, .slice G l.length Y, .slice x j.length y, iv_ J, iv_ L, iv_ M, iv_ O, iv_ T, .slice z m.length B, iv_ U], iv_ X] w fun e w' => e = .returned (iv_ r) ∧ Below w.heap.size w w' := by
 have d3 := Tryz.underlying26
 have a3 := Aside0.mk b5
 have a2 := Aside0.mk b2
 clear b5 b2
 have a6 := Aside0.mk b6
 have a5 := Aside0.mk b3
 clear b6 b3
 have b1 := Aside0.mk b7
 have b0 := Aside0.mk b4
 clear b7 b4
 have HB := Aside0.mk (Below.refl w.heap.size w)
 have H := h
 clear h
 unfold laws_szSky.f at H
 replace H := bs_ H
 obtain ⟨u, A3, H⟩ := H
 by_cases c4 : u < 0
 ·rw [if_pos c4] at H
  have b9 := decide_eq_true c4
  clear c4
  obtain rfl := Option.some.inj H
  go_enter Tryz.func5, Tryz.ntmps5
  go_wp2_with (first | ((with_reducible refine gd_ 2 ?_); refine bx_ 2 26 #[iv_ I, .slice G l.length Y, .slice x j.length y, iv_ J, iv_ L, iv_ M, iv_ O, iv_ T, .slice z m.length B, iv_ U] ?_; intro a7 hg w5 hbox hb; refine sh3_ (below_step (bl_ HB) hb) hbox (ge_ hg (bl_ HB)) ?_; clear HB hb hbox hg; intro HB E s; have d2 := cf10_ E) | ((with_reducible refine gate_callee (f := 16) rfl ?_); refine gl_ 8 Tryz.func16 (laws_szSatS.calls _ _ l X u _ (ck_ a3 HB) a2.out A3.out) ?_; rintro e w' ⟨rfl, ⟨nd, rfl⟩⟩; refine ⟨_, rfl, ?_⟩))
  go_ret
  exact ⟨er_, bl1_ HB s⟩
 ·rw [if_neg c4] at H
  have b9 := decide_eq_false c4
  clear c4
  replace H := bs_ H
  obtain ⟨D, A7, H⟩ := H
  by_cases c8 : D < 0
  ·rw [if_pos c8] at H
   have c0 := decide_eq_true c8
   clear c8
   obtain rfl := Option.some.inj H
   go_enter Tryz.func5, Tryz.ntmps5
   go_wp2_with (first | ((with_reducible refine gd_ 2 ?_); refine bx_ 2 26 #[iv_ I, .slice G l.length Y, .slice x j.length y, iv_ J, iv_ L, iv_ M, iv_ O, iv_ T, .slice z m.length B, iv_ U] ?_; intro a7 hg w9 hbox hb; refine sh3_ (below_step (bl_ HB) hb) hbox (ge_ hg (bl_ HB)) ?_; clear HB hb hbox hg; intro HB E s; have c1 := cf10_ E) | ((with_reducible refine gate_callee (f := 16) rfl ?_); refine gl_ 8 Tryz.func16 (laws_szSatS.calls _ _ l X u _ (ck_ a3 HB) a2.out A3.out) ?_; rintro e w' ⟨rfl, ⟨nd, rfl⟩⟩; refine ⟨_, rfl, ?_⟩) | ((with_reducible refine gate_callee (f := 17) rfl ?_); refine goesL_ (some 14) rfl rfl Tryz.func17 (by kernel_rfl) rfl #[.slice x j.length y, iv_ u] rfl mp_ ?_; (with_reducible refine (laws_szSiteS.calls _ _ j u D _ ?side1 ?side2 A7.out).mono ?_); (case side1 => repeat (first | exact (Kd.C_below a6.out (bl1_ HB s)) | (with_reducible refine Kd.C_alloc ?_ _) | (with_reducible refine Kd.C_drewN ?_ _) | (with_reducible refine Kd.C_drew ?_))); (case side2 => exact a5.out); rintro e w' ⟨rfl, ⟨nd, rfl⟩⟩; refine ⟨_, rfl, ?_⟩))
   go_ret
   exact ⟨er_, bl1_ HB s⟩
  ·rw [if_neg c8] at H
   have c0 := decide_eq_false c8
   clear c8
   replace H := bs_ H
   obtain ⟨a8, a9, H⟩ := H
   by_cases Z : a8 < 0
   ·rw [if_pos Z] at H
    have b8 := decide_eq_true Z
    clear Z
    obtain rfl := Option.some.inj H
    go_enter Tryz.func5, Tryz.ntmps5
    go_wp2_with (first | ((with_reducible refine gd_ 2 ?_); refine bx_ 2 26 #[iv_ I, .slice G l.length Y, .slice x j.length y, iv_ J, iv_ L, iv_ M, iv_ O, iv_ T, .slice z m.length B, iv_ U] ?_; intro a7 hg d4 hbox hb; refine sh3_ (below_step (bl_ HB) hb) hbox (ge_ hg (bl_ HB)) ?_; clear HB hb hbox hg; intro HB E s; have d0 := cf10_ E) | ((with_reducible refine gate_callee (f := 16) rfl ?_); refine gl_ 8 Tryz.func16 (laws_szSatS.calls _ _ l X u _ (ck_ a3 HB) a2.out A3.out) ?_; rintro e w' ⟨rfl, ⟨nd, rfl⟩⟩; refine ⟨_, rfl, ?_⟩) | ((with_reducible refine gate_callee (f := 17) rfl ?_); refine goesL_ (some 14) rfl rfl Tryz.func17 (by kernel_rfl) rfl #[.slice x j.length y, iv_ u] rfl mp_ ?_; (with_reducible refine (laws_szSiteS.calls _ _ j u D _ ?side1 ?side2 A7.out).mono ?_); (case side1 => repeat (first | exact (Kd.C_below a6.out (bl1_ HB s)) | (with_reducible refine Kd.C_alloc ?_ _) | (with_reducible refine Kd.C_drewN ?_ _) | (with_reducible refine Kd.C_drew ?_))); (case side2 => exact a5.out); rintro e w' ⟨rfl, ⟨nd, rfl⟩⟩; refine ⟨_, rfl, ?_⟩) | ((with_reducible refine gate_callee (f := 18) rfl ?_); refine goesL_ (some 20) rfl rfl Tryz.func18 (by kernel_rfl) rfl #[.slice z m.length B, iv_ D] rfl mp_ ?_; (with_reducible refine (laws_szZoneS.calls _ _ m D a8 _ ?side1 ?side2 a9.out).mono ?_); (case side1 => repeat (first | exact (Kd.C_below b1.out (bl1_ HB s)) | (with_reducible refine Kd.C_alloc ?_ _) | (with_reducible refine Kd.C_drewN ?_ _) | (with_reducible refine Kd.C_drew ?_))); (case side2 => exact b0.out); rintro e w' ⟨rfl, ⟨nd, rfl⟩⟩; refine ⟨_, rfl, ?_⟩))
    go_ret
    exact ⟨er_, bl1_ HB s⟩
   ·rw [if_neg Z] at H
    have b8 := decide_eq_false Z
    clear Z
    obtain rfl := Option.some.inj H
    go_enter Tryz.func5, Tryz.ntmps5
    go_wp2_with (first | ((with_reducible refine gd_ 2 ?_); refine bx_ 2 26 #[iv_ I, .slice G l.length Y, .slice x j.length y, iv_ J, iv_ L, iv_ M, iv_ O, iv_ T, .slice z m.length B, iv_ U] ?_; intro a7 hg d5 hbox hb; refine sh3_ (below_step (bl_ HB) hb) hbox (ge_ hg (bl_ HB)) ?_; clear HB hb hbox hg; intro HB E s; have d1 := cf10_ E) | ((with_reducible refine gate_callee (f := 16) rfl ?_); refine gl_ 8 Tryz.func16 (laws_szSatS.calls _ _ l X u _ (ck_ a3 HB) a2.out A3.out) ?_; rintro e w' ⟨rfl, ⟨nd, rfl⟩⟩; refine ⟨_, rfl, ?_⟩) | ((with_reducible refine gate_callee (f := 17) rfl ?_); refine goesL_ (some 14) rfl rfl Tryz.func17 (by kernel_rfl) rfl #[.slice x j.length y, iv_ u] rfl mp_ ?_; (with_reducible refine (laws_szSiteS.calls _ _ j u D _ ?side1 ?side2 A7.out).mono ?_); (case side1 => repeat (first | exact (Kd.C_below a6.out (bl1_ HB s)) | (with_reducible refine Kd.C_alloc ?_ _) | (with_reducible refine Kd.C_drewN ?_ _) | (with_reducible refine Kd.C_drew ?_))); (case side2 => exact a5.out); rintro e w' ⟨rfl, ⟨nd, rfl⟩⟩; refine ⟨_, rfl, ?_⟩) | ((with_reducible refine gate_callee (f := 18) rfl ?_); refine goesL_ (some 20) rfl rfl Tryz.func18 (by kernel_rfl) rfl #[.slice z m.length B, iv_ D] rfl mp_ ?_; (with_reducible refine (laws_szZoneS.calls _ _ m D a8 _ ?side1 ?side2 a9.out).mono ?_); (case side1 => repeat (first | exact (Kd.C_below b1.out (bl1_ HB s)) | (with_reducible refine Kd.C_alloc ?_ _) | (with_reducible refine Kd.C_drewN ?_ _) | (with_reducible refine Kd.C_drew ?_))); (case side2 => exact b0.out); rintro e w' ⟨rfl, ⟨nd, rfl⟩⟩; refine ⟨_, rfl, ?_⟩))
    go_ret
    exact ⟨er_, bl1_ HB s⟩

/-! ### laws_toSat: function 48 -/
def laws_toSat.f (j l m s : Int) : Option (Int × Int × Int × Int) := some (j, l, m, s)
theorem laws_toSat.calls (s u x y B D E G : Int) (w : World) (h : laws_toSat.f s u x y = some (B, D, E, G)) :
  Calls Tryz.prog 48 #[.agg #[iv_ s, iv_ u, iv_ x, iv_ y]] w fun e w' => e = .returned (.agg #[iv_ B, iv_ D, iv_ E, iv_ G]) ∧ Below w.heap.size w w' := by
 have b1 := Tryz.underlying82
 have b0 := Tryz.underlying68
 have HB := Aside0.mk (Below.refl w.heap.size w)
 have H := h
 clear h
 unfold laws_toSat.f at H
 simp only [Option.some.injEq, Prod.mk.injEq] at H
 obtain ⟨rfl, rfl, rfl, rfl⟩ := H
 go_enter Tryz.func48, Tryz.ntmps48
 go_wp2_with (first | ((with_reducible refine gd_ 1 ?_); refine bx_ 1 82 #[iv_ s, iv_ u, iv_ x, iv_ y] ?_; intro Z hg w2 hbox hb; refine sh3_ (below_step (bl_ HB) hb) hbox (ge_ hg (bl_ HB)) ?_; clear HB hb hbox hg; intro HB j m) | ((with_reducible refine gd_ 2 ?_); refine bx_ 2 68 #[iv_ 0, iv_ 0, iv_ 0, iv_ 0] ?_; intro Y hg w3 hbox hb; refine sh6_ (blk_below (bk_ j) hb) (below_step (bl1_ HB m) hb) hbox (ge_ hg (bl1_ HB m)) (nl_ hg (bk_ j)) (ng_ hg (bk_ j)) ?_; clear j HB hb hbox hg; intro j HB l z L O) | ((with_reducible refine gd_ 3 ?_); refine bx_ 3 68 #[iv_ 0, iv_ 0, iv_ 0, iv_ 0] ?_; intro a0 hg w4 hbox hb; refine sh9_ (blk_below (bk_ j) hb) (blk_below (bk_ l) hb) (below_step (bl2_ HB m z) hb) hbox (ge_ hg (bl2_ HB m z)) (nl_ hg (bk_ j)) (ng_ hg (bk_ j)) (nl_ hg (bk_ l)) (ng_ hg (bk_ l)) ?_; clear j l HB hb hbox hg; intro j l HB I J M U T X; have a4 := L.out; have a7 := O.out; have a5 := M.out; have a8 := U.out; have a2 := cf4_ j; have a6 := X.out; have a9 := T.out; have a3 := cf4_ I; have a1 := cf4_ l))
 refine bodyPost_ret (results_cell_row rfl _ _ Y 68 #[iv_ s, iv_ u, iv_ x, iv_ y] (0, 0) _ rfl (bp_ l) Tryz.underlying68 rfl (by kernel_rfl)) rfl ?_
 exact ⟨er_, bl3_ HB m z J⟩

/-! ### laws_toSatS: function 24 -/
def laws_toSatS.l0 : Nat → List S82 → List S68 → Int → Option (List S68)
 | 0, _, _, _ => none
 | k + 1, l, s, j => if j < (l.length : Int) then (if 0 ≤ j then ((laws_toSat.f ((rd_T82 l j).f0) ((rd_T82 l j).f1) ((rd_T82 l j).f2) ((rd_T82 l j).f3)).bind fun m => (if j < (s.length : Int) then (laws_toSatS.l0 k l (s.set (j : Int).toNat (⟨m.1, m.2.1, m.2.2.1, m.2.2.2⟩ : S68)) (wrap64 (j + 1))) else (none))) else (none)) else (some s)
def laws_toSatS.f (k : Nat) (j : List S82) : Option (List S68) := if 0 ≤ (j.length : Int) then (if ((j.length : Int) : Int).toNat ≤ 8796093022208 then (laws_toSatS.l0 k j (List.replicate ((j.length : Int) : Int).toNat z68) 0) else (none)) else (none)
theorem laws_toSatS.calls (k : Nat) (A0 : Option Addr) (c0 : Nat) (m : List S82) (r : List S68) (w : World) (b4 : Kd.C k82 w A0 m.length m) (b2 : m.length ≤ c0) (h : laws_toSatS.f k m = some r) :
  Calls Tryz.prog 24 #[.slice A0 m.length c0] w fun e w' => ∃ c1 : Value, e = .returned (c1) ∧ Kd.R k68 68 w' w.heap.size (fun _ => True) c1 r ∧ Below w.heap.size w w' := by
 have h1 := Tryz.underlying82
 have h0 := Tryz.underlying68
 have d3 := Aside0.mk b4
 have f5 := Aside0.mk b2
 clear b4 b2
 have HB := Aside0.mk (Below.refl w.heap.size w)
 have H := h
 clear h
 unfold laws_toSatS.f at H
 replace H := ifn_ H
 obtain ⟨c2, H⟩ := H
 have f7 := eq_true c2
 have f8 := decide_eq_true c2
 clear c2
 replace H := ifn_ H
 obtain ⟨c3, H⟩ := H
 have f9 := eq_true c3
 have g0 := decide_eq_true c3
 clear c3
 replace H : ∃ y_ : List S68, Aside0 (y_ = (List.replicate ((m.length : Int) : Int).toNat z68)) ∧ (laws_toSatS.l0 k m y_ 0) = some r := ⟨_, ⟨rfl⟩, yh_ H⟩
 obtain ⟨e9, a5, H⟩ := H
 have H' := Aside0.mk H
 clear H
 go_enter Tryz.func24, Tryz.ntmps24
 go_wp2_with (first | ((with_reducible refine gate_dst (N := 7) rfl ?_); refine Kd.R_make k68 _ 68 rfl (N := 7) rfl 30 _ _ rfl (m.length : Int) rfl rfl Tryz.underlying30 (.agg #[(iv_ 0), (iv_ 0), (iv_ 0), (iv_ 0)]) 32 info68 rfl (by decide) (by omega) z68 (ok := fun _ => True) (okp := fun _ => True) (k68_mkM _ _ _ z68 ) (fun _ hk => hk) trivial od_ (Nat.le_trans (Nat.mul_le_mul_right _ (od_ : (m.length : Int).toNat ≤ 8796093022208)) (by omega)) (Below.refl _ _) (Nat.le_refl _) ?_; intro e7 w4 M hb hg_ hnew_; clear hg_ hnew_; (first | rw [← a5.out] at M | (simp only [Int.reduceToNat] at M; rw [← a5.out] at M)); refine sh2_ (Kd.R_lower M (below_size (bl_ HB))) (below_step (bl_ HB) hb) ?_; clear HB hb M; intro d2 HB))
 go_loopg [4] k (fun kq v4 w' => ∃ (u : List S68) (l : Int), v4 = iv_ l ∧ Aside0 (laws_toSatS.l0 kq m u l = some r) ∧ Aside0 (kq ≤ k) ∧ Aside0 (Kd.R k68 68 w' w.heap.size (fun _ => True) e7 u) ∧ Aside0 (Below w.heap.size w w'))
 case atStart => exact ⟨(e9), (0), (by first | rfl | (simp; done) | (simp [*]; done)), H', ⟨Nat.le_refl _⟩, ⟨ra_ d2⟩, ⟨bl_ HB⟩⟩
 case round =>
  clear H'
  obtain ⟨u, l, rfl, HA, a3, x, HB⟩ := hrel
  cases gk with
  | zero => exact absurd HA.out (by simp [laws_toSatS.l0])
  | succ k1 =>
   have H := HA.out
   clear HA
   simp only [laws_toSatS.l0] at H
   by_cases c6 : l < (m.length : Int)
   ·rw [if_pos c6] at H
    have d5 := decide_eq_true c6
    clear c6
    replace H := ifn_ H
    obtain ⟨c7, H⟩ := H
    have g1 := decide_eq_true c7
    clear c7
    replace H := bs_ H
    obtain ⟨⟨B, D, E, G⟩, A8, H⟩ := H
    dsimp only at H
    replace H := ifn_ H
    obtain ⟨c9, H⟩ := H
    have g2 := decide_eq_true c9
    clear c9
    replace H : ∃ y_ : List S68, Aside0 (y_ = (u.set (l : Int).toNat (⟨B, D, E, G⟩ : S68))) ∧ (laws_toSatS.l0 k1 m y_ (wrap64 (l + 1))) = some r := ⟨_, ⟨rfl⟩, yh_ H⟩
    obtain ⟨d0, d4, H⟩ := H
    have H' := Aside0.mk H
    clear H
    have X : 0 ≤ (l : Int) := od_
    have Z : l < (m.length : Int) := od_
    obtain ⟨f6, d6, b5, b6, b7, b8⟩ := at_T82 d3.out l X Z
    cases d6
    replace b5 := hbc_ HB b5
    replace b6 := hbc_ HB b6
    replace b7 := hbc_ HB b7
    replace b8 := hbc_ HB b8
    replace X := eq_true X
    replace Z := eq_true Z
    go_wp2_with (first | ((with_reducible refine gate_callee (f := 48) rfl ?_); refine gl_ 20 Tryz.func48 (laws_toSat.calls ((rd_T82 m l).f0) ((rd_T82 m l).f1) ((rd_T82 m l).f2) ((rd_T82 m l).f3) B D E G _ A8.out) ?_; rintro e y ⟨rfl, hb⟩; refine ⟨_, rfl, sh2_ (Kd.R_below (ra_ x) hb) (below_step (bl_ HB) hb) ?_⟩; clear x HB hb; intro x HB; have U : 0 ≤ (l : Int) := od_; have Y : (l : Int) < ((u.length : Int) : Int) := od_; obtain ⟨s, a7, a8, a9, d7, g5, a2⟩ := Kd.R_form x.out (by omega); (first | cases a8 | (injection a8 with ea_ en_ ec_; (first | subst ea_ | (injection ea_ with ea_; subst ea_)); subst ec_; clear en_)); have O := Aside0.mk a9; have f4 := Aside0.mk a2; clear a9 d7 a2; obtain ⟨g3, d8, b0, I, J⟩ := Kd.R_elem x.out z68 (l : Int) U Y; obtain rfl := k68_openM b0; have h2 : y.cell? ⟨s, (l : Int).toNat * 4, none⟩ = some (iv_ ((rd_T68 u l).f0)) := I 0 _ rfl; have h3 : y.cell? ⟨s, (l : Int).toNat * 4 + 1, none⟩ = some (iv_ ((rd_T68 u l).f1)) := I 1 _ rfl; have h4 : y.cell? ⟨s, (l : Int).toNat * 4 + 2, none⟩ = some (iv_ ((rd_T68 u l).f2)) := I 2 _ rfl; have h5 : y.cell? ⟨s, (l : Int).toNat * 4 + 3, none⟩ = some (iv_ ((rd_T68 u l).f3)) := I 3 _ rfl; have g6 : y.frozen? ⟨s, (l : Int).toNat * 4, none⟩ = false := J 0; have g7 : y.frozen? ⟨s, (l : Int).toNat * 4 + 1, none⟩ = false := J 1; have g8 : y.frozen? ⟨s, (l : Int).toNat * 4 + 2, none⟩ = false := J 2; have g9 : y.frozen? ⟨s, (l : Int).toNat * 4 + 3, none⟩ = false := J 3; clear d8 I J b0; replace U := eq_true U; replace Y := eq_true Y; have a4 := Aside0.mk (show Kd.R k68 68 y w.heap.size (fun _ => True) (.slice (some ⟨s, 0, none⟩) u.length a7) u from (ra_ x)); obtain ⟨g4, b3, b1, z, L⟩ := Kd.R_elem a4.out z68 (l : Int) od_ (by have h_ : (l : Int) < ((u.length : Int) : Int) := od_; first | exact h_ | (have e_ := (Kd.R_reads' x.out).1; omega) | simpa using h_); obtain rfl := k68_openM b1; have T := Kd.R_seg a4.out (l : Int) od_ (by have h_ : (l : Int) < ((u.length : Int) : Int) := od_; first | exact h_ | (have e_ := (Kd.R_reads' x.out).1; omega) | simpa using h_) (seg := [iv_ B, iv_ D, iv_ E, iv_ G]) (j := 0) b3 z (show 4 ≤ 4 from by decide) (x' := (⟨B, D, E, G⟩ : S68)) (k68_mkM _ _ _ (⟨B, D, E, G⟩ : S68) ) (fun _ hk => hk); have e3 := z 0 _ rfl; (try simp only [show (k68).sz = 4 from rfl, Nat.mul_one, Nat.add_zero] at e3); have d9 := L 0; (try simp only [show (k68).sz = 4 from rfl, Nat.mul_one, Nat.add_zero] at d9); have e4 := z 1 _ rfl; (try simp only [show (k68).sz = 4 from rfl, Nat.mul_one, Nat.add_zero] at e4); have e0 := L 1; (try simp only [show (k68).sz = 4 from rfl, Nat.mul_one, Nat.add_zero] at e0); have e5 := z 2 _ rfl; (try simp only [show (k68).sz = 4 from rfl, Nat.mul_one, Nat.add_zero] at e5); have e1 := L 2; (try simp only [show (k68).sz = 4 from rfl, Nat.mul_one, Nat.add_zero] at e1); have e6 := z 3 _ rfl; (try simp only [show (k68).sz = 4 from rfl, Nat.mul_one, Nat.add_zero] at e6); have e2 := L 3; (try simp only [show (k68).sz = 4 from rfl, Nat.mul_one, Nat.add_zero] at e2); clear b3 z L b1) | ((with_reducible refine gate_store (t := 68) (p := 21) rfl ?_); refine store_event (t := 68) (p := 21) (v := ?vo_w13) (w1 := ((((y.setCell ⟨s, (l : Int).toNat * 4, none⟩ (iv_ B)).setCell ⟨s, (l : Int).toNat * 4 + 1, none⟩ (iv_ D)).setCell ⟨s, (l : Int).toNat * 4 + 2, none⟩ (iv_ E)).setCell ⟨s, (l : Int).toNat * 4 + 3, none⟩ (iv_ G))) ?hg ?ho ?hn ?hr ?_; (case ho => rfl); (case hg => rfl); (case hn => rfl); (case hr => first | (go_simp; done) | (go_simp; rfl)); intro a0 hw; have hg : y.grownBy a0 (some s) := (by rw [hw]; exact T.2); have hp_ : Kd.R k68 68 a0 w.heap.size (fun _ => True) (.slice (some ⟨s, 0, none⟩) u.length a7) d0 := (by rw [hw, d4.out]; exact T.1); clear T; refine sh2_ hp_ ((by rw [hw]; exact below_set (below_set (below_set (below_set (HB.out) O.out) O.out) O.out) O.out : Below w.heap.size w a0)) ?_; clear x HB; intro x HB; clear hg hw hp_))
    go_roundg k1
    case measure => have := a3.out; omega
    case rel => exact ⟨(d0), (wrap64 (l + 1)), (by first | rfl | (simp; done) | (simp [*]; done)), H', ⟨by have := a3.out; omega⟩, ⟨ra_ x⟩, ⟨bl_ HB⟩⟩
   ·rw [if_neg c6] at H
    have d5 := decide_eq_false c6
    clear c6
    obtain rfl := Option.some.inj H
    go_wp2
    go_ret
    exact ⟨_, er_, ra_ x, bl_ HB⟩

/-! ### laws_toSite: function 49 -/
def laws_toSite.f (j l m : Int) : Option (Int × Int × Int) := some (j, l, m)
theorem laws_toSite.calls (s u x z B D : Int) (w : World) (h : laws_toSite.f s u x = some (z, B, D)) :
  Calls Tryz.prog 49 #[.agg #[iv_ s, iv_ u, iv_ x]] w fun e w' => e = .returned (.agg #[iv_ z, iv_ B, iv_ D]) ∧ Below w.heap.size w w' := by
 have a9 := Tryz.underlying84
 have a8 := Tryz.underlying70
 have HB := Aside0.mk (Below.refl w.heap.size w)
 have H := h
 clear h
 unfold laws_toSite.f at H
 simp only [Option.some.injEq, Prod.mk.injEq] at H
 obtain ⟨rfl, rfl, rfl⟩ := H
 go_enter Tryz.func49, Tryz.ntmps49
 go_wp2_with (first | ((with_reducible refine gd_ 1 ?_); refine bx_ 1 84 #[iv_ s, iv_ u, iv_ x] ?_; intro X hg w2 hbox hb; refine sh3_ (below_step (bl_ HB) hb) hbox (ge_ hg (bl_ HB)) ?_; clear HB hb hbox hg; intro HB j m) | ((with_reducible refine gd_ 2 ?_); refine bx_ 2 70 #[iv_ 0, iv_ 0, iv_ 0] ?_; intro U hg w3 hbox hb; refine sh6_ (blk_below (bk_ j) hb) (below_step (bl1_ HB m) hb) hbox (ge_ hg (bl1_ HB m)) (nl_ hg (bk_ j)) (ng_ hg (bk_ j)) ?_; clear j HB hb hbox hg; intro j HB l y I L) | ((with_reducible refine gd_ 3 ?_); refine bx_ 3 70 #[iv_ 0, iv_ 0, iv_ 0] ?_; intro Y hg w4 hbox hb; refine sh9_ (blk_below (bk_ j) hb) (blk_below (bk_ l) hb) (below_step (bl2_ HB m y) hb) hbox (ge_ hg (bl2_ HB m y)) (nl_ hg (bk_ j)) (ng_ hg (bk_ j)) (nl_ hg (bk_ l)) (ng_ hg (bk_ l)) ?_; clear j l HB hb hbox hg; intro j l HB E G J O M T; have a2 := I.out; have a5 := L.out; have a3 := J.out; have a6 := O.out; have a0 := cf3_ j; have a4 := T.out; have a7 := M.out; have a1 := cf3_ E; have Z := cf3_ l))
 refine bodyPost_ret (results_cell_row rfl _ _ U 70 #[iv_ s, iv_ u, iv_ x] (0, 0) _ rfl (bp_ l) Tryz.underlying70 rfl (by kernel_rfl)) rfl ?_
 exact ⟨er_, bl3_ HB m y G⟩

/-! ### laws_toSiteS: function 25 -/
def laws_toSiteS.l0 : Nat → List S84 → List S70 → Int → Option (List S70)
 | 0, _, _, _ => none
 | k + 1, l, s, j => if j < (l.length : Int) then (if 0 ≤ j then ((laws_toSite.f ((rd_T84 l j).f0) ((rd_T84 l j).f1) ((rd_T84 l j).f2)).bind fun m => (if j < (s.length : Int) then (laws_toSiteS.l0 k l (s.set (j : Int).toNat (⟨m.1, m.2.1, m.2.2⟩ : S70)) (wrap64 (j + 1))) else (none))) else (none)) else (some s)
def laws_toSiteS.f (k : Nat) (j : List S84) : Option (List S70) := if 0 ≤ (j.length : Int) then (if ((j.length : Int) : Int).toNat ≤ 11728124029610 then (laws_toSiteS.l0 k j (List.replicate ((j.length : Int) : Int).toNat z70) 0) else (none)) else (none)
theorem laws_toSiteS.calls (k : Nat) (A0 : Option Addr) (c0 : Nat) (m : List S84) (r : List S70) (w : World) (b3 : Kd.C k84 w A0 m.length m) (b1 : m.length ≤ c0) (h : laws_toSiteS.f k m = some r) :
  Calls Tryz.prog 25 #[.slice A0 m.length c0] w fun e w' => ∃ b8 : Value, e = .returned (b8) ∧ Kd.R k70 70 w' w.heap.size (fun _ => True) b8 r ∧ Below w.heap.size w w' := by
 have g5 := Tryz.underlying84
 have g4 := Tryz.underlying70
 have d1 := Aside0.mk b3
 have e7 := Aside0.mk b1
 clear b3 b1
 have HB := Aside0.mk (Below.refl w.heap.size w)
 have H := h
 clear h
 unfold laws_toSiteS.f at H
 replace H := ifn_ H
 obtain ⟨c2, H⟩ := H
 have e9 := eq_true c2
 have f3 := decide_eq_true c2
 clear c2
 replace H := ifn_ H
 obtain ⟨c3, H⟩ := H
 have f4 := eq_true c3
 have f5 := decide_eq_true c3
 clear c3
 replace H : ∃ y_ : List S70, Aside0 (y_ = (List.replicate ((m.length : Int) : Int).toNat z70)) ∧ (laws_toSiteS.l0 k m y_ 0) = some r := ⟨_, ⟨rfl⟩, yh_ H⟩
 obtain ⟨e5, a4, H⟩ := H
 have H' := Aside0.mk H
 clear H
 go_enter Tryz.func25, Tryz.ntmps25
 go_wp2_with (first | ((with_reducible refine gate_dst (N := 7) rfl ?_); refine Kd.R_make k70 _ 70 rfl (N := 7) rfl 31 _ _ rfl (m.length : Int) rfl rfl Tryz.underlying31 (.agg #[(iv_ 0), (iv_ 0), (iv_ 0)]) 24 info70 rfl (by decide) (by omega) z70 (ok := fun _ => True) (okp := fun _ => True) (k70_mkM _ _ _ z70 ) (fun _ hk => hk) trivial od_ (Nat.le_trans (Nat.mul_le_mul_right _ (od_ : (m.length : Int).toNat ≤ 11728124029610)) (by omega)) (Below.refl _ _) (Nat.le_refl _) ?_; intro e3 w4 G hb hg_ hnew_; clear hg_ hnew_; (first | rw [← a4.out] at G | (simp only [Int.reduceToNat] at G; rw [← a4.out] at G)); refine sh2_ (Kd.R_lower G (below_size (bl_ HB))) (below_step (bl_ HB) hb) ?_; clear HB hb G; intro d0 HB))
 go_loopg [4] k (fun kq v4 w' => ∃ (s : List S70) (l : Int), v4 = iv_ l ∧ Aside0 (laws_toSiteS.l0 kq m s l = some r) ∧ Aside0 (kq ≤ k) ∧ Aside0 (Kd.R k70 70 w' w.heap.size (fun _ => True) e3 s) ∧ Aside0 (Below w.heap.size w w'))
 case atStart => exact ⟨(e5), (0), (by first | rfl | (simp; done) | (simp [*]; done)), H', ⟨Nat.le_refl _⟩, ⟨ra_ d0⟩, ⟨bl_ HB⟩⟩
 case round =>
  clear H'
  obtain ⟨s, l, rfl, HA, a2, u, HB⟩ := hrel
  cases gk with
  | zero => exact absurd HA.out (by simp [laws_toSiteS.l0])
  | succ k1 =>
   have H := HA.out
   clear HA
   simp only [laws_toSiteS.l0] at H
   by_cases c6 : l < (m.length : Int)
   ·rw [if_pos c6] at H
    have d3 := decide_eq_true c6
    clear c6
    replace H := ifn_ H
    obtain ⟨c7, H⟩ := H
    have f6 := decide_eq_true c7
    clear c7
    replace H := bs_ H
    obtain ⟨⟨z, B, D⟩, A8, H⟩ := H
    dsimp only at H
    replace H := ifn_ H
    obtain ⟨c9, H⟩ := H
    have f7 := decide_eq_true c9
    clear c9
    replace H : ∃ y_ : List S70, Aside0 (y_ = (s.set (l : Int).toNat (⟨z, B, D⟩ : S70))) ∧ (laws_toSiteS.l0 k1 m y_ (wrap64 (l + 1))) = some r := ⟨_, ⟨rfl⟩, yh_ H⟩
    obtain ⟨b9, d2, H⟩ := H
    have H' := Aside0.mk H
    clear H
    have U : 0 ≤ (l : Int) := od_
    have Y : l < (m.length : Int) := od_
    obtain ⟨e8, d4, b4, b5, b6⟩ := at_T84 d1.out l U Y
    cases d4
    replace b4 := hbc_ HB b4
    replace b5 := hbc_ HB b5
    replace b6 := hbc_ HB b6
    replace U := eq_true U
    replace Y := eq_true Y
    go_wp2_with (first | ((with_reducible refine gate_callee (f := 49) rfl ?_); refine gl_ 20 Tryz.func49 (laws_toSite.calls ((rd_T84 m l).f0) ((rd_T84 m l).f1) ((rd_T84 m l).f2) z B D _ A8.out) ?_; rintro e y ⟨rfl, hb⟩; refine ⟨_, rfl, sh2_ (Kd.R_below (ra_ u) hb) (below_step (bl_ HB) hb) ?_⟩; clear u HB hb; intro u HB; have T : 0 ≤ (l : Int) := od_; have X : (l : Int) < ((s.length : Int) : Int) := od_; obtain ⟨x, a6, a7, a8, d5, g0, a1⟩ := Kd.R_form u.out (by omega); (first | cases a7 | (injection a7 with ea_ en_ ec_; (first | subst ea_ | (injection ea_ with ea_; subst ea_)); subst ec_; clear en_)); have M := Aside0.mk a8; have e6 := Aside0.mk a1; clear a8 d5 a1; obtain ⟨f8, d6, a9, I, J⟩ := Kd.R_elem u.out z70 (l : Int) T X; obtain rfl := k70_openM a9; have g6 : y.cell? ⟨x, (l : Int).toNat * 3, none⟩ = some (iv_ ((rd_T70 s l).f0)) := I 0 _ rfl; have g7 : y.cell? ⟨x, (l : Int).toNat * 3 + 1, none⟩ = some (iv_ ((rd_T70 s l).f1)) := I 1 _ rfl; have g8 : y.cell? ⟨x, (l : Int).toNat * 3 + 2, none⟩ = some (iv_ ((rd_T70 s l).f2)) := I 2 _ rfl; have g1 : y.frozen? ⟨x, (l : Int).toNat * 3, none⟩ = false := J 0; have g2 : y.frozen? ⟨x, (l : Int).toNat * 3 + 1, none⟩ = false := J 1; have g3 : y.frozen? ⟨x, (l : Int).toNat * 3 + 2, none⟩ = false := J 2; clear d6 I J a9; replace T := eq_true T; replace X := eq_true X; have a3 := Aside0.mk (show Kd.R k70 70 y w.heap.size (fun _ => True) (.slice (some ⟨x, 0, none⟩) s.length a6) s from (ra_ u)); obtain ⟨f9, b2, b0, E, L⟩ := Kd.R_elem a3.out z70 (l : Int) od_ (by have h_ : (l : Int) < ((s.length : Int) : Int) := od_; first | exact h_ | (have e_ := (Kd.R_reads' u.out).1; omega) | simpa using h_); obtain rfl := k70_openM b0; have O := Kd.R_seg a3.out (l : Int) od_ (by have h_ : (l : Int) < ((s.length : Int) : Int) := od_; first | exact h_ | (have e_ := (Kd.R_reads' u.out).1; omega) | simpa using h_) (seg := [iv_ z, iv_ B, iv_ D]) (j := 0) b2 E (show 3 ≤ 3 from by decide) (x' := (⟨z, B, D⟩ : S70)) (k70_mkM _ _ _ (⟨z, B, D⟩ : S70) ) (fun _ hk => hk); have e0 := E 0 _ rfl; (try simp only [show (k70).sz = 3 from rfl, Nat.mul_one, Nat.add_zero] at e0); have d7 := L 0; (try simp only [show (k70).sz = 3 from rfl, Nat.mul_one, Nat.add_zero] at d7); have e1 := E 1 _ rfl; (try simp only [show (k70).sz = 3 from rfl, Nat.mul_one, Nat.add_zero] at e1); have d8 := L 1; (try simp only [show (k70).sz = 3 from rfl, Nat.mul_one, Nat.add_zero] at d8); have e2 := E 2 _ rfl; (try simp only [show (k70).sz = 3 from rfl, Nat.mul_one, Nat.add_zero] at e2); have d9 := L 2; (try simp only [show (k70).sz = 3 from rfl, Nat.mul_one, Nat.add_zero] at d9); clear b2 E L b0) | ((with_reducible refine gate_store (t := 70) (p := 21) rfl ?_); refine store_event (t := 70) (p := 21) (v := ?vo_w13) (w1 := (((y.setCell ⟨x, (l : Int).toNat * 3, none⟩ (iv_ z)).setCell ⟨x, (l : Int).toNat * 3 + 1, none⟩ (iv_ B)).setCell ⟨x, (l : Int).toNat * 3 + 2, none⟩ (iv_ D))) ?hg ?ho ?hn ?hr ?_; (case ho => rfl); (case hg => rfl); (case hn => rfl); (case hr => first | (go_simp; done) | (go_simp; rfl)); intro Z hw; have hg : y.grownBy Z (some x) := (by rw [hw]; exact O.2); have hp_ : Kd.R k70 70 Z w.heap.size (fun _ => True) (.slice (some ⟨x, 0, none⟩) s.length a6) b9 := (by rw [hw, d2.out]; exact O.1); clear O; refine sh2_ hp_ ((by rw [hw]; exact below_set (below_set (below_set (HB.out) M.out) M.out) M.out : Below w.heap.size w Z)) ?_; clear u HB; intro u HB; clear hg hw hp_))
    go_roundg k1
    case measure => have := a2.out; omega
    case rel => exact ⟨(b9), (wrap64 (l + 1)), (by first | rfl | (simp; done) | (simp [*]; done)), H', ⟨by have := a2.out; omega⟩, ⟨ra_ u⟩, ⟨bl_ HB⟩⟩
   ·rw [if_neg c6] at H
    have d3 := decide_eq_false c6
    clear c6
    obtain rfl := Option.some.inj H
    go_wp2
    go_ret
    exact ⟨_, er_, ra_ u, bl_ HB⟩

/-! ### laws_toArc: function 68 -/
def laws_toArc.f (j l : Int) : Option (Int × Int) := some (j, l)
theorem laws_toArc.calls (s u y z : Int) (w : World) (h : laws_toArc.f s u = some (y, z)) :
  Calls Tryz.prog 68 #[.agg #[iv_ s, iv_ u]] w fun e w' => e = .returned (.agg #[iv_ y, iv_ z]) ∧ Below w.heap.size w w' := by
 have a7 := Tryz.underlying86
 have a6 := Tryz.underlying74
 have HB := Aside0.mk (Below.refl w.heap.size w)
 have H := h
 clear h
 unfold laws_toArc.f at H
 simp only [Option.some.injEq, Prod.mk.injEq] at H
 obtain ⟨rfl, rfl⟩ := H
 go_enter Tryz.func68, Tryz.ntmps68
 go_wp2_with (first | ((with_reducible refine gd_ 1 ?_); refine bx_ 1 86 #[iv_ s, iv_ u] ?_; intro T hg w2 hbox hb; refine sh3_ (below_step (bl_ HB) hb) hbox (ge_ hg (bl_ HB)) ?_; clear HB hb hbox hg; intro HB j m) | ((with_reducible refine gd_ 2 ?_); refine bx_ 2 74 #[iv_ 0, iv_ 0] ?_; intro O hg w3 hbox hb; refine sh6_ (blk_below (bk_ j) hb) (below_step (bl1_ HB m) hb) hbox (ge_ hg (bl1_ HB m)) (nl_ hg (bk_ j)) (ng_ hg (bk_ j)) ?_; clear j HB hb hbox hg; intro j HB l x E I) | ((with_reducible refine gd_ 3 ?_); refine bx_ 3 74 #[iv_ 0, iv_ 0] ?_; intro U hg w4 hbox hb; refine sh9_ (blk_below (bk_ j) hb) (blk_below (bk_ l) hb) (below_step (bl2_ HB m x) hb) hbox (ge_ hg (bl2_ HB m x)) (nl_ hg (bk_ j)) (ng_ hg (bk_ j)) (nl_ hg (bk_ l)) (ng_ hg (bk_ l)) ?_; clear j l HB hb hbox hg; intro j l HB B D G L J M; have a0 := E.out; have a3 := I.out; have a1 := G.out; have a4 := L.out; have Y := cf2_ j; have a2 := M.out; have a5 := J.out; have Z := cf2_ B; have X := cf2_ l))
 refine bodyPost_ret (results_cell_row rfl _ _ O 74 #[iv_ s, iv_ u] (0, 0) _ rfl (bp_ l) Tryz.underlying74 rfl (by kernel_rfl)) rfl ?_
 exact ⟨er_, bl3_ HB m x D⟩

/-! ### laws_toZone: function 50 -/
def laws_toZone.f (l m s : Int) : Option (Int × Int × Int) := (laws_toArc.f m s).bind fun j => (some (l, j.1, j.2))
theorem laws_toZone.calls (s x y E G I : Int) (w : World) (h : laws_toZone.f s x y = some (E, G, I)) :
  Calls Tryz.prog 50 #[.agg #[iv_ s, iv_ x, iv_ y]] w fun e w' => e = .returned (.agg #[iv_ E, iv_ G, iv_ I]) ∧ Below w.heap.size w w' := by
 have b5 := Tryz.underlying88
 have b3 := Tryz.underlying76
 have b4 := Tryz.underlying86
 have b2 := Tryz.underlying74
 have HB := Aside0.mk (Below.refl w.heap.size w)
 have H := h
 clear h
 unfold laws_toZone.f at H
 replace H := bs_ H
 obtain ⟨⟨J, L⟩, M, H⟩ := H
 dsimp only at H
 simp only [Option.some.injEq, Prod.mk.injEq] at H
 obtain ⟨rfl, rfl, rfl⟩ := H
 go_enter Tryz.func50, Tryz.ntmps50
 go_wp2_with (first | ((with_reducible refine gd_ 1 ?_); refine bx_ 1 88 #[iv_ s, iv_ x, iv_ y] ?_; intro a0 hg w3 hbox hb; refine sh3_ (below_step (bl_ HB) hb) hbox (ge_ hg (bl_ HB)) ?_; clear HB hb hbox hg; intro HB j m) | ((with_reducible refine gd_ 2 ?_); refine bx_ 2 76 #[iv_ 0, iv_ 0, iv_ 0] ?_; intro D hg w4 hbox hb; refine sh6_ (blk_below (bk_ j) hb) (below_step (bl1_ HB m) hb) hbox (ge_ hg (bl1_ HB m)) (nl_ hg (bk_ j)) (ng_ hg (bk_ j)) ?_; clear j HB hb hbox hg; intro j HB l z O U) | ((with_reducible refine gd_ 3 ?_); refine bx_ 3 76 #[iv_ 0, iv_ 0, iv_ 0] ?_; intro a1 hg w5 hbox hb; refine sh9_ (blk_below (bk_ j) hb) (blk_below (bk_ l) hb) (below_step (bl2_ HB m z) hb) hbox (ge_ hg (bl2_ HB m z)) (nl_ hg (bk_ j)) (ng_ hg (bk_ j)) (nl_ hg (bk_ l)) (ng_ hg (bk_ l)) ?_; clear j l HB hb hbox hg; intro j l HB u B T Y X Z; have a6 := O.out; have a9 := U.out; have a7 := T.out; have b0 := Y.out; have a5 := cf3_ j; have a8 := Z.out; have b1 := X.out; have a2 := cf3_ u) | ((with_reducible refine gate_callee (f := 68) rfl ?_); refine gl_ 9 Tryz.func68 (laws_toArc.calls x y J L _ M.out) ?_; rintro e b6 ⟨rfl, hb⟩; refine ⟨_, rfl, sh4_ (blk_below (g := a0) (o := .cells #[iv_ s, iv_ x, iv_ y] 88 (0, 0)) (bp_ j) hb) (blk_below (g := D) (o := .cells #[iv_ 0, iv_ 0, iv_ 0] 76 (0, 0)) (bp_ l) hb) (blk_below (g := a1) (o := .cells #[iv_ s, iv_ 0, iv_ 0] 76 (0, 0)) (bp_ u) hb) (below_step (bl3_ HB m z B) hb) ?_⟩; clear j l u HB hb; intro j l u HB; have a3 := cf3_ u; have a4 := cf3_ l))
 refine bodyPost_ret (results_cell_row rfl _ _ D 76 #[iv_ s, iv_ J, iv_ L] (0, 0) _ rfl (bp_ l) Tryz.underlying76 rfl (by kernel_rfl)) rfl ?_
 exact ⟨er_, bl3_ HB m z B⟩

/-! ### laws_toZoneS: function 26 -/
def laws_toZoneS.l0 : Nat → List S88 → List S76 → Int → Option (List S76)
 | 0, _, _, _ => none
 | k + 1, l, s, j => if j < (l.length : Int) then (if 0 ≤ j then ((laws_toZone.f ((rd_T88 l j).f0) ((rd_T88 l j).f1.f0) ((rd_T88 l j).f1.f1)).bind fun m => (if j < (s.length : Int) then (laws_toZoneS.l0 k l (s.set (j : Int).toNat (⟨m.1, (⟨m.2.1, m.2.2⟩ : S74)⟩ : S76)) (wrap64 (j + 1))) else (none))) else (none)) else (some s)
def laws_toZoneS.f (k : Nat) (j : List S88) : Option (List S76) := if 0 ≤ (j.length : Int) then (if ((j.length : Int) : Int).toNat ≤ 11728124029610 then (laws_toZoneS.l0 k j (List.replicate ((j.length : Int) : Int).toNat z76) 0) else (none)) else (none)
theorem laws_toZoneS.calls (k : Nat) (A0 : Option Addr) (c0 : Nat) (m : List S88) (r : List S76) (w : World) (b3 : Kd.C k88 w A0 m.length m) (b1 : m.length ≤ c0) (h : laws_toZoneS.f k m = some r) :
  Calls Tryz.prog 26 #[.slice A0 m.length c0] w fun e w' => ∃ b8 : Value, e = .returned (b8) ∧ Kd.R k76 76 w' w.heap.size (fun _ => True) b8 r ∧ Below w.heap.size w w' := by
 have g4 := Tryz.underlying88
 have g3 := Tryz.underlying76
 have d1 := Aside0.mk b3
 have e7 := Aside0.mk b1
 clear b3 b1
 have HB := Aside0.mk (Below.refl w.heap.size w)
 have H := h
 clear h
 unfold laws_toZoneS.f at H
 replace H := ifn_ H
 obtain ⟨c2, H⟩ := H
 have e9 := eq_true c2
 have f2 := decide_eq_true c2
 clear c2
 replace H := ifn_ H
 obtain ⟨c3, H⟩ := H
 have f3 := eq_true c3
 have f4 := decide_eq_true c3
 clear c3
 replace H : ∃ y_ : List S76, Aside0 (y_ = (List.replicate ((m.length : Int) : Int).toNat z76)) ∧ (laws_toZoneS.l0 k m y_ 0) = some r := ⟨_, ⟨rfl⟩, yh_ H⟩
 obtain ⟨e5, a4, H⟩ := H
 have H' := Aside0.mk H
 clear H
 go_enter Tryz.func26, Tryz.ntmps26
 go_wp2_with (first | ((with_reducible refine gate_dst (N := 7) rfl ?_); refine Kd.R_make k76 _ 76 rfl (N := 7) rfl 32 _ _ rfl (m.length : Int) rfl rfl Tryz.underlying32 (.agg #[(iv_ 0), (iv_ 0), (iv_ 0)]) 24 info76 rfl (by decide) (by omega) z76 (ok := fun _ => True) (okp := fun _ => True) (k76_mkM _ _ _ z76 ) (fun _ hk => hk) trivial od_ (Nat.le_trans (Nat.mul_le_mul_right _ (od_ : (m.length : Int).toNat ≤ 11728124029610)) (by omega)) (Below.refl _ _) (Nat.le_refl _) ?_; intro e3 w4 G hb hg_ hnew_; clear hg_ hnew_; (first | rw [← a4.out] at G | (simp only [Int.reduceToNat] at G; rw [← a4.out] at G)); refine sh2_ (Kd.R_lower G (below_size (bl_ HB))) (below_step (bl_ HB) hb) ?_; clear HB hb G; intro d0 HB))
 go_loopg [4] k (fun kq v4 w' => ∃ (s : List S76) (l : Int), v4 = iv_ l ∧ Aside0 (laws_toZoneS.l0 kq m s l = some r) ∧ Aside0 (kq ≤ k) ∧ Aside0 (Kd.R k76 76 w' w.heap.size (fun _ => True) e3 s) ∧ Aside0 (Below w.heap.size w w'))
 case atStart => exact ⟨(e5), (0), (by first | rfl | (simp; done) | (simp [*]; done)), H', ⟨Nat.le_refl _⟩, ⟨ra_ d0⟩, ⟨bl_ HB⟩⟩
 case round =>
  clear H'
  obtain ⟨s, l, rfl, HA, a2, u, HB⟩ := hrel
  cases gk with
  | zero => exact absurd HA.out (by simp [laws_toZoneS.l0])
  | succ k1 =>
   have H := HA.out
   clear HA
   simp only [laws_toZoneS.l0] at H
   by_cases c6 : l < (m.length : Int)
   ·rw [if_pos c6] at H
    have d3 := decide_eq_true c6
    clear c6
    replace H := ifn_ H
    obtain ⟨c7, H⟩ := H
    have f5 := decide_eq_true c7
    clear c7
    replace H := bs_ H
    obtain ⟨⟨z, B, D⟩, A8, H⟩ := H
    dsimp only at H
    replace H := ifn_ H
    obtain ⟨c9, H⟩ := H
    have f6 := decide_eq_true c9
    clear c9
    replace H : ∃ y_ : List S76, Aside0 (y_ = (s.set (l : Int).toNat (⟨z, (⟨B, D⟩ : S74)⟩ : S76))) ∧ (laws_toZoneS.l0 k1 m y_ (wrap64 (l + 1))) = some r := ⟨_, ⟨rfl⟩, yh_ H⟩
    obtain ⟨b9, d2, H⟩ := H
    have H' := Aside0.mk H
    clear H
    have U : 0 ≤ (l : Int) := od_
    have Y : l < (m.length : Int) := od_
    obtain ⟨e8, d4, b4, b5, b6⟩ := at_T88 d1.out l U Y
    cases d4
    replace b4 := hbc_ HB b4
    replace b5 := hbc_ HB b5
    replace b6 := hbc_ HB b6
    replace U := eq_true U
    replace Y := eq_true Y
    go_wp2_with (first | ((with_reducible refine gate_callee (f := 50) rfl ?_); refine gl_ 20 Tryz.func50 (laws_toZone.calls ((rd_T88 m l).f0) ((rd_T88 m l).f1.f0) ((rd_T88 m l).f1.f1) z B D _ A8.out) ?_; rintro e y ⟨rfl, hb⟩; refine ⟨_, rfl, sh2_ (Kd.R_below (ra_ u) hb) (below_step (bl_ HB) hb) ?_⟩; clear u HB hb; intro u HB; have T : 0 ≤ (l : Int) := od_; have X : (l : Int) < ((s.length : Int) : Int) := od_; obtain ⟨x, a6, a7, a8, d5, f9, a1⟩ := Kd.R_form u.out (by omega); (first | cases a7 | (injection a7 with ea_ en_ ec_; (first | subst ea_ | (injection ea_ with ea_; subst ea_)); subst ec_; clear en_)); have M := Aside0.mk a8; have e6 := Aside0.mk a1; clear a8 d5 a1; obtain ⟨f7, d6, a9, I, J⟩ := Kd.R_elem u.out z76 (l : Int) T X; obtain rfl := k76_openM a9; have g5 : y.cell? ⟨x, (l : Int).toNat * 3, none⟩ = some (iv_ ((rd_T76 s l).f0)) := I 0 _ rfl; have g6 : y.cell? ⟨x, (l : Int).toNat * 3 + 1, none⟩ = some (iv_ ((rd_T76 s l).f1.f0)) := I 1 _ rfl; have g7 : y.cell? ⟨x, (l : Int).toNat * 3 + 2, none⟩ = some (iv_ ((rd_T76 s l).f1.f1)) := I 2 _ rfl; have g0 : y.frozen? ⟨x, (l : Int).toNat * 3, none⟩ = false := J 0; have g1 : y.frozen? ⟨x, (l : Int).toNat * 3 + 1, none⟩ = false := J 1; have g2 : y.frozen? ⟨x, (l : Int).toNat * 3 + 2, none⟩ = false := J 2; clear d6 I J a9; replace T := eq_true T; replace X := eq_true X; have a3 := Aside0.mk (show Kd.R k76 76 y w.heap.size (fun _ => True) (.slice (some ⟨x, 0, none⟩) s.length a6) s from (ra_ u)); obtain ⟨f8, b2, b0, E, L⟩ := Kd.R_elem a3.out z76 (l : Int) od_ (by have h_ : (l : Int) < ((s.length : Int) : Int) := od_; first | exact h_ | (have e_ := (Kd.R_reads' u.out).1; omega) | simpa using h_); obtain rfl := k76_openM b0; have O := Kd.R_seg a3.out (l : Int) od_ (by have h_ : (l : Int) < ((s.length : Int) : Int) := od_; first | exact h_ | (have e_ := (Kd.R_reads' u.out).1; omega) | simpa using h_) (seg := [iv_ z, iv_ B, iv_ D]) (j := 0) b2 E (show 3 ≤ 3 from by decide) (x' := (⟨z, (⟨B, D⟩ : S74)⟩ : S76)) (k76_mkM _ _ _ (⟨z, (⟨B, D⟩ : S74)⟩ : S76) ) (fun _ hk => hk); have e0 := E 0 _ rfl; (try simp only [show (k76).sz = 3 from rfl, Nat.mul_one, Nat.add_zero] at e0); have d7 := L 0; (try simp only [show (k76).sz = 3 from rfl, Nat.mul_one, Nat.add_zero] at d7); have e1 := E 1 _ rfl; (try simp only [show (k76).sz = 3 from rfl, Nat.mul_one, Nat.add_zero] at e1); have d8 := L 1; (try simp only [show (k76).sz = 3 from rfl, Nat.mul_one, Nat.add_zero] at d8); have e2 := E 2 _ rfl; (try simp only [show (k76).sz = 3 from rfl, Nat.mul_one, Nat.add_zero] at e2); have d9 := L 2; (try simp only [show (k76).sz = 3 from rfl, Nat.mul_one, Nat.add_zero] at d9); clear b2 E L b0) | ((with_reducible refine gate_store (t := 76) (p := 21) rfl ?_); refine store_event (t := 76) (p := 21) (v := ?vo_w13) (w1 := (((y.setCell ⟨x, (l : Int).toNat * 3, none⟩ (iv_ z)).setCell ⟨x, (l : Int).toNat * 3 + 1, none⟩ (iv_ B)).setCell ⟨x, (l : Int).toNat * 3 + 2, none⟩ (iv_ D))) ?hg ?ho ?hn ?hr ?_; (case ho => rfl); (case hg => rfl); (case hn => rfl); (case hr => first | (go_simp; done) | (go_simp; rfl)); intro Z hw; have hg : y.grownBy Z (some x) := (by rw [hw]; exact O.2); have hp_ : Kd.R k76 76 Z w.heap.size (fun _ => True) (.slice (some ⟨x, 0, none⟩) s.length a6) b9 := (by rw [hw, d2.out]; exact O.1); clear O; refine sh2_ hp_ ((by rw [hw]; exact below_set (below_set (below_set (HB.out) M.out) M.out) M.out : Below w.heap.size w Z)) ?_; clear u HB; intro u HB; clear hg hw hp_))
    go_roundg k1
    case measure => have := a2.out; omega
    case rel => exact ⟨(b9), (wrap64 (l + 1)), (by first | rfl | (simp; done) | (simp [*]; done)), H', ⟨by have := a2.out; omega⟩, ⟨ra_ u⟩, ⟨bl_ HB⟩⟩
   ·rw [if_neg c6] at H
    have d3 := decide_eq_false c6
    clear c6
    obtain rfl := Option.some.inj H
    go_wp2
    go_ret
    exact ⟨_, er_, ra_ u, bl_ HB⟩

/-! ### laws_toSky: function 7 -/
def laws_toSky.f (k : Nat) (j : Int) (z : List S82) (B : List S84) (l m s u x : Int) (D : List S88) (y : Int) : Option (Int × List S68 × List S70 × Int × Int × Int × Int × Int × List S76 × Int) := (laws_toSatS.f k z).bind fun E => ((laws_toSiteS.f k B).bind fun G => ((laws_toZoneS.f k D).bind fun I => (some (j, E, G, l, m, s, u, x, I, y))))
theorem laws_toSky.calls (k : Nat) (y : Int) (a1 : Option Addr) (a7 : Nat) (L : List S82) (a2 : Option Addr) (a8 : Nat) (M : List S84) (z B D E G : Int) (a3 : Option Addr) (a9 : Nat) (O : List S88) (I r1 : Int) (r2 : List S68) (r3 : List S70) (r4 r5 r6 r7 r8 : Int) (r9 : List S76) (d1 : Int) (w : World) (b9 : Kd.C k82 w a1 L.length L) (b6 : L.length ≤ a7) (c0 : Kd.C k84 w a2 M.length M) (b7 : M.length ≤ a8) (c1 : Kd.C k88 w a3 O.length O) (b8 : O.length ≤ a9) (h : laws_toSky.f k y L M z B D E G O I = some (r1, r2, r3, r4, r5, r6, r7, r8, r9, d1)) :
  Calls Tryz.prog 7 #[.agg #[iv_ y, .slice a1 L.length a7, .slice a2 M.length a8, iv_ z, iv_ B, iv_ D, iv_ E, iv_ G, .slice a3 O.length a9, iv_ I]] w fun e w' => ∃ e0 e1 e2 : Value, e = .returned (.agg #[iv_ r1, e0, e1, iv_ r4, iv_ r5, iv_ r6, iv_ r7, iv_ r8, e2, iv_ d1]) ∧ Kd.R k68 68 w' w.heap.size (fun _ => True) e0 r2 ∧ Kd.R k70 70 w' w.heap.size (fun _ => True) e1 r3 ∧ Kd.R k76 76 w' w.heap.size (fun _ => True) e2 r9 ∧ Below w.heap.size w w' := by
 have h6 := Tryz.underlying26
 have h7 := Tryz.underlying34
 have e9 := Aside0.mk b9
 have e6 := Aside0.mk b6
 clear b9 b6
 have f0 := Aside0.mk c0
 have e7 := Aside0.mk b7
 clear c0 b7
 have f1 := Aside0.mk c1
 have e8 := Aside0.mk b8
 clear c1 b8
 have HB := Aside0.mk (Below.refl w.heap.size w)
 have H := h
 clear h
 unfold laws_toSky.f at H
 replace H := bs_ H
 obtain ⟨Y, A2, H⟩ := H
 replace H := bs_ H
 obtain ⟨Z, A3, H⟩ := H
 replace H := bs_ H
 obtain ⟨a0, A4, H⟩ := H
 simp only [Option.some.injEq, Prod.mk.injEq] at H
 obtain ⟨rfl, rfl, rfl, rfl, rfl, rfl, rfl, rfl, rfl, rfl⟩ := H
 go_enter Tryz.func7, Tryz.ntmps7
 go_wp2_with (first | ((with_reducible refine gd_ 1 ?_); refine bx_ 1 26 #[iv_ y, .slice a1 L.length a7, .slice a2 M.length a8, iv_ z, iv_ B, iv_ D, iv_ E, iv_ G, .slice a3 O.length a9, iv_ I] ?_; intro b4 hg w5 hbox hb; refine sh3_ (below_step (bl_ HB) hb) hbox (ge_ hg (bl_ HB)) ?_; clear HB hb hbox hg; intro HB l x) | ((with_reducible refine gd_ 2 ?_); refine bx_ 2 34 #[iv_ 0, .slice none 0 0, .slice none 0 0, iv_ 0, iv_ 0, iv_ 0, iv_ 0, iv_ 0, .slice none 0 0, iv_ 0] ?_; intro j hg w6 hbox hb; refine sh6_ (blk_below (bk_ l) hb) (below_step (bl1_ HB x) hb) hbox (ge_ hg (bl1_ HB x)) (nl_ hg (bk_ l)) (ng_ hg (bk_ l)) ?_; clear l HB hb hbox hg; intro l HB s J f2 f4) | ((with_reducible refine gd_ 3 ?_); refine bx_ 3 34 #[iv_ 0, .slice none 0 0, .slice none 0 0, iv_ 0, iv_ 0, iv_ 0, iv_ 0, iv_ 0, .slice none 0 0, iv_ 0] ?_; intro m hg w7 hbox hb; refine sh9_ (blk_below (bk_ l) hb) (blk_below (bk_ s) hb) (below_step (bl2_ HB x J) hb) hbox (ge_ hg (bl2_ HB x J)) (nl_ hg (bk_ l)) (ng_ hg (bk_ l)) (nl_ hg (bk_ s)) (ng_ hg (bk_ s)) ?_; clear l s HB hb hbox hg; intro l s HB u T f3 f6 f5 f7; have h1 := f2.out; have h4 := f4.out; have h2 := f3.out; have h5 := f6.out; have g1 := cf10_ l; have h0 := f7.out; have h3 := f5.out; have g2 := cf10_ u) | ((with_reducible refine gate_callee (f := 24) rfl ?_); refine goesL_ (some 9) rfl rfl Tryz.func24 (by kernel_rfl) rfl #[.slice a1 L.length a7] rfl mp_ ?_; (with_reducible refine (laws_toSatS.calls k _ _ L Y _ ?side1 ?side2 A2.out).mono ?_); (case side1 => exact Kd.C_below e9.out (bl3_ HB x J T)); (case side2 => exact e6.out); rintro e i1 ⟨h8, rfl, X, hb⟩; refine ⟨_, rfl, sh5_ (Kd.R_lower X (below_size (bl3_ HB x J T))) (blk_below (g := b4) (o := .cells #[iv_ y, .slice a1 L.length a7, .slice a2 M.length a8, iv_ z, iv_ B, iv_ D, iv_ E, iv_ G, .slice a3 O.length a9, iv_ I] 26 (0, 0)) (bp_ l) hb) (blk_below (g := j) (o := .cells #[iv_ 0, .slice none 0 0, .slice none 0 0, iv_ 0, iv_ 0, iv_ 0, iv_ 0, iv_ 0, .slice none 0 0, iv_ 0] 34 (0, 0)) (bp_ s) hb) (blk_below (g := m) (o := .cells #[iv_ y, .slice none 0 0, .slice none 0 0, iv_ 0, iv_ 0, iv_ 0, iv_ 0, iv_ 0, .slice none 0 0, iv_ 0] 34 (0, 0)) (bp_ u) hb) (below_step (bl3_ HB x J T) hb) ?_⟩; clear l s u HB hb X; intro U l s u HB; obtain ⟨a4, b0, f8⟩ := Kd.R_slice U.out; subst f8; have g3 := cf10_ u; have g4 := cf10_ l) | ((with_reducible refine gate_callee (f := 25) rfl ?_); refine goesL_ (some 13) rfl rfl Tryz.func25 (by kernel_rfl) rfl #[.slice a2 M.length a8] rfl mp_ ?_; (with_reducible refine (laws_toSiteS.calls k _ _ M Z _ ?side1 ?side2 A3.out).mono ?_); (case side1 => exact Kd.C_below f0.out (bl3_ HB x J T)); (case side2 => exact e7.out); rintro e i2 ⟨h9, rfl, X, hb⟩; refine ⟨_, rfl, sh6_ (Kd.R_below (by (with_reducible repeat (first | apply Kd.R_alloc | apply Kd.R_drewN | apply Kd.R_drew)); exact (Kd.R_mono (Kd.R_far (p := ⟨m, 1, none⟩) (Kd.R_types U.out u.out (by decide)) (fun _ hk => hk.2) (.slice a4 Y.length b0)) (fun _ h_ => h_.1))) hb) (Kd.R_lower X (below_size (bl3_ HB x J T))) (blk_below (g := b4) (o := .cells #[iv_ y, .slice a1 L.length a7, .slice a2 M.length a8, iv_ z, iv_ B, iv_ D, iv_ E, iv_ G, .slice a3 O.length a9, iv_ I] 26 (0, 0)) (bp_ l) hb) (blk_below (g := j) (o := .cells #[iv_ 0, .slice none 0 0, .slice none 0 0, iv_ 0, iv_ 0, iv_ 0, iv_ 0, iv_ 0, .slice none 0 0, iv_ 0] 34 (0, 0)) (bp_ s) hb) (blk_below (g := m) (o := .cells #[iv_ y, .slice a4 Y.length b0, .slice none 0 0, iv_ 0, iv_ 0, iv_ 0, iv_ 0, iv_ 0, .slice none 0 0, iv_ 0] 34 (0, 0)) (bp_ u) hb) (below_step (bl3_ HB x J T) hb) ?_⟩; clear U l s u HB hb X; intro U b3 l s u HB; obtain ⟨a5, b1, f9⟩ := Kd.R_slice b3.out; subst f9; have g5 := cf10_ u; have g6 := cf10_ l) | ((with_reducible refine gate_callee (f := 26) rfl ?_); refine goesL_ (some 32) rfl rfl Tryz.func26 (by kernel_rfl) rfl #[.slice a3 O.length a9] rfl mp_ ?_; (with_reducible refine (laws_toZoneS.calls k _ _ O a0 _ ?side1 ?side2 A4.out).mono ?_); (case side1 => exact Kd.C_below f1.out (bl3_ HB x J T)); (case side2 => exact e8.out); rintro e i3 ⟨i0, rfl, X, hb⟩; refine ⟨_, rfl, sh7_ (Kd.R_below (by (with_reducible repeat (first | apply Kd.R_alloc | apply Kd.R_drewN | apply Kd.R_drew)); exact (Kd.R_mono (Kd.R_far (p := ⟨m, 7, none⟩) (Kd.R_far (p := ⟨m, 6, none⟩) (Kd.R_far (p := ⟨m, 5, none⟩) (Kd.R_far (p := ⟨m, 4, none⟩) (Kd.R_far (p := ⟨m, 3, none⟩) (Kd.R_far (p := ⟨m, 2, none⟩) (Kd.R_types U.out u.out (by decide)) (fun _ hk => hk.2) (.slice a5 Z.length b1)) (fun _ hk => hk.2) (iv_ z)) (fun _ hk => hk.2) (iv_ B)) (fun _ hk => hk.2) (iv_ D)) (fun _ hk => hk.2) (iv_ E)) (fun _ hk => hk.2) (iv_ G)) (fun _ h_ => h_.1))) hb) (Kd.R_below (by (with_reducible repeat (first | apply Kd.R_alloc | apply Kd.R_drewN | apply Kd.R_drew)); exact (Kd.R_mono (Kd.R_far (p := ⟨m, 7, none⟩) (Kd.R_far (p := ⟨m, 6, none⟩) (Kd.R_far (p := ⟨m, 5, none⟩) (Kd.R_far (p := ⟨m, 4, none⟩) (Kd.R_far (p := ⟨m, 3, none⟩) (Kd.R_far (p := ⟨m, 2, none⟩) (Kd.R_types b3.out u.out (by decide)) (fun _ hk => hk.2) (.slice a5 Z.length b1)) (fun _ hk => hk.2) (iv_ z)) (fun _ hk => hk.2) (iv_ B)) (fun _ hk => hk.2) (iv_ D)) (fun _ hk => hk.2) (iv_ E)) (fun _ hk => hk.2) (iv_ G)) (fun _ h_ => h_.1))) hb) (Kd.R_lower X (below_size (bl3_ HB x J T))) (blk_below (g := b4) (o := .cells #[iv_ y, .slice a1 L.length a7, .slice a2 M.length a8, iv_ z, iv_ B, iv_ D, iv_ E, iv_ G, .slice a3 O.length a9, iv_ I] 26 (0, 0)) (bp_ l) hb) (blk_below (g := j) (o := .cells #[iv_ 0, .slice none 0 0, .slice none 0 0, iv_ 0, iv_ 0, iv_ 0, iv_ 0, iv_ 0, .slice none 0 0, iv_ 0] 34 (0, 0)) (bp_ s) hb) (blk_below (g := m) (o := .cells #[iv_ y, .slice a4 Y.length b0, .slice a5 Z.length b1, iv_ z, iv_ B, iv_ D, iv_ E, iv_ G, .slice none 0 0, iv_ 0] 34 (0, 0)) (bp_ u) hb) (below_step (bl3_ HB x J T) hb) ?_⟩; clear U b3 l s u HB hb X; intro U b3 b5 l s u HB; obtain ⟨a6, b2, g0⟩ := Kd.R_slice b5.out; subst g0; have g7 := cf10_ u; have g8 := cf10_ l; have g9 := cf10_ s))
 refine bodyPost_ret (results_cell_row rfl _ _ j 34 #[iv_ y, .slice a4 Y.length b0, .slice a5 Z.length b1, iv_ z, iv_ B, iv_ D, iv_ E, iv_ G, .slice a6 a0.length b2, iv_ I] (0, 0) _ rfl (bp_ s) Tryz.underlying34 rfl (by kernel_rfl)) rfl ?_
 exact ⟨_, _, _, er_, by (with_reducible repeat (first | apply Kd.R_alloc | apply Kd.R_drewN | apply Kd.R_drew)); exact Kd.R_mono (Kd.R_far (p := ⟨j, 9, none⟩) (Kd.R_far (p := ⟨j, 8, none⟩) (Kd.R_far (p := ⟨j, 7, none⟩) (Kd.R_far (p := ⟨j, 6, none⟩) (Kd.R_far (p := ⟨j, 5, none⟩) (Kd.R_far (p := ⟨j, 4, none⟩) (Kd.R_far (p := ⟨j, 3, none⟩) (Kd.R_far (p := ⟨j, 2, none⟩) (Kd.R_far (p := ⟨j, 1, none⟩) (Kd.R_far (p := ⟨j, 0, none⟩) (Kd.R_far (p := ⟨m, 9, none⟩) (Kd.R_far (p := ⟨m, 8, none⟩) (Kd.R_types (Kd.R_types U.out u.out (by decide)) s.out (by decide)) (fun _ hk => hk.1.2) (.slice a6 a0.length b2)) (fun _ hk => hk.1.2) (iv_ I)) (fun _ hk => hk.2) (iv_ y)) (fun _ hk => hk.2) (.slice a4 Y.length b0)) (fun _ hk => hk.2) (.slice a5 Z.length b1)) (fun _ hk => hk.2) (iv_ z)) (fun _ hk => hk.2) (iv_ B)) (fun _ hk => hk.2) (iv_ D)) (fun _ hk => hk.2) (iv_ E)) (fun _ hk => hk.2) (iv_ G)) (fun _ hk => hk.2) (.slice a6 a0.length b2)) (fun _ hk => hk.2) (iv_ I)) (fun _ hk => trivial), by (with_reducible repeat (first | apply Kd.R_alloc | apply Kd.R_drewN | apply Kd.R_drew)); exact Kd.R_mono (Kd.R_far (p := ⟨j, 9, none⟩) (Kd.R_far (p := ⟨j, 8, none⟩) (Kd.R_far (p := ⟨j, 7, none⟩) (Kd.R_far (p := ⟨j, 6, none⟩) (Kd.R_far (p := ⟨j, 5, none⟩) (Kd.R_far (p := ⟨j, 4, none⟩) (Kd.R_far (p := ⟨j, 3, none⟩) (Kd.R_far (p := ⟨j, 2, none⟩) (Kd.R_far (p := ⟨j, 1, none⟩) (Kd.R_far (p := ⟨j, 0, none⟩) (Kd.R_far (p := ⟨m, 9, none⟩) (Kd.R_far (p := ⟨m, 8, none⟩) (Kd.R_types (Kd.R_types b3.out u.out (by decide)) s.out (by decide)) (fun _ hk => hk.1.2) (.slice a6 a0.length b2)) (fun _ hk => hk.1.2) (iv_ I)) (fun _ hk => hk.2) (iv_ y)) (fun _ hk => hk.2) (.slice a4 Y.length b0)) (fun _ hk => hk.2) (.slice a5 Z.length b1)) (fun _ hk => hk.2) (iv_ z)) (fun _ hk => hk.2) (iv_ B)) (fun _ hk => hk.2) (iv_ D)) (fun _ hk => hk.2) (iv_ E)) (fun _ hk => hk.2) (iv_ G)) (fun _ hk => hk.2) (.slice a6 a0.length b2)) (fun _ hk => hk.2) (iv_ I)) (fun _ hk => trivial), by (with_reducible repeat (first | apply Kd.R_alloc | apply Kd.R_drewN | apply Kd.R_drew)); exact Kd.R_mono (Kd.R_far (p := ⟨j, 9, none⟩) (Kd.R_far (p := ⟨j, 8, none⟩) (Kd.R_far (p := ⟨j, 7, none⟩) (Kd.R_far (p := ⟨j, 6, none⟩) (Kd.R_far (p := ⟨j, 5, none⟩) (Kd.R_far (p := ⟨j, 4, none⟩) (Kd.R_far (p := ⟨j, 3, none⟩) (Kd.R_far (p := ⟨j, 2, none⟩) (Kd.R_far (p := ⟨j, 1, none⟩) (Kd.R_far (p := ⟨j, 0, none⟩) (Kd.R_far (p := ⟨m, 9, none⟩) (Kd.R_far (p := ⟨m, 8, none⟩) (Kd.R_types (Kd.R_types b5.out u.out (by decide)) s.out (by decide)) (fun _ hk => hk.1.2) (.slice a6 a0.length b2)) (fun _ hk => hk.1.2) (iv_ I)) (fun _ hk => hk.2) (iv_ y)) (fun _ hk => hk.2) (.slice a4 Y.length b0)) (fun _ hk => hk.2) (.slice a5 Z.length b1)) (fun _ hk => hk.2) (iv_ z)) (fun _ hk => hk.2) (iv_ B)) (fun _ hk => hk.2) (iv_ D)) (fun _ hk => hk.2) (iv_ E)) (fun _ hk => hk.2) (iv_ G)) (fun _ hk => hk.2) (.slice a6 a0.length b2)) (fun _ hk => hk.2) (iv_ I)) (fun _ hk => trivial), bl3_ HB x J T⟩

/-! ### laws_eqContact: function 30 -/
def laws_eqContact.f (j l m s u x y z : Int) : Option (Bool) := if j = u then (if l = x then (if m = y then (if s = z then (some true) else (some false)) else (some false)) else (some false)) else (some false)
theorem laws_eqContact.calls (y z B D E G I J : Int) (r : Bool) (w : World) (h : laws_eqContact.f y z B D E G I J = some r) :
  Calls Tryz.prog 30 #[.agg #[iv_ y, iv_ z, iv_ B, iv_ D], .agg #[iv_ E, iv_ G, iv_ I, iv_ J]] w fun e w' => e = .returned (.bool r) ∧ Below w.heap.size w w' := by
 have d0 := Tryz.underlying54
 have HB := Aside0.mk (Below.refl w.heap.size w)
 have H := h
 clear h
 unfold laws_eqContact.f at H
 by_cases c3 : y = E
 ·rw [if_pos c3] at H
  obtain ⟨O, T⟩ := bt_ c3
  clear c3
  by_cases c4 : z = G
  ·rw [if_pos c4] at H
   obtain ⟨U, X⟩ := bt_ c4
   clear c4
   by_cases c5 : B = I
   ·rw [if_pos c5] at H
    obtain ⟨Y, Z⟩ := bt_ c5
    clear c5
    by_cases c6 : D = J
    ·rw [if_pos c6] at H
     obtain ⟨a0, a1⟩ := bt_ c6
     clear c6
     obtain rfl := Option.some.inj H
     go_enter Tryz.func30, Tryz.ntmps30
     go_wp2_with (first | ((with_reducible refine gd_ 2 ?_); refine bx_ 2 54 #[iv_ y, iv_ z, iv_ B, iv_ D] ?_; intro L hg w7 hbox hb; refine sh3_ (below_step (bl_ HB) hb) hbox (ge_ hg (bl_ HB)) ?_; clear HB hb hbox hg; intro HB j l) | ((with_reducible refine gd_ 3 ?_); refine bx_ 3 54 #[iv_ E, iv_ G, iv_ I, iv_ J] ?_; intro M hg w8 hbox hb; refine sh6_ (blk_below (bk_ j) hb) (below_step (bl1_ HB l) hb) hbox (ge_ hg (bl1_ HB l)) (nl_ hg (bk_ j)) (ng_ hg (bk_ j)) ?_; clear j HB hb hbox hg; intro j HB m s u x; have b6 := u.out; have c1 := x.out; have a2 := cf4_ j; have a3 := cf4_ m))
     go_ret
     exact ⟨er_, bl2_ HB l s⟩
    ·rw [if_neg c6] at H
     obtain ⟨a0, a1⟩ := bn_ c6
     obtain rfl := Option.some.inj H
     go_enter Tryz.func30, Tryz.ntmps30
     go_wp2_with (first | ((with_reducible refine gd_ 2 ?_); refine bx_ 2 54 #[iv_ y, iv_ z, iv_ B, iv_ D] ?_; intro L hg d1 hbox hb; refine sh3_ (below_step (bl_ HB) hb) hbox (ge_ hg (bl_ HB)) ?_; clear HB hb hbox hg; intro HB j l) | ((with_reducible refine gd_ 3 ?_); refine bx_ 3 54 #[iv_ E, iv_ G, iv_ I, iv_ J] ?_; intro M hg d2 hbox hb; refine sh6_ (blk_below (bk_ j) hb) (below_step (bl1_ HB l) hb) hbox (ge_ hg (bl1_ HB l)) (nl_ hg (bk_ j)) (ng_ hg (bk_ j)) ?_; clear j HB hb hbox hg; intro j HB m s u x; have b2 := u.out; have b7 := x.out; have a4 := cf4_ j; have a5 := cf4_ m))
     go_ret
     exact ⟨er_, bl2_ HB l s⟩
   ·rw [if_neg c5] at H
    obtain ⟨Y, Z⟩ := bn_ c5
    obtain rfl := Option.some.inj H
    go_enter Tryz.func30, Tryz.ntmps30
    go_wp2_with (first | ((with_reducible refine gd_ 2 ?_); refine bx_ 2 54 #[iv_ y, iv_ z, iv_ B, iv_ D] ?_; intro L hg d3 hbox hb; refine sh3_ (below_step (bl_ HB) hb) hbox (ge_ hg (bl_ HB)) ?_; clear HB hb hbox hg; intro HB j l) | ((with_reducible refine gd_ 3 ?_); refine bx_ 3 54 #[iv_ E, iv_ G, iv_ I, iv_ J] ?_; intro M hg d4 hbox hb; refine sh6_ (blk_below (bk_ j) hb) (below_step (bl1_ HB l) hb) hbox (ge_ hg (bl1_ HB l)) (nl_ hg (bk_ j)) (ng_ hg (bk_ j)) ?_; clear j HB hb hbox hg; intro j HB m s u x; have b3 := u.out; have b8 := x.out; have a6 := cf4_ j; have a7 := cf4_ m))
    go_ret
    exact ⟨er_, bl2_ HB l s⟩
  ·rw [if_neg c4] at H
   obtain ⟨U, X⟩ := bn_ c4
   obtain rfl := Option.some.inj H
   go_enter Tryz.func30, Tryz.ntmps30
   go_wp2_with (first | ((with_reducible refine gd_ 2 ?_); refine bx_ 2 54 #[iv_ y, iv_ z, iv_ B, iv_ D] ?_; intro L hg d5 hbox hb; refine sh3_ (below_step (bl_ HB) hb) hbox (ge_ hg (bl_ HB)) ?_; clear HB hb hbox hg; intro HB j l) | ((with_reducible refine gd_ 3 ?_); refine bx_ 3 54 #[iv_ E, iv_ G, iv_ I, iv_ J] ?_; intro M hg d6 hbox hb; refine sh6_ (blk_below (bk_ j) hb) (below_step (bl1_ HB l) hb) hbox (ge_ hg (bl1_ HB l)) (nl_ hg (bk_ j)) (ng_ hg (bk_ j)) ?_; clear j HB hb hbox hg; intro j HB m s u x; have b4 := u.out; have b9 := x.out; have a8 := cf4_ j; have a9 := cf4_ m))
   go_ret
   exact ⟨er_, bl2_ HB l s⟩
 ·rw [if_neg c3] at H
  obtain ⟨O, T⟩ := bn_ c3
  obtain rfl := Option.some.inj H
  go_enter Tryz.func30, Tryz.ntmps30
  go_wp2_with (first | ((with_reducible refine gd_ 2 ?_); refine bx_ 2 54 #[iv_ y, iv_ z, iv_ B, iv_ D] ?_; intro L hg d7 hbox hb; refine sh3_ (below_step (bl_ HB) hb) hbox (ge_ hg (bl_ HB)) ?_; clear HB hb hbox hg; intro HB j l) | ((with_reducible refine gd_ 3 ?_); refine bx_ 3 54 #[iv_ E, iv_ G, iv_ I, iv_ J] ?_; intro M hg d8 hbox hb; refine sh6_ (blk_below (bk_ j) hb) (below_step (bl1_ HB l) hb) hbox (ge_ hg (bl1_ HB l)) (nl_ hg (bk_ j)) (ng_ hg (bk_ j)) ?_; clear j HB hb hbox hg; intro j HB m s u x; have b5 := u.out; have c0 := x.out; have b0 := cf4_ j; have b1 := cf4_ m))
  go_ret
  exact ⟨er_, bl2_ HB l s⟩

/-! ### laws_eqContactS: function 9 -/
def laws_eqContactS.l0 : Nat → List S54 → List S54 → Int → Option (Bool)
 | 0, _, _, _ => none
 | k + 1, l, m, j => if j < (l.length : Int) then (if 0 ≤ j then (if j < (m.length : Int) then ((laws_eqContact.f ((rd_T54 l j).f0) ((rd_T54 l j).f1) ((rd_T54 l j).f2) ((rd_T54 l j).f3) ((rd_T54 m j).f0) ((rd_T54 m j).f1) ((rd_T54 m j).f2) ((rd_T54 m j).f3)).bind fun s => (if s = true then (laws_eqContactS.l0 k l m (wrap64 (j + 1))) else (some false))) else (none)) else (none)) else (some true)
def laws_eqContactS.f (k : Nat) (j l : List S54) : Option (Bool) := if (j.length : Int) = (l.length : Int) then (laws_eqContactS.l0 k j l 0) else (some false)
def laws_eqContactS.T6 : Bool × List (List Nat × List Nat) := (true, [([], []), ([], []), ([0, 1], [0, 1]), ([2], [2]), ([], []), ([], []), ([4, 5], [4, 5]), ([6], [6]), ([3, 7], [3, 7]), ([8], [8])])
def laws_eqContactS.B6 : List Nat := [0, 0, 3, 7, 0, 0, 48, 112, 255, 511]
theorem laws_eqContactS.tab6 : rtab .any (opsOf Tryz.f9 6) = laws_eqContactS.T6 := by kernel_rfl
theorem laws_eqContactS.bits6 : waitsOk laws_eqContactS.T6.2 laws_eqContactS.B6 = true := by kernel_rfl
theorem laws_eqContactS.calls (k : Nat) (A0 : Option Addr) (c0 : Nat) (l : List S54) (A1 : Option Addr) (c1 : Nat) (m : List S54) (r : Bool) (w : World) (b6 : Kd.C k54 w A0 l.length l) (b4 : l.length ≤ c0) (b7 : Kd.C k54 w A1 m.length m) (b5 : m.length ≤ c1) (h : laws_eqContactS.f k l m = some r) :
  Calls Tryz.prog 9 #[.slice A0 l.length c0, .slice A1 m.length c1] w fun e w' => e = .returned (.bool r) ∧ Below w.heap.size w w' := by
 have d9 := Tryz.underlying54
 have b0 := Aside0.mk b6
 have d5 := Aside0.mk b4
 clear b6 b4
 have b1 := Aside0.mk b7
 have d6 := Aside0.mk b5
 clear b7 b5
 have HB := Aside0.mk (Below.refl w.heap.size w)
 have H := h
 clear h
 unfold laws_eqContactS.f at H
 by_cases c3 : (l.length : Int) = (m.length : Int)
 ·rw [if_pos c3] at H
  obtain ⟨b8, b9⟩ := bt_ c3
  have d0 : (l.length == m.length) = true := by first | simpa using c3 | (simp at c3 ⊢; omega)
  clear c3
  have H' := Aside0.mk H
  clear H
  go_enter Tryz.func9, Tryz.ntmps9
  go_wp2
  go_loopg [5] k (fun kq v5 w' => ∃ (j : Int), v5 = iv_ j ∧ Aside0 (laws_eqContactS.l0 kq l m j = some r) ∧ Aside0 (kq ≤ k) ∧ Aside0 (Below w.heap.size w w'))
  case atStart => exact ⟨(0), (by first | rfl | (simp; done) | (simp [*]; done)), H', ⟨Nat.le_refl _⟩, ⟨bl_ HB⟩⟩
  case round =>
   clear H'
   obtain ⟨j, rfl, HA, a9, HB⟩ := hrel
   cases gk with
   | zero => exact absurd HA.out (by simp [laws_eqContactS.l0])
   | succ k1 =>
    have H := HA.out
    clear HA
    simp only [laws_eqContactS.l0] at H
    by_cases c4 : j < (l.length : Int)
    ·rw [if_pos c4] at H
     have d1 := decide_eq_true c4
     clear c4
     replace H := ifn_ H
     obtain ⟨c5, H⟩ := H
     have d7 := decide_eq_true c5
     clear c5
     replace H := ifn_ H
     obtain ⟨c6, H⟩ := H
     have d8 := decide_eq_true c6
     clear c6
     replace H := bs_ H
     obtain ⟨d3, A7, H⟩ := H
     by_cases c8 : d3 = true
     ·subst c8
      rw [if_pos rfl] at H
      have H' := Aside0.mk H
      clear H
      try go_wp2
      refine sh1_ (below_drew1 HB.out) ?_
      clear HB
      intro HB
      have Z : 0 ≤ (j : Int) := od_
      have a1 : j < (l.length : Int) := od_
      obtain ⟨s, a3, J, L, M, O⟩ := at_T54 b0.out j Z a1
      have B := O
      have z := M
      have y := L
      have x := J
      cases a3
      replace J := hbc_ HB J
      replace L := hbc_ HB L
      replace M := hbc_ HB M
      replace O := hbc_ HB O
      replace Z := eq_true Z
      replace a1 := eq_true a1
      have a0 : 0 ≤ (j : Int) := od_
      have a2 : j < (m.length : Int) := od_
      obtain ⟨u, a4, T, U, X, Y⟩ := at_T54 b1.out j a0 a2
      have I := Y
      have G := X
      have E := U
      have D := T
      cases a4
      replace T := hbc_ HB T
      replace U := hbc_ HB U
      replace X := hbc_ HB X
      replace Y := hbc_ HB Y
      replace a0 := eq_true a0
      replace a2 := eq_true a2
      refine start_ (n := 10) (S := fun w' => w'.cell? (s.add ((j).toNat * 4)) = some (iv_ ((rd_T54 l j).f0)) ∧ w'.cell? ⟨(s.add ((j).toNat * 4)).block, (s.add ((j).toNat * 4)).off + 1, none⟩ = some (iv_ ((rd_T54 l j).f1)) ∧ w'.cell? ⟨(s.add ((j).toNat * 4)).block, (s.add ((j).toNat * 4)).off + 2, none⟩ = some (iv_ ((rd_T54 l j).f2)) ∧ w'.cell? ⟨(s.add ((j).toNat * 4)).block, (s.add ((j).toNat * 4)).off + 3, none⟩ = some (iv_ ((rd_T54 l j).f3)) ∧ w'.cell? (u.add ((j).toNat * 4)) = some (iv_ ((rd_T54 m j).f0)) ∧ w'.cell? ⟨(u.add ((j).toNat * 4)).block, (u.add ((j).toNat * 4)).off + 1, none⟩ = some (iv_ ((rd_T54 m j).f1)) ∧ w'.cell? ⟨(u.add ((j).toNat * 4)).block, (u.add ((j).toNat * 4)).off + 2, none⟩ = some (iv_ ((rd_T54 m j).f2)) ∧ w'.cell? ⟨(u.add ((j).toNat * 4)).block, (u.add ((j).toNat * 4)).off + 3, none⟩ = some (iv_ ((rd_T54 m j).f3))) (ds := []) (bo_ 10 0) (by kernel_rfl) rfl rfl ⟨((HB.out.cell (World.block_lt_of_cell? w _ x)).trans x), ((HB.out.cell (World.block_lt_of_cell? w _ y)).trans y), ((HB.out.cell (World.block_lt_of_cell? w _ z)).trans z), ((HB.out.cell (World.block_lt_of_cell? w _ B)).trans B), ((HB.out.cell (World.block_lt_of_cell? w _ D)).trans D), ((HB.out.cell (World.block_lt_of_cell? w _ E)).trans E), ((HB.out.cell (World.block_lt_of_cell? w _ G)).trans G), ((HB.out.cell (World.block_lt_of_cell? w _ I)).trans I)⟩ (fun hHeld => ?_); refine with_tabW laws_eqContactS.tab6 laws_eqContactS.bits6 (fun HT_ HW_ => ?_)
      generalize wr.drew = w9 at HB J L M O T U X Y hHeld ⊢
      refine pur_ 0 (bo_ 10 1) (some 17) HT_ ?_
      refine pur_ 1 (bo_ 10 3) (some 18) HT_ ?_
      refine pur_ 2 (bo_ 10 7) (some 19) HT_ ?_
      refine pur_ 4 (bo_ 10 23) (some 21) HT_ ?_
      refine pur_ 5 (bo_ 10 55) (some 22) HT_ ?_
      refine pur_ 6 (bo_ 10 119) (some 23) HT_ ?_
      refine tak_ 3 (bo_ 10 127) (some 20) HT_ HW_ hHeld ?_
      refine tak_ 7 (bo_ 10 255) (some 24) HT_ HW_ hHeld ?_
      refine onc_ 8 (bo_ 10 511) (some 25) HT_ Tryz.func30 (laws_eqContact.calls ((rd_T54 l j).f0) ((rd_T54 l j).f1) ((rd_T54 l j).f2) ((rd_T54 l j).f3) ((rd_T54 m j).f0) ((rd_T54 m j).f1) ((rd_T54 m j).f2) ((rd_T54 m j).f3) true _ A7.out) ?_
      rintro e e0 ⟨rfl, hb⟩
      refine sh1_ (below_step (bl_ HB) hb) ?_
      clear HB hb
      intro HB
      refine ⟨_, _, rfl, ⟨((HB.out.cell (World.block_lt_of_cell? w _ x)).trans x), ((HB.out.cell (World.block_lt_of_cell? w _ y)).trans y), ((HB.out.cell (World.block_lt_of_cell? w _ z)).trans z), ((HB.out.cell (World.block_lt_of_cell? w _ B)).trans B), ((HB.out.cell (World.block_lt_of_cell? w _ D)).trans D), ((HB.out.cell (World.block_lt_of_cell? w _ E)).trans E), ((HB.out.cell (World.block_lt_of_cell? w _ G)).trans G), ((HB.out.cell (World.block_lt_of_cell? w _ I)).trans I)⟩, pt_, fun hHeld => ?_⟩
      refine pur_ 9 (bo_ 10 1023) (some 26) HT_ ?_
      refine done_ (done_of HT_.out (by kernel_rfl)) ?_
      try go_wp2
      go_roundg k1
      case measure => have := a9.out; omega
      case rel => exact ⟨(wrap64 (j + 1)), (by first | rfl | (simp; done) | (simp [*]; done)), H', ⟨by have := a9.out; omega⟩, ⟨bl_ HB⟩⟩
     ·replace c8 := Bool.eq_false_iff.mpr c8
      subst c8
      have H1 : (some false) = some r := by rw [if_neg (show ¬ (false = true) by decide)] at H; exact H
      clear H
      have H := H1
      clear H1
      obtain rfl := Option.some.inj H
      try go_wp2
      refine sh1_ (below_drew1 HB.out) ?_
      clear HB
      intro HB
      have Z : 0 ≤ (j : Int) := od_
      have a1 : j < (l.length : Int) := od_
      obtain ⟨s, a3, J, L, M, O⟩ := at_T54 b0.out j Z a1
      have B := O
      have z := M
      have y := L
      have x := J
      cases a3
      replace J := hbc_ HB J
      replace L := hbc_ HB L
      replace M := hbc_ HB M
      replace O := hbc_ HB O
      replace Z := eq_true Z
      replace a1 := eq_true a1
      have a0 : 0 ≤ (j : Int) := od_
      have a2 : j < (m.length : Int) := od_
      obtain ⟨u, a4, T, U, X, Y⟩ := at_T54 b1.out j a0 a2
      have I := Y
      have G := X
      have E := U
      have D := T
      cases a4
      replace T := hbc_ HB T
      replace U := hbc_ HB U
      replace X := hbc_ HB X
      replace Y := hbc_ HB Y
      replace a0 := eq_true a0
      replace a2 := eq_true a2
      refine start_ (n := 10) (S := fun w' => w'.cell? (s.add ((j).toNat * 4)) = some (iv_ ((rd_T54 l j).f0)) ∧ w'.cell? ⟨(s.add ((j).toNat * 4)).block, (s.add ((j).toNat * 4)).off + 1, none⟩ = some (iv_ ((rd_T54 l j).f1)) ∧ w'.cell? ⟨(s.add ((j).toNat * 4)).block, (s.add ((j).toNat * 4)).off + 2, none⟩ = some (iv_ ((rd_T54 l j).f2)) ∧ w'.cell? ⟨(s.add ((j).toNat * 4)).block, (s.add ((j).toNat * 4)).off + 3, none⟩ = some (iv_ ((rd_T54 l j).f3)) ∧ w'.cell? (u.add ((j).toNat * 4)) = some (iv_ ((rd_T54 m j).f0)) ∧ w'.cell? ⟨(u.add ((j).toNat * 4)).block, (u.add ((j).toNat * 4)).off + 1, none⟩ = some (iv_ ((rd_T54 m j).f1)) ∧ w'.cell? ⟨(u.add ((j).toNat * 4)).block, (u.add ((j).toNat * 4)).off + 2, none⟩ = some (iv_ ((rd_T54 m j).f2)) ∧ w'.cell? ⟨(u.add ((j).toNat * 4)).block, (u.add ((j).toNat * 4)).off + 3, none⟩ = some (iv_ ((rd_T54 m j).f3))) (ds := []) (bo_ 10 0) (by kernel_rfl) rfl rfl ⟨((HB.out.cell (World.block_lt_of_cell? w _ x)).trans x), ((HB.out.cell (World.block_lt_of_cell? w _ y)).trans y), ((HB.out.cell (World.block_lt_of_cell? w _ z)).trans z), ((HB.out.cell (World.block_lt_of_cell? w _ B)).trans B), ((HB.out.cell (World.block_lt_of_cell? w _ D)).trans D), ((HB.out.cell (World.block_lt_of_cell? w _ E)).trans E), ((HB.out.cell (World.block_lt_of_cell? w _ G)).trans G), ((HB.out.cell (World.block_lt_of_cell? w _ I)).trans I)⟩ (fun hHeld => ?_); refine with_tabW laws_eqContactS.tab6 laws_eqContactS.bits6 (fun HT_ HW_ => ?_)
      generalize wr.drew = e1 at HB J L M O T U X Y hHeld ⊢
      refine pur_ 0 (bo_ 10 1) (some 17) HT_ ?_
      refine pur_ 1 (bo_ 10 3) (some 18) HT_ ?_
      refine pur_ 2 (bo_ 10 7) (some 19) HT_ ?_
      refine pur_ 4 (bo_ 10 23) (some 21) HT_ ?_
      refine pur_ 5 (bo_ 10 55) (some 22) HT_ ?_
      refine pur_ 6 (bo_ 10 119) (some 23) HT_ ?_
      refine tak_ 3 (bo_ 10 127) (some 20) HT_ HW_ hHeld ?_
      refine tak_ 7 (bo_ 10 255) (some 24) HT_ HW_ hHeld ?_
      refine onc_ 8 (bo_ 10 511) (some 25) HT_ Tryz.func30 (laws_eqContact.calls ((rd_T54 l j).f0) ((rd_T54 l j).f1) ((rd_T54 l j).f2) ((rd_T54 l j).f3) ((rd_T54 m j).f0) ((rd_T54 m j).f1) ((rd_T54 m j).f2) ((rd_T54 m j).f3) false _ A7.out) ?_
      rintro e e2 ⟨rfl, hb⟩
      refine sh1_ (below_step (bl_ HB) hb) ?_
      clear HB hb
      intro HB
      refine ⟨_, _, rfl, ⟨((HB.out.cell (World.block_lt_of_cell? w _ x)).trans x), ((HB.out.cell (World.block_lt_of_cell? w _ y)).trans y), ((HB.out.cell (World.block_lt_of_cell? w _ z)).trans z), ((HB.out.cell (World.block_lt_of_cell? w _ B)).trans B), ((HB.out.cell (World.block_lt_of_cell? w _ D)).trans D), ((HB.out.cell (World.block_lt_of_cell? w _ E)).trans E), ((HB.out.cell (World.block_lt_of_cell? w _ G)).trans G), ((HB.out.cell (World.block_lt_of_cell? w _ I)).trans I)⟩, pt_, fun hHeld => ?_⟩
      refine pur_ 9 (bo_ 10 1023) (some 26) HT_ ?_
      refine done_ (done_of HT_.out (by kernel_rfl)) ?_
      try go_wp2
      go_ret
      exact ⟨er_, bl_ HB⟩
    ·rw [if_neg c4] at H
     have d1 : decide (j < (l.length : Int)) = false := decide_eq_false c4
     clear c4
     obtain rfl := Option.some.inj H
     go_wp2
     go_ret
     exact ⟨er_, bl_ HB⟩
 ·rw [if_neg c3] at H
  obtain ⟨b8, b9⟩ := bn_ c3
  have d0 : (l.length == m.length) = false := by first | simpa using c3 | (simp at c3 ⊢; omega)
  obtain rfl := Option.some.inj H
  go_enter Tryz.func9, Tryz.ntmps9
  go_wp2
  go_ret
  exact ⟨er_, bl_ HB⟩

/-! ### laws_eqSat: function 59 -/
def laws_eqSat.f (j l m s u x y z : Int) : Option (Bool) := if j = u then (if l = x then (if m = y then (if s = z then (some true) else (some false)) else (some false)) else (some false)) else (some false)
theorem laws_eqSat.calls (l m s u x y z B : Int) (r : Bool) (w : World) (h : laws_eqSat.f l m s u x y z B = some r) (hT_ : r = true := by rfl) :
  Calls Tryz.prog 59 #[.agg #[iv_ l, iv_ m, iv_ s, iv_ u], .agg #[iv_ x, iv_ y, iv_ z, iv_ B]] w fun e w' => e = .returned (.bool r) ∧ Below w.heap.size w w' := by
 have a6 := Tryz.underlying68
 have HB := Aside0.mk (Below.refl w.heap.size w)
 subst hT_
 have H := h
 clear h
 unfold laws_eqSat.f at H
 by_cases c3 : l = x
 ·rw [if_pos c3] at H
  obtain ⟨L, M⟩ := bt_ c3
  clear c3
  by_cases c4 : m = y
  ·rw [if_pos c4] at H
   obtain ⟨O, T⟩ := bt_ c4
   clear c4
   by_cases c5 : s = z
   ·rw [if_pos c5] at H
    obtain ⟨U, X⟩ := bt_ c5
    clear c5
    by_cases c6 : u = B
    ·rw [if_pos c6] at H
     obtain ⟨Y, Z⟩ := bt_ c6
     clear c6
     clear H
     go_enter Tryz.func59, Tryz.ntmps59
     go_wp2_with (first | ((with_reducible refine gd_ 2 ?_); refine bx_ 2 68 #[iv_ l, iv_ m, iv_ s, iv_ u] ?_; intro a0 hg w7 hbox hb; refine sh3_ (below_step (bl_ HB) hb) hbox (ge_ hg (bl_ HB)) ?_; clear HB hb hbox hg; intro HB j D) | ((with_reducible refine gd_ 3 ?_); refine bx_ 3 68 #[iv_ x, iv_ y, iv_ z, iv_ B] ?_; intro a1 hg w8 hbox hb; refine sh6_ (blk_below (bk_ j) hb) (below_step (bl1_ HB D) hb) hbox (ge_ hg (bl1_ HB D)) (nl_ hg (bk_ j)) (ng_ hg (bk_ j)) ?_; clear j HB hb hbox hg; intro j HB E G I J; have a4 := I.out; have a5 := J.out; have a2 := cf4_ j; have a3 := cf4_ E))
     go_ret
     exact ⟨er_, bl2_ HB D G⟩
    ·rw [if_neg c6] at H
     obtain ⟨Y, Z⟩ := bn_ c6
     exact absurd H (by simp)
   ·rw [if_neg c5] at H
    obtain ⟨U, X⟩ := bn_ c5
    exact absurd H (by simp)
  ·rw [if_neg c4] at H
   obtain ⟨O, T⟩ := bn_ c4
   exact absurd H (by simp)
 ·rw [if_neg c3] at H
  obtain ⟨L, M⟩ := bn_ c3
  exact absurd H (by simp)

end Go.Proofs.YtpjhdehbikohmaaGreat.PFnExactPlanOf
