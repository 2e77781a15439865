-- Written by a program of this session for this claim (the kit's printer with changes).
import Derived.Test.YtcjfalmhohcifaaQFnExactSureSharex0
namespace Go.Proofs.Ytcjfalmhohcifaa.PFnExactSureShare
open Go.RowKit Go.Proofs.YtcjfalmhohcifaaW.PrintWords Go.Proofs.YtcjfalmhohcifaaW.PrintLast Go.Proofs.YtcjfalmhohcifaaW.PrintMore
attribute [local go_sem] max2_int min2_int max_two min_two max_three min_three max_four min_four   -- for this text's walks alone
set_option linter.unusedVariables false
set_option linter.unusedSimpArgs false

/-! ### laws_szSatS: function 40 -/
def laws_szSatS.f (l0 : List (S107)) (a1 : Int) : Option (Int) := if (wrap64 (a1 - (l0.length : Int))) < 0 then (some (-1)) else (some (wrap64 (a1 - (l0.length : Int))))
set_option maxHeartbeats 8000000 in
set_option maxRecDepth 100000 in
theorem laws_szSatS.calls (A0 : Option Addr) (c0 : Nat) (l0 : List (S107)) (a1 : Int) (r : Int) (w : World) (hr0 : Kd.C k107 w A0 l0.length l0) (hc0 : l0.length ≤ c0) (h : laws_szSatS.f l0 a1 = some r) :
  Calls Try.prog 40 #[.slice A0 l0.length c0, .int .i64 a1] w fun e w' => e = .returned (.int .i64 r) ∧ Drawn0 w w' := by
 have HR0 := Aside0.mk hr0
 have HC0 := Aside0.mk hc0
 clear hr0 hc0
 have H := h
 clear h
 unfold laws_szSatS.f at H
 by_cases c3 : (wrap64 (a1 - (l0.length : Int))) < 0
 ·rw [if_pos c3] at H
  have c3b0 := decide_eq_true c3
  clear c3
  obtain rfl := Option.some.inj H
  go_enter Try.func40, Try.ntmps40
  go_wp2
  go_ret
  exact ⟨by first | rfl | (simp; done) | (simp [*]; done), by repeat (first | exact Drawn0.refl _ | apply Drawn0.step)⟩
 ·rw [if_neg c3] at H
  have c3b0 := decide_eq_false c3
  clear c3
  obtain rfl := Option.some.inj H
  go_enter Try.func40, Try.ntmps40
  go_wp2
  go_ret
  exact ⟨by first | rfl | (simp; done) | (simp [*]; done), by repeat (first | exact Drawn0.refl _ | apply Drawn0.step)⟩

/-! ### laws_szSiteS: function 41 -/
def laws_szSiteS.f (l0 : List (S111)) (a1 : Int) : Option (Int) := if (wrap64 (a1 - (l0.length : Int))) < 0 then (some (-1)) else (some (wrap64 (a1 - (l0.length : Int))))
set_option maxHeartbeats 8000000 in
set_option maxRecDepth 100000 in
theorem laws_szSiteS.calls (A0 : Option Addr) (c0 : Nat) (l0 : List (S111)) (a1 : Int) (r : Int) (w : World) (hr0 : Kd.C k111 w A0 l0.length l0) (hc0 : l0.length ≤ c0) (h : laws_szSiteS.f l0 a1 = some r) :
  Calls Try.prog 41 #[.slice A0 l0.length c0, .int .i64 a1] w fun e w' => e = .returned (.int .i64 r) ∧ Drawn0 w w' := by
 have HR0 := Aside0.mk hr0
 have HC0 := Aside0.mk hc0
 clear hr0 hc0
 have H := h
 clear h
 unfold laws_szSiteS.f at H
 by_cases c3 : (wrap64 (a1 - (l0.length : Int))) < 0
 ·rw [if_pos c3] at H
  have c3b0 := decide_eq_true c3
  clear c3
  obtain rfl := Option.some.inj H
  go_enter Try.func41, Try.ntmps41
  go_wp2
  go_ret
  exact ⟨by first | rfl | (simp; done) | (simp [*]; done), by repeat (first | exact Drawn0.refl _ | apply Drawn0.step)⟩
 ·rw [if_neg c3] at H
  have c3b0 := decide_eq_false c3
  clear c3
  obtain rfl := Option.some.inj H
  go_enter Try.func41, Try.ntmps41
  go_wp2
  go_ret
  exact ⟨by first | rfl | (simp; done) | (simp [*]; done), by repeat (first | exact Drawn0.refl _ | apply Drawn0.step)⟩

/-! ### laws_szZoneS: function 42 -/
def laws_szZoneS.f (l0 : List (S119)) (a1 : Int) : Option (Int) := if (wrap64 (a1 - (l0.length : Int))) < 0 then (some (-1)) else (some (wrap64 (a1 - (l0.length : Int))))
set_option maxHeartbeats 8000000 in
set_option maxRecDepth 100000 in
theorem laws_szZoneS.calls (A0 : Option Addr) (c0 : Nat) (l0 : List (S119)) (a1 : Int) (r : Int) (w : World) (hr0 : Kd.C k119 w A0 l0.length l0) (hc0 : l0.length ≤ c0) (h : laws_szZoneS.f l0 a1 = some r) :
  Calls Try.prog 42 #[.slice A0 l0.length c0, .int .i64 a1] w fun e w' => e = .returned (.int .i64 r) ∧ Drawn0 w w' := by
 have HR0 := Aside0.mk hr0
 have HC0 := Aside0.mk hc0
 clear hr0 hc0
 have H := h
 clear h
 unfold laws_szZoneS.f at H
 by_cases c3 : (wrap64 (a1 - (l0.length : Int))) < 0
 ·rw [if_pos c3] at H
  have c3b0 := decide_eq_true c3
  clear c3
  obtain rfl := Option.some.inj H
  go_enter Try.func42, Try.ntmps42
  go_wp2
  go_ret
  exact ⟨by first | rfl | (simp; done) | (simp [*]; done), by repeat (first | exact Drawn0.refl _ | apply Drawn0.step)⟩
 ·rw [if_neg c3] at H
  have c3b0 := decide_eq_false c3
  clear c3
  obtain rfl := Option.some.inj H
  go_enter Try.func42, Try.ntmps42
  go_wp2
  go_ret
  exact ⟨by first | rfl | (simp; done) | (simp [*]; done), by repeat (first | exact Drawn0.refl _ | apply Drawn0.step)⟩

/-! ### laws_szSky: function 9 -/
def laws_szSky.f (a0_0 : Int) (l0_1 : List (S107)) (l0_2 : List (S111)) (a0_3 : Int) (a0_4 : Int) (a0_5 : Int) (a0_6 : Int) (a0_7 : Int) (l0_8 : List (S119)) (a0_9 : Int) (a1 : Int) : Option (Int) := (laws_szSatS.f l0_1 a1).bind fun t102 => (if t102 < 0 then (some (-1)) else ((laws_szSiteS.f l0_2 t102).bind fun t103 => (if t103 < 0 then (some (-1)) else ((laws_szZoneS.f l0_8 t103).bind fun t104 => (if t104 < 0 then (some (-1)) else (some t104))))))
set_option maxHeartbeats 8000000 in
set_option maxRecDepth 100000 in
theorem laws_szSky.calls (a0_0 : Int) (A0_1 : Option Addr) (c0_1 : Nat) (l0_1 : List (S107)) (A0_2 : Option Addr) (c0_2 : Nat) (l0_2 : List (S111)) (a0_3 : Int) (a0_4 : Int) (a0_5 : Int) (a0_6 : Int) (a0_7 : Int) (A0_8 : Option Addr) (c0_8 : Nat) (l0_8 : List (S119)) (a0_9 : Int) (a1 : Int) (r : Int) (w : World) (hr0_1 : Kd.C k107 w A0_1 l0_1.length l0_1) (hc0_1 : l0_1.length ≤ c0_1) (hr0_2 : Kd.C k111 w A0_2 l0_2.length l0_2) (hc0_2 : l0_2.length ≤ c0_2) (hr0_8 : Kd.C k119 w A0_8 l0_8.length l0_8) (hc0_8 : l0_8.length ≤ c0_8) (h : laws_szSky.f a0_0 l0_1 l0_2 a0_3 a0_4 a0_5 a0_6 a0_7 l0_8 a0_9 a1 = some r) :
  Calls Try.prog 9 #[.agg #[.int .i64 a0_0, .slice A0_1 l0_1.length c0_1, .slice A0_2 l0_2.length c0_2, .int .i64 a0_3, .int .i64 a0_4, .int .i64 a0_5, .int .i64 a0_6, .int .i64 a0_7, .slice A0_8 l0_8.length c0_8, .int .i64 a0_9], .int .i64 a1] w fun e w' => e = .returned (.int .i64 r) ∧ Below w.heap.size w w' := by
 have hu26 := Try.underlying26
 have HR0_1 := Aside0.mk hr0_1
 have HC0_1 := Aside0.mk hc0_1
 clear hr0_1 hc0_1
 have HR0_2 := Aside0.mk hr0_2
 have HC0_2 := Aside0.mk hc0_2
 clear hr0_2 hc0_2
 have HR0_8 := Aside0.mk hr0_8
 have HC0_8 := Aside0.mk hc0_8
 clear hr0_8 hc0_8
 have HB := Aside0.mk (Below.refl w.heap.size w)
 have H := h
 clear h
 unfold laws_szSky.f at H
 replace H := bs_ H
 obtain ⟨t102, A3, H⟩ := H
 by_cases c4 : t102 < 0
 ·rw [if_pos c4] at H
  have c4b0 := decide_eq_true c4
  clear c4
  obtain rfl := Option.some.inj H
  go_enter Try.func9, Try.ntmps9
  go_wp2_with (first | ((with_reducible refine gd_ 2 ?_); refine bx_ 2 26 #[.int .i64 a0_0, .slice A0_1 l0_1.length c0_1, .slice A0_2 l0_2.length c0_2, .int .i64 a0_3, .int .i64 a0_4, .int .i64 a0_5, .int .i64 a0_6, .int .i64 a0_7, .slice A0_8 l0_8.length c0_8, .int .i64 a0_9] ?_; intro gb101 hg w5 hbox hb; refine sh4_ (below_step (bl_ HB) hb) hbox (ge_ hg (bl_ HB)) (ge_ hg (bl_ HB)) ?_; clear HB hb hbox hg; intro HB BK101 GW101 GE101; have hcz6 := cf10_ BK101) | ((with_reducible refine gate_callee (f := 40) rfl ?_); refine gl_ 8 Try.func40 (laws_szSatS.calls _ _ l0_1 a1 t102 _ (ck_ HR0_1 HB) HC0_1.out A3.out) ?_; rintro e w' ⟨rfl, ⟨nd, rfl⟩⟩; refine ⟨_, rfl, ?_⟩))
  go_ret
  exact ⟨er_, bl1_ HB GE101⟩
 ·rw [if_neg c4] at H
  have c4b0 := decide_eq_false c4
  clear c4
  replace H := bs_ H
  obtain ⟨t103, A7, H⟩ := H
  by_cases c8 : t103 < 0
  ·rw [if_pos c8] at H
   have c8b0 := decide_eq_true c8
   clear c8
   obtain rfl := Option.some.inj H
   go_enter Try.func9, Try.ntmps9
   go_wp2_with (first | ((with_reducible refine gd_ 2 ?_); refine bx_ 2 26 #[.int .i64 a0_0, .slice A0_1 l0_1.length c0_1, .slice A0_2 l0_2.length c0_2, .int .i64 a0_3, .int .i64 a0_4, .int .i64 a0_5, .int .i64 a0_6, .int .i64 a0_7, .slice A0_8 l0_8.length c0_8, .int .i64 a0_9] ?_; intro gb101 hg w9 hbox hb; refine sh4_ (below_step (bl_ HB) hb) hbox (ge_ hg (bl_ HB)) (ge_ hg (bl_ HB)) ?_; clear HB hb hbox hg; intro HB BK101 GW101 GE101; have hcz10 := cf10_ BK101) | ((with_reducible refine gate_callee (f := 40) rfl ?_); refine gl_ 8 Try.func40 (laws_szSatS.calls _ _ l0_1 a1 t102 _ (ck_ HR0_1 HB) HC0_1.out A3.out) ?_; rintro e w' ⟨rfl, ⟨nd, rfl⟩⟩; refine ⟨_, rfl, ?_⟩) | ((with_reducible refine gate_callee (f := 41) rfl ?_); refine goesL_ (some 14) rfl rfl Try.func41 (by kernel_rfl) rfl #[.slice A0_2 l0_2.length c0_2, .int .i64 t102] rfl mp_ ?_; (with_reducible refine (laws_szSiteS.calls _ _ l0_2 t102 t103 _ ?side1 ?side2 A7.out).mono ?_); (case side1 => repeat (first | exact (Kd.C_below HR0_2.out (bl1_ HB GE101)) | (with_reducible refine Kd.C_alloc ?_ _) | (with_reducible refine Kd.C_drewN ?_ _) | (with_reducible refine Kd.C_drew ?_))); (case side2 => exact HC0_2.out); rintro e w' ⟨rfl, ⟨nd, rfl⟩⟩; refine ⟨_, rfl, ?_⟩))
   go_ret
   exact ⟨er_, bl1_ HB GE101⟩
  ·rw [if_neg c8] at H
   have c8b0 := decide_eq_false c8
   clear c8
   replace H := bs_ H
   obtain ⟨t104, A11, H⟩ := H
   by_cases c12 : t104 < 0
   ·rw [if_pos c12] at H
    have c12b0 := decide_eq_true c12
    clear c12
    obtain rfl := Option.some.inj H
    go_enter Try.func9, Try.ntmps9
    go_wp2_with (first | ((with_reducible refine gd_ 2 ?_); refine bx_ 2 26 #[.int .i64 a0_0, .slice A0_1 l0_1.length c0_1, .slice A0_2 l0_2.length c0_2, .int .i64 a0_3, .int .i64 a0_4, .int .i64 a0_5, .int .i64 a0_6, .int .i64 a0_7, .slice A0_8 l0_8.length c0_8, .int .i64 a0_9] ?_; intro gb101 hg w13 hbox hb; refine sh4_ (below_step (bl_ HB) hb) hbox (ge_ hg (bl_ HB)) (ge_ hg (bl_ HB)) ?_; clear HB hb hbox hg; intro HB BK101 GW101 GE101; have hcz14 := cf10_ BK101) | ((with_reducible refine gate_callee (f := 40) rfl ?_); refine gl_ 8 Try.func40 (laws_szSatS.calls _ _ l0_1 a1 t102 _ (ck_ HR0_1 HB) HC0_1.out A3.out) ?_; rintro e w' ⟨rfl, ⟨nd, rfl⟩⟩; refine ⟨_, rfl, ?_⟩) | ((with_reducible refine gate_callee (f := 41) rfl ?_); refine goesL_ (some 14) rfl rfl Try.func41 (by kernel_rfl) rfl #[.slice A0_2 l0_2.length c0_2, .int .i64 t102] rfl mp_ ?_; (with_reducible refine (laws_szSiteS.calls _ _ l0_2 t102 t103 _ ?side1 ?side2 A7.out).mono ?_); (case side1 => repeat (first | exact (Kd.C_below HR0_2.out (bl1_ HB GE101)) | (with_reducible refine Kd.C_alloc ?_ _) | (with_reducible refine Kd.C_drewN ?_ _) | (with_reducible refine Kd.C_drew ?_))); (case side2 => exact HC0_2.out); rintro e w' ⟨rfl, ⟨nd, rfl⟩⟩; refine ⟨_, rfl, ?_⟩) | ((with_reducible refine gate_callee (f := 42) rfl ?_); refine goesL_ (some 20) rfl rfl Try.func42 (by kernel_rfl) rfl #[.slice A0_8 l0_8.length c0_8, .int .i64 t103] rfl mp_ ?_; (with_reducible refine (laws_szZoneS.calls _ _ l0_8 t103 t104 _ ?side1 ?side2 A11.out).mono ?_); (case side1 => repeat (first | exact (Kd.C_below HR0_8.out (bl1_ HB GE101)) | (with_reducible refine Kd.C_alloc ?_ _) | (with_reducible refine Kd.C_drewN ?_ _) | (with_reducible refine Kd.C_drew ?_))); (case side2 => exact HC0_8.out); rintro e w' ⟨rfl, ⟨nd, rfl⟩⟩; refine ⟨_, rfl, ?_⟩))
    go_ret
    exact ⟨er_, bl1_ HB GE101⟩
   ·rw [if_neg c12] at H
    have c12b0 := decide_eq_false c12
    clear c12
    obtain rfl := Option.some.inj H
    go_enter Try.func9, Try.ntmps9
    go_wp2_with (first | ((with_reducible refine gd_ 2 ?_); refine bx_ 2 26 #[.int .i64 a0_0, .slice A0_1 l0_1.length c0_1, .slice A0_2 l0_2.length c0_2, .int .i64 a0_3, .int .i64 a0_4, .int .i64 a0_5, .int .i64 a0_6, .int .i64 a0_7, .slice A0_8 l0_8.length c0_8, .int .i64 a0_9] ?_; intro gb101 hg w15 hbox hb; refine sh4_ (below_step (bl_ HB) hb) hbox (ge_ hg (bl_ HB)) (ge_ hg (bl_ HB)) ?_; clear HB hb hbox hg; intro HB BK101 GW101 GE101; have hcz16 := cf10_ BK101) | ((with_reducible refine gate_callee (f := 40) rfl ?_); refine gl_ 8 Try.func40 (laws_szSatS.calls _ _ l0_1 a1 t102 _ (ck_ HR0_1 HB) HC0_1.out A3.out) ?_; rintro e w' ⟨rfl, ⟨nd, rfl⟩⟩; refine ⟨_, rfl, ?_⟩) | ((with_reducible refine gate_callee (f := 41) rfl ?_); refine goesL_ (some 14) rfl rfl Try.func41 (by kernel_rfl) rfl #[.slice A0_2 l0_2.length c0_2, .int .i64 t102] rfl mp_ ?_; (with_reducible refine (laws_szSiteS.calls _ _ l0_2 t102 t103 _ ?side1 ?side2 A7.out).mono ?_); (case side1 => repeat (first | exact (Kd.C_below HR0_2.out (bl1_ HB GE101)) | (with_reducible refine Kd.C_alloc ?_ _) | (with_reducible refine Kd.C_drewN ?_ _) | (with_reducible refine Kd.C_drew ?_))); (case side2 => exact HC0_2.out); rintro e w' ⟨rfl, ⟨nd, rfl⟩⟩; refine ⟨_, rfl, ?_⟩) | ((with_reducible refine gate_callee (f := 42) rfl ?_); refine goesL_ (some 20) rfl rfl Try.func42 (by kernel_rfl) rfl #[.slice A0_8 l0_8.length c0_8, .int .i64 t103] rfl mp_ ?_; (with_reducible refine (laws_szZoneS.calls _ _ l0_8 t103 t104 _ ?side1 ?side2 A11.out).mono ?_); (case side1 => repeat (first | exact (Kd.C_below HR0_8.out (bl1_ HB GE101)) | (with_reducible refine Kd.C_alloc ?_ _) | (with_reducible refine Kd.C_drewN ?_ _) | (with_reducible refine Kd.C_drew ?_))); (case side2 => exact HC0_8.out); rintro e w' ⟨rfl, ⟨nd, rfl⟩⟩; refine ⟨_, rfl, ?_⟩))
    go_ret
    exact ⟨er_, bl1_ HB GE101⟩

/-! ### laws_toSat: function 82 -/
def laws_toSat.f (a0_0 : Int) (a0_1 : Int) (a0_2 : Int) (a0_3 : Int) : Option (Int × Int × Int × Int) := some (a0_0, a0_1, a0_2, a0_3)
set_option maxHeartbeats 8000000 in
set_option maxRecDepth 100000 in
theorem laws_toSat.calls (a0_0 : Int) (a0_1 : Int) (a0_2 : Int) (a0_3 : Int) (r1 : Int) (r2 : Int) (r3 : Int) (r4 : Int) (w : World) (h : laws_toSat.f a0_0 a0_1 a0_2 a0_3 = some (r1, r2, r3, r4)) :
  Calls Try.prog 82 #[.agg #[.int .i64 a0_0, .int .i64 a0_1, .int .i64 a0_2, .int .i64 a0_3]] w fun e w' => e = .returned (.agg #[.int .i64 r1, .int .i64 r2, .int .i64 r3, .int .i64 r4]) ∧ Below w.heap.size w w' := by
 have hu107 := Try.underlying107
 have hu105 := Try.underlying105
 have HB := Aside0.mk (Below.refl w.heap.size w)
 have H := h
 clear h
 unfold laws_toSat.f at H
 simp only [Option.some.injEq, Prod.mk.injEq] at H
 obtain ⟨rfl, rfl, rfl, rfl⟩ := H
 go_enter Try.func82, Try.ntmps82
 go_wp2_with (first | ((with_reducible refine gd_ 1 ?_); refine bx_ 1 107 #[.int .i64 a0_0, .int .i64 a0_1, .int .i64 a0_2, .int .i64 a0_3] ?_; intro gb105 hg w2 hbox hb; refine sh4_ (below_step (bl_ HB) hb) hbox (ge_ hg (bl_ HB)) (ge_ hg (bl_ HB)) ?_; clear HB hb hbox hg; intro HB BK105 GW105 GE105) | ((with_reducible refine gd_ 2 ?_); refine bx_ 2 105 #[.int .i64 0, .int .i64 0, .int .i64 0, .int .i64 0] ?_; intro gb106 hg w3 hbox hb; refine sh7_ (blk_below (bk_ BK105) hb) (below_step (bl1_ HB GE105) hb) hbox (ge_ hg (bl1_ HB GE105)) (ge_ hg (bl1_ HB GE105)) (nl_ hg (bk_ BK105)) (ng_ hg (bk_ BK105)) ?_; clear BK105 HB hb hbox hg; intro BK105 HB BK106 GW106 GE106 NB105_106 NB106_105) | ((with_reducible refine gd_ 3 ?_); refine bx_ 3 105 #[.int .i64 0, .int .i64 0, .int .i64 0, .int .i64 0] ?_; intro gb107 hg w4 hbox hb; refine sh10_ (blk_below (bk_ BK105) hb) (blk_below (bk_ BK106) hb) (below_step (bl2_ HB GE105 GE106) hb) hbox (ge_ hg (bl2_ HB GE105 GE106)) (ge_ hg (bl2_ HB GE105 GE106)) (nl_ hg (bk_ BK105)) (ng_ hg (bk_ BK105)) (nl_ hg (bk_ BK106)) (ng_ hg (bk_ BK106)) ?_; clear BK105 BK106 HB hb hbox hg; intro BK105 BK106 HB BK107 GW107 GE107 NB105_107 NB107_105 NB106_107 NB107_106; have hnb5 := NB105_106.out; have hnc5 := NB106_105.out; have hnb6 := NB105_107.out; have hnc6 := NB107_105.out; have hcz7 := cf4_ BK105; have hnb8 := NB107_106.out; have hnc8 := NB106_107.out; have hcz9 := cf4_ BK107; have hcz10 := cf4_ BK106))
 refine bodyPost_ret (results_cell_row rfl _ _ gb106 105 #[.int .i64 a0_0, .int .i64 a0_1, .int .i64 a0_2, .int .i64 a0_3] (0, 0) _ rfl (by (with_reducible repeat (first | refine blk_drewN ?_ _ | refine blk_drew ?_ | refine blk_alloc ?_ _)); refine blk_put (cs := #[.int .i64 a0_0, .int .i64 a0_1, .int .i64 a0_2, .int .i64 0]) ?_ 3 _ rfl; (with_reducible repeat (first | refine blk_drewN ?_ _ | refine blk_drew ?_ | refine blk_alloc ?_ _)); refine blk_put (cs := #[.int .i64 a0_0, .int .i64 a0_1, .int .i64 0, .int .i64 0]) ?_ 2 _ rfl; (with_reducible repeat (first | refine blk_drewN ?_ _ | refine blk_drew ?_ | refine blk_alloc ?_ _)); refine blk_put (cs := #[.int .i64 a0_0, .int .i64 0, .int .i64 0, .int .i64 0]) ?_ 1 _ rfl; (with_reducible repeat (first | refine blk_drewN ?_ _ | refine blk_drew ?_ | refine blk_alloc ?_ _)); refine blk_put (cs := #[.int .i64 0, .int .i64 0, .int .i64 0, .int .i64 0]) ?_ 0 _ rfl; (with_reducible repeat (first | refine blk_drewN ?_ _ | refine blk_drew ?_ | refine blk_alloc ?_ _)); refine blk_far ?_ NB106_107.out _; (with_reducible repeat (first | refine blk_drewN ?_ _ | refine blk_drew ?_ | refine blk_alloc ?_ _)); refine blk_far ?_ NB106_107.out _; (with_reducible repeat (first | refine blk_drewN ?_ _ | refine blk_drew ?_ | refine blk_alloc ?_ _)); refine blk_far ?_ NB106_107.out _; (with_reducible repeat (first | refine blk_drewN ?_ _ | refine blk_drew ?_ | refine blk_alloc ?_ _)); refine blk_far ?_ NB106_107.out _; (with_reducible repeat (first | refine blk_drewN ?_ _ | refine blk_drew ?_ | refine blk_alloc ?_ _)); exact BK106.out) Try.underlying105 rfl (by kernel_rfl)) rfl ?_
 exact ⟨er_, bl3_ HB GE105 GE106 GE107⟩

/-! ### laws_toSatS: function 45 -/
def laws_toSatS.l0 : Nat → List (S107) → List (S105) → Int → Option ((List (S105)))
 | 0, _, _, _ => none
 | k + 1, x0, x3, x4 => if x4 < (x0.length : Int) then (if 0 ≤ x4 then ((laws_toSat.f ((rd_T107 x0 x4).f0) ((rd_T107 x0 x4).f1) ((rd_T107 x0 x4).f2) ((rd_T107 x0 x4).f3)).bind fun bt112 => (if x4 < (x3.length : Int) then (laws_toSatS.l0 k x0 (x3.set (x4 : Int).toNat (⟨bt112.1, bt112.2.1, bt112.2.2.1, bt112.2.2.2⟩ : S105)) (wrap64 (x4 + 1))) else (none))) else (none)) else (some x3)
def laws_toSatS.f (k : Nat) (l0 : List (S107)) : Option ((List (S105))) := if 0 ≤ (l0.length : Int) then (if ((l0.length : Int) : Int).toNat ≤ 8796093022208 then (laws_toSatS.l0 k l0 (List.replicate ((l0.length : Int) : Int).toNat z105) 0) else (none)) else (none)
theorem laws_toSatS.mono_l : ∀ k, (∀ y0 y1 y2, LeO (laws_toSatS.l0 k y0 y1 y2) (laws_toSatS.l0 (k + 1) y0 y1 y2))
 | 0 => fun _ _ _ r h => by simp [laws_toSatS.l0] at h
 | k + 1 => by
  have ih0 := laws_toSatS.mono_l k
  ·intro y0 y1 y2
   unfold laws_toSatS.l0
   repeat' first | (with_reducible first | exact ih0 _ _ _ | exact LeO.refl _ | exact LeO.none _ | refine LeO.ite ?_ ?_ | refine LeO.bind ?_ (fun _ => ?_)) | exact LeO.none _ | refine LeO.ite ?_ ?_ | refine LeO.bind ?_ (fun _ => ?_)
theorem laws_toSatS.mono : ∀ a0 k, LeO (laws_toSatS.f k a0) (laws_toSatS.f (k + 1) a0) := by
 intro a0 k
 have ih0 := laws_toSatS.mono_l k
 unfold laws_toSatS.f
 repeat' first | (with_reducible first | exact ih0 _ _ _ | exact LeO.refl _ | exact LeO.none _ | refine LeO.ite ?_ ?_ | refine LeO.bind ?_ (fun _ => ?_)) | exact LeO.none _ | refine LeO.ite ?_ ?_ | refine LeO.bind ?_ (fun _ => ?_)
set_option maxHeartbeats 8000000 in
set_option maxRecDepth 100000 in
theorem laws_toSatS.calls (k : Nat) (A0 : Option Addr) (c0 : Nat) (l0 : List (S107)) (r : List (S105)) (w : World) (hr0 : Kd.C k107 w A0 l0.length l0) (hc0 : l0.length ≤ c0) (h : laws_toSatS.f k l0 = some r) :
  Calls Try.prog 45 #[.slice A0 l0.length c0] w fun e w' => ∃ v0_ : Value, e = .returned (v0_) ∧ Kd.R k105 105 w' w.heap.size (fun _ => True) v0_ r ∧ Below w.heap.size w w' := by
 have hu107 := Try.underlying107
 have hu105 := Try.underlying105
 have HR0 := Aside0.mk hr0
 have HC0 := Aside0.mk hc0
 clear hr0 hc0
 have HB := Aside0.mk (Below.refl w.heap.size w)
 have H := h
 clear h
 unfold laws_toSatS.f at H
 replace H := ifn_ H
 obtain ⟨c2, H⟩ := H
 have c2b0 := eq_true c2
 have c2b1 := decide_eq_true c2
 clear c2
 replace H := ifn_ H
 obtain ⟨c3, H⟩ := H
 have c3b0 := eq_true c3
 have c3b1 := decide_eq_true c3
 clear c3
 replace H : ∃ y_ : List (S105), Aside0 (y_ = (List.replicate ((l0.length : Int) : Int).toNat z105)) ∧ (laws_toSatS.l0 k l0 y_ 0) = some r := ⟨_, ⟨rfl⟩, yh_ H⟩
 obtain ⟨y108, Ny108, H⟩ := H
 have H' := Aside0.mk H
 clear H
 go_enter Try.func45, Try.ntmps45
 go_wp2_with (first | ((with_reducible refine gate_dst (N := 7) rfl ?_); refine Kd.R_make k105 _ 105 rfl (N := 7) rfl 30 _ _ rfl (l0.length : Int) rfl rfl Try.underlying30 (.agg #[(.int .i64 0), (.int .i64 0), (.int .i64 0), (.int .i64 0)]) 32 info105 rfl (by decide) (by omega) z105 (ok := fun _ => True) (okp := fun _ => True) (k105_mkM _ _ _ z105 ) (fun _ hk => hk) trivial od_ (Nat.le_trans (Nat.mul_le_mul_right _ (od_ : (l0.length : Int).toNat ≤ 8796093022208)) (by omega)) (Below.refl _ _) (Nat.le_refl _) ?_; intro v109 w4 ho5 hb hg_ hnew_; clear hg_ hnew_; (first | rw [← Ny108.out] at ho5 | (simp only [Int.reduceToNat] at ho5; rw [← Ny108.out] at ho5)); refine sh2_ (Kd.R_lower ho5 (below_size (bl_ HB))) (below_step (bl_ HB) hb) ?_; clear HB hb ho5; intro HO110 HB))
 go_loopg [4] k (fun kq v4 w' => ∃ (x3_1 : List (S105)) (x4_1 : Int), v4 = .int .i64 x4_1 ∧ Aside0 (laws_toSatS.l0 kq l0 x3_1 x4_1 = some r) ∧ Aside0 (kq ≤ k) ∧ Aside0 (Kd.R k105 105 w' w.heap.size (fun _ => True) v109 x3_1) ∧ Aside0 (Below w.heap.size w w'))
 case atStart => exact ⟨(y108), (0), (by first | rfl | (simp; done) | (simp [*]; done)), H', ⟨Nat.le_refl _⟩, ⟨ra_ HO110⟩, ⟨bl_ HB⟩⟩
 case round =>
  clear H'
  try clear c2
  try clear c2b0
  try clear c2b1
  try clear p2
  try clear c3
  try clear c3b0
  try clear c3b1
  try clear c4
  obtain ⟨x3_1, x4_1, rfl, HA, HK1, HO_3, HB⟩ := hrel
  cases gk with
  | zero => exact absurd HA.out (by simp [laws_toSatS.l0])
  | succ k1 =>
   have H := HA.out
   clear HA
   simp only [laws_toSatS.l0] at H
   by_cases c6 : x4_1 < (l0.length : Int)
   ·rw [if_pos c6] at H
    have c6b0 := decide_eq_true c6
    clear c6
    replace H := ifn_ H
    obtain ⟨c7, H⟩ := H
    have c7b0 := decide_eq_true c7
    clear c7
    replace H := bs_ H
    obtain ⟨⟨t112, t113, t114, t115⟩, A8, H⟩ := H
    dsimp only at H
    replace H := ifn_ H
    obtain ⟨c9, H⟩ := H
    have c9b0 := decide_eq_true c9
    clear c9
    replace H : ∃ y_ : List (S105), Aside0 (y_ = (x3_1.set (x4_1 : Int).toNat (⟨t112, t113, t114, t115⟩ : S105))) ∧ (laws_toSatS.l0 k1 l0 y_ (wrap64 (x4_1 + 1))) = some r := ⟨_, ⟨rfl⟩, yh_ H⟩
    obtain ⟨y116, Ny116, H⟩ := H
    have H' := Aside0.mk H
    clear H
    have p111 : 0 ≤ (x4_1 : Int) := od_
    have q111 : x4_1 < (l0.length : Int) := od_
    obtain ⟨ad111, e111, hx111_0, hx111_1, hx111_2, hx111_3⟩ := at_T107 HR0.out x4_1 p111 q111
    cases e111
    replace hx111_0 := hbc_ HB hx111_0
    replace hx111_1 := hbc_ HB hx111_1
    replace hx111_2 := hbc_ HB hx111_2
    replace hx111_3 := hbc_ HB hx111_3
    replace p111 := eq_true p111
    replace q111 := eq_true q111
    go_wp2_with (first | ((with_reducible refine gate_callee (f := 82) rfl ?_); refine gl_ 20 Try.func82 (laws_toSat.calls ((rd_T107 l0 x4_1).f0) ((rd_T107 l0 x4_1).f1) ((rd_T107 l0 x4_1).f2) ((rd_T107 l0 x4_1).f3) t112 t113 t114 t115 _ A8.out) ?_; rintro e w11 ⟨rfl, hb⟩; refine ⟨_, rfl, sh2_ (Kd.R_below (ra_ HO_3) hb) (below_step (bl_ HB) hb) ?_⟩; clear HO_3 HB hb; intro HO_3 HB; have p10 : 0 ≤ (x4_1 : Int) := od_; have q10 : (x4_1 : Int) < ((x3_1.length : Int) : Int) := od_; obtain ⟨go10, co10, eo10, gb10, gl10, cl10, HG10⟩ := Kd.R_form HO_3.out (by omega); (first | cases eo10 | (injection eo10 with ea_ en_ ec_; (first | subst ea_ | (injection ea_ with ea_; subst ea_)); subst ec_; clear en_)); have GB10 := Aside0.mk gb10; have GG10 := Aside0.mk HG10; clear gb10 gl10 HG10; obtain ⟨ce10, hcl10, hM10, hcc10, hfr10⟩ := Kd.R_elem HO_3.out z105 (x4_1 : Int) p10 q10; obtain rfl := k105_openM hM10; have hx10_0 : w11.cell? ⟨go10, (x4_1 : Int).toNat * 4, none⟩ = some (.int .i64 ((rd_T105 x3_1 x4_1).f0)) := hcc10 0 _ rfl; have hx10_1 : w11.cell? ⟨go10, (x4_1 : Int).toNat * 4 + 1, none⟩ = some (.int .i64 ((rd_T105 x3_1 x4_1).f1)) := hcc10 1 _ rfl; have hx10_2 : w11.cell? ⟨go10, (x4_1 : Int).toNat * 4 + 2, none⟩ = some (.int .i64 ((rd_T105 x3_1 x4_1).f2)) := hcc10 2 _ rfl; have hx10_3 : w11.cell? ⟨go10, (x4_1 : Int).toNat * 4 + 3, none⟩ = some (.int .i64 ((rd_T105 x3_1 x4_1).f3)) := hcc10 3 _ rfl; have hf10_0 : w11.frozen? ⟨go10, (x4_1 : Int).toNat * 4, none⟩ = false := hfr10 0; have hf10_1 : w11.frozen? ⟨go10, (x4_1 : Int).toNat * 4 + 1, none⟩ = false := hfr10 1; have hf10_2 : w11.frozen? ⟨go10, (x4_1 : Int).toNat * 4 + 2, none⟩ = false := hfr10 2; have hf10_3 : w11.frozen? ⟨go10, (x4_1 : Int).toNat * 4 + 3, none⟩ = false := hfr10 3; clear hcl10 hcc10 hfr10 hM10; replace p10 := eq_true p10; replace q10 := eq_true q10; have HX12 := Aside0.mk (show Kd.R k105 105 w11 w.heap.size (fun _ => True) (.slice (some ⟨go10, 0, none⟩) x3_1.length co10) x3_1 from (ra_ HO_3)); obtain ⟨ce12, hcl12, hM12, hcc12, hfr12⟩ := Kd.R_elem HX12.out z105 (x4_1 : Int) od_ (by have h_ : (x4_1 : Int) < ((x3_1.length : Int) : Int) := od_; first | exact h_ | (have e_ := (Kd.R_reads' HO_3.out).1; omega) | simpa using h_); obtain rfl := k105_openM hM12; have HP12 := Kd.R_seg HX12.out (x4_1 : Int) od_ (by have h_ : (x4_1 : Int) < ((x3_1.length : Int) : Int) := od_; first | exact h_ | (have e_ := (Kd.R_reads' HO_3.out).1; omega) | simpa using h_) (seg := [.int .i64 t112, .int .i64 t113, .int .i64 t114, .int .i64 t115]) (j := 0) hcl12 hcc12 (show 4 ≤ 4 from by decide) (x' := (⟨t112, t113, t114, t115⟩ : S105)) (k105_mkM _ _ _ (⟨t112, t113, t114, t115⟩ : S105) ) (fun _ hk => hk); have hx12_0 := hcc12 0 _ rfl; (try simp only [show (k105).sz = 4 from rfl, Nat.mul_one, Nat.add_zero] at hx12_0); have hf12_0 := hfr12 0; (try simp only [show (k105).sz = 4 from rfl, Nat.mul_one, Nat.add_zero] at hf12_0); have hx12_1 := hcc12 1 _ rfl; (try simp only [show (k105).sz = 4 from rfl, Nat.mul_one, Nat.add_zero] at hx12_1); have hf12_1 := hfr12 1; (try simp only [show (k105).sz = 4 from rfl, Nat.mul_one, Nat.add_zero] at hf12_1); have hx12_2 := hcc12 2 _ rfl; (try simp only [show (k105).sz = 4 from rfl, Nat.mul_one, Nat.add_zero] at hx12_2); have hf12_2 := hfr12 2; (try simp only [show (k105).sz = 4 from rfl, Nat.mul_one, Nat.add_zero] at hf12_2); have hx12_3 := hcc12 3 _ rfl; (try simp only [show (k105).sz = 4 from rfl, Nat.mul_one, Nat.add_zero] at hx12_3); have hf12_3 := hfr12 3; (try simp only [show (k105).sz = 4 from rfl, Nat.mul_one, Nat.add_zero] at hf12_3); clear hcl12 hcc12 hfr12 hM12) | ((with_reducible refine gate_store (t := 105) (p := 21) rfl ?_); refine store_event (t := 105) (p := 21) (v := ?vo_w13) (w1 := ((((w11.setCell ⟨go10, (x4_1 : Int).toNat * 4, none⟩ (.int .i64 t112)).setCell ⟨go10, (x4_1 : Int).toNat * 4 + 1, none⟩ (.int .i64 t113)).setCell ⟨go10, (x4_1 : Int).toNat * 4 + 2, none⟩ (.int .i64 t114)).setCell ⟨go10, (x4_1 : Int).toNat * 4 + 3, none⟩ (.int .i64 t115))) ?hg ?ho ?hn ?hr ?_; (case ho => rfl); (case hg => rfl); (case hn => rfl); (case hr => first | (go_simp; done) | (go_simp; rfl)); intro w13 hw; have hg : w11.grownBy w13 (some go10) := (by rw [hw]; exact HP12.2); have hp_ : Kd.R k105 105 w13 w.heap.size (fun _ => True) (.slice (some ⟨go10, 0, none⟩) x3_1.length co10) y116 := (by rw [hw, Ny116.out]; exact HP12.1); clear HP12; refine sh2_ hp_ ((by rw [hw]; exact below_set (below_set (below_set (below_set (HB.out) GB10.out) GB10.out) GB10.out) GB10.out : Below w.heap.size w w13)) ?_; clear HO_3 HB; intro HO_3 HB; clear hg hw hp_))
    go_roundg k1
    case measure => have := HK1.out; omega
    case rel => exact ⟨(y116), (wrap64 (x4_1 + 1)), (by first | rfl | (simp; done) | (simp [*]; done)), H', ⟨by have := HK1.out; omega⟩, ⟨ra_ HO_3⟩, ⟨bl_ HB⟩⟩
   ·rw [if_neg c6] at H
    have c6b0 := decide_eq_false c6
    clear c6
    obtain rfl := Option.some.inj H
    go_wp2
    go_ret
    exact ⟨_, er_, ra_ HO_3, bl_ HB⟩

/-! ### laws_toSite: function 83 -/
def laws_toSite.f (a0_0 : Int) (a0_1 : Int) (a0_2 : Int) : Option (Int × Int × Int) := some (a0_0, a0_1, a0_2)
set_option maxHeartbeats 8000000 in
set_option maxRecDepth 100000 in
theorem laws_toSite.calls (a0_0 : Int) (a0_1 : Int) (a0_2 : Int) (r1 : Int) (r2 : Int) (r3 : Int) (w : World) (h : laws_toSite.f a0_0 a0_1 a0_2 = some (r1, r2, r3)) :
  Calls Try.prog 83 #[.agg #[.int .i64 a0_0, .int .i64 a0_1, .int .i64 a0_2]] w fun e w' => e = .returned (.agg #[.int .i64 r1, .int .i64 r2, .int .i64 r3]) ∧ Below w.heap.size w w' := by
 have hu111 := Try.underlying111
 have hu109 := Try.underlying109
 have HB := Aside0.mk (Below.refl w.heap.size w)
 have H := h
 clear h
 unfold laws_toSite.f at H
 simp only [Option.some.injEq, Prod.mk.injEq] at H
 obtain ⟨rfl, rfl, rfl⟩ := H
 go_enter Try.func83, Try.ntmps83
 go_wp2_with (first | ((with_reducible refine gd_ 1 ?_); refine bx_ 1 111 #[.int .i64 a0_0, .int .i64 a0_1, .int .i64 a0_2] ?_; intro gb117 hg w2 hbox hb; refine sh4_ (below_step (bl_ HB) hb) hbox (ge_ hg (bl_ HB)) (ge_ hg (bl_ HB)) ?_; clear HB hb hbox hg; intro HB BK117 GW117 GE117) | ((with_reducible refine gd_ 2 ?_); refine bx_ 2 109 #[.int .i64 0, .int .i64 0, .int .i64 0] ?_; intro gb118 hg w3 hbox hb; refine sh7_ (blk_below (bk_ BK117) hb) (below_step (bl1_ HB GE117) hb) hbox (ge_ hg (bl1_ HB GE117)) (ge_ hg (bl1_ HB GE117)) (nl_ hg (bk_ BK117)) (ng_ hg (bk_ BK117)) ?_; clear BK117 HB hb hbox hg; intro BK117 HB BK118 GW118 GE118 NB117_118 NB118_117) | ((with_reducible refine gd_ 3 ?_); refine bx_ 3 109 #[.int .i64 0, .int .i64 0, .int .i64 0] ?_; intro gb119 hg w4 hbox hb; refine sh10_ (blk_below (bk_ BK117) hb) (blk_below (bk_ BK118) hb) (below_step (bl2_ HB GE117 GE118) hb) hbox (ge_ hg (bl2_ HB GE117 GE118)) (ge_ hg (bl2_ HB GE117 GE118)) (nl_ hg (bk_ BK117)) (ng_ hg (bk_ BK117)) (nl_ hg (bk_ BK118)) (ng_ hg (bk_ BK118)) ?_; clear BK117 BK118 HB hb hbox hg; intro BK117 BK118 HB BK119 GW119 GE119 NB117_119 NB119_117 NB118_119 NB119_118; have hnb5 := NB117_118.out; have hnc5 := NB118_117.out; have hnb6 := NB117_119.out; have hnc6 := NB119_117.out; have hcz7 := cf3_ BK117; have hnb8 := NB119_118.out; have hnc8 := NB118_119.out; have hcz9 := cf3_ BK119; have hcz10 := cf3_ BK118))
 refine bodyPost_ret (results_cell_row rfl _ _ gb118 109 #[.int .i64 a0_0, .int .i64 a0_1, .int .i64 a0_2] (0, 0) _ rfl (by (with_reducible repeat (first | refine blk_drewN ?_ _ | refine blk_drew ?_ | refine blk_alloc ?_ _)); refine blk_put (cs := #[.int .i64 a0_0, .int .i64 a0_1, .int .i64 0]) ?_ 2 _ rfl; (with_reducible repeat (first | refine blk_drewN ?_ _ | refine blk_drew ?_ | refine blk_alloc ?_ _)); refine blk_put (cs := #[.int .i64 a0_0, .int .i64 0, .int .i64 0]) ?_ 1 _ rfl; (with_reducible repeat (first | refine blk_drewN ?_ _ | refine blk_drew ?_ | refine blk_alloc ?_ _)); refine blk_put (cs := #[.int .i64 0, .int .i64 0, .int .i64 0]) ?_ 0 _ rfl; (with_reducible repeat (first | refine blk_drewN ?_ _ | refine blk_drew ?_ | refine blk_alloc ?_ _)); refine blk_far ?_ NB118_119.out _; (with_reducible repeat (first | refine blk_drewN ?_ _ | refine blk_drew ?_ | refine blk_alloc ?_ _)); refine blk_far ?_ NB118_119.out _; (with_reducible repeat (first | refine blk_drewN ?_ _ | refine blk_drew ?_ | refine blk_alloc ?_ _)); refine blk_far ?_ NB118_119.out _; (with_reducible repeat (first | refine blk_drewN ?_ _ | refine blk_drew ?_ | refine blk_alloc ?_ _)); exact BK118.out) Try.underlying109 rfl (by kernel_rfl)) rfl ?_
 exact ⟨er_, bl3_ HB GE117 GE118 GE119⟩

/-! ### laws_toSiteS: function 46 -/
def laws_toSiteS.l0 : Nat → List (S111) → List (S109) → Int → Option ((List (S109)))
 | 0, _, _, _ => none
 | k + 1, x0, x3, x4 => if x4 < (x0.length : Int) then (if 0 ≤ x4 then ((laws_toSite.f ((rd_T111 x0 x4).f0) ((rd_T111 x0 x4).f1) ((rd_T111 x0 x4).f2)).bind fun bt124 => (if x4 < (x3.length : Int) then (laws_toSiteS.l0 k x0 (x3.set (x4 : Int).toNat (⟨bt124.1, bt124.2.1, bt124.2.2⟩ : S109)) (wrap64 (x4 + 1))) else (none))) else (none)) else (some x3)
def laws_toSiteS.f (k : Nat) (l0 : List (S111)) : Option ((List (S109))) := if 0 ≤ (l0.length : Int) then (if ((l0.length : Int) : Int).toNat ≤ 11728124029610 then (laws_toSiteS.l0 k l0 (List.replicate ((l0.length : Int) : Int).toNat z109) 0) else (none)) else (none)
theorem laws_toSiteS.mono_l : ∀ k, (∀ y0 y1 y2, LeO (laws_toSiteS.l0 k y0 y1 y2) (laws_toSiteS.l0 (k + 1) y0 y1 y2))
 | 0 => fun _ _ _ r h => by simp [laws_toSiteS.l0] at h
 | k + 1 => by
  have ih0 := laws_toSiteS.mono_l k
  ·intro y0 y1 y2
   unfold laws_toSiteS.l0
   repeat' first | (with_reducible first | exact ih0 _ _ _ | exact LeO.refl _ | exact LeO.none _ | refine LeO.ite ?_ ?_ | refine LeO.bind ?_ (fun _ => ?_)) | exact LeO.none _ | refine LeO.ite ?_ ?_ | refine LeO.bind ?_ (fun _ => ?_)
theorem laws_toSiteS.mono : ∀ a0 k, LeO (laws_toSiteS.f k a0) (laws_toSiteS.f (k + 1) a0) := by
 intro a0 k
 have ih0 := laws_toSiteS.mono_l k
 unfold laws_toSiteS.f
 repeat' first | (with_reducible first | exact ih0 _ _ _ | exact LeO.refl _ | exact LeO.none _ | refine LeO.ite ?_ ?_ | refine LeO.bind ?_ (fun _ => ?_)) | exact LeO.none _ | refine LeO.ite ?_ ?_ | refine LeO.bind ?_ (fun _ => ?_)
set_option maxHeartbeats 8000000 in
set_option maxRecDepth 100000 in
theorem laws_toSiteS.calls (k : Nat) (A0 : Option Addr) (c0 : Nat) (l0 : List (S111)) (r : List (S109)) (w : World) (hr0 : Kd.C k111 w A0 l0.length l0) (hc0 : l0.length ≤ c0) (h : laws_toSiteS.f k l0 = some r) :
  Calls Try.prog 46 #[.slice A0 l0.length c0] w fun e w' => ∃ v0_ : Value, e = .returned (v0_) ∧ Kd.R k109 109 w' w.heap.size (fun _ => True) v0_ r ∧ Below w.heap.size w w' := by
 have hu111 := Try.underlying111
 have hu109 := Try.underlying109
 have HR0 := Aside0.mk hr0
 have HC0 := Aside0.mk hc0
 clear hr0 hc0
 have HB := Aside0.mk (Below.refl w.heap.size w)
 have H := h
 clear h
 unfold laws_toSiteS.f at H
 replace H := ifn_ H
 obtain ⟨c2, H⟩ := H
 have c2b0 := eq_true c2
 have c2b1 := decide_eq_true c2
 clear c2
 replace H := ifn_ H
 obtain ⟨c3, H⟩ := H
 have c3b0 := eq_true c3
 have c3b1 := decide_eq_true c3
 clear c3
 replace H : ∃ y_ : List (S109), Aside0 (y_ = (List.replicate ((l0.length : Int) : Int).toNat z109)) ∧ (laws_toSiteS.l0 k l0 y_ 0) = some r := ⟨_, ⟨rfl⟩, yh_ H⟩
 obtain ⟨y120, Ny120, H⟩ := H
 have H' := Aside0.mk H
 clear H
 go_enter Try.func46, Try.ntmps46
 go_wp2_with (first | ((with_reducible refine gate_dst (N := 7) rfl ?_); refine Kd.R_make k109 _ 109 rfl (N := 7) rfl 31 _ _ rfl (l0.length : Int) rfl rfl Try.underlying31 (.agg #[(.int .i64 0), (.int .i64 0), (.int .i64 0)]) 24 info109 rfl (by decide) (by omega) z109 (ok := fun _ => True) (okp := fun _ => True) (k109_mkM _ _ _ z109 ) (fun _ hk => hk) trivial od_ (Nat.le_trans (Nat.mul_le_mul_right _ (od_ : (l0.length : Int).toNat ≤ 11728124029610)) (by omega)) (Below.refl _ _) (Nat.le_refl _) ?_; intro v121 w4 ho5 hb hg_ hnew_; clear hg_ hnew_; (first | rw [← Ny120.out] at ho5 | (simp only [Int.reduceToNat] at ho5; rw [← Ny120.out] at ho5)); refine sh2_ (Kd.R_lower ho5 (below_size (bl_ HB))) (below_step (bl_ HB) hb) ?_; clear HB hb ho5; intro HO122 HB))
 go_loopg [4] k (fun kq v4 w' => ∃ (x3_1 : List (S109)) (x4_1 : Int), v4 = .int .i64 x4_1 ∧ Aside0 (laws_toSiteS.l0 kq l0 x3_1 x4_1 = some r) ∧ Aside0 (kq ≤ k) ∧ Aside0 (Kd.R k109 109 w' w.heap.size (fun _ => True) v121 x3_1) ∧ Aside0 (Below w.heap.size w w'))
 case atStart => exact ⟨(y120), (0), (by first | rfl | (simp; done) | (simp [*]; done)), H', ⟨Nat.le_refl _⟩, ⟨ra_ HO122⟩, ⟨bl_ HB⟩⟩
 case round =>
  clear H'
  try clear c2
  try clear c2b0
  try clear c2b1
  try clear p2
  try clear c3
  try clear c3b0
  try clear c3b1
  try clear c4
  obtain ⟨x3_1, x4_1, rfl, HA, HK1, HO_3, HB⟩ := hrel
  cases gk with
  | zero => exact absurd HA.out (by simp [laws_toSiteS.l0])
  | succ k1 =>
   have H := HA.out
   clear HA
   simp only [laws_toSiteS.l0] at H
   by_cases c6 : x4_1 < (l0.length : Int)
   ·rw [if_pos c6] at H
    have c6b0 := decide_eq_true c6
    clear c6
    replace H := ifn_ H
    obtain ⟨c7, H⟩ := H
    have c7b0 := decide_eq_true c7
    clear c7
    replace H := bs_ H
    obtain ⟨⟨t124, t125, t126⟩, A8, H⟩ := H
    dsimp only at H
    replace H := ifn_ H
    obtain ⟨c9, H⟩ := H
    have c9b0 := decide_eq_true c9
    clear c9
    replace H : ∃ y_ : List (S109), Aside0 (y_ = (x3_1.set (x4_1 : Int).toNat (⟨t124, t125, t126⟩ : S109))) ∧ (laws_toSiteS.l0 k1 l0 y_ (wrap64 (x4_1 + 1))) = some r := ⟨_, ⟨rfl⟩, yh_ H⟩
    obtain ⟨y127, Ny127, H⟩ := H
    have H' := Aside0.mk H
    clear H
    have p123 : 0 ≤ (x4_1 : Int) := od_
    have q123 : x4_1 < (l0.length : Int) := od_
    obtain ⟨ad123, e123, hx123_0, hx123_1, hx123_2⟩ := at_T111 HR0.out x4_1 p123 q123
    cases e123
    replace hx123_0 := hbc_ HB hx123_0
    replace hx123_1 := hbc_ HB hx123_1
    replace hx123_2 := hbc_ HB hx123_2
    replace p123 := eq_true p123
    replace q123 := eq_true q123
    go_wp2_with (first | ((with_reducible refine gate_callee (f := 83) rfl ?_); refine gl_ 20 Try.func83 (laws_toSite.calls ((rd_T111 l0 x4_1).f0) ((rd_T111 l0 x4_1).f1) ((rd_T111 l0 x4_1).f2) t124 t125 t126 _ A8.out) ?_; rintro e w11 ⟨rfl, hb⟩; refine ⟨_, rfl, sh2_ (Kd.R_below (ra_ HO_3) hb) (below_step (bl_ HB) hb) ?_⟩; clear HO_3 HB hb; intro HO_3 HB; have p10 : 0 ≤ (x4_1 : Int) := od_; have q10 : (x4_1 : Int) < ((x3_1.length : Int) : Int) := od_; obtain ⟨go10, co10, eo10, gb10, gl10, cl10, HG10⟩ := Kd.R_form HO_3.out (by omega); (first | cases eo10 | (injection eo10 with ea_ en_ ec_; (first | subst ea_ | (injection ea_ with ea_; subst ea_)); subst ec_; clear en_)); have GB10 := Aside0.mk gb10; have GG10 := Aside0.mk HG10; clear gb10 gl10 HG10; obtain ⟨ce10, hcl10, hM10, hcc10, hfr10⟩ := Kd.R_elem HO_3.out z109 (x4_1 : Int) p10 q10; obtain rfl := k109_openM hM10; have hx10_0 : w11.cell? ⟨go10, (x4_1 : Int).toNat * 3, none⟩ = some (.int .i64 ((rd_T109 x3_1 x4_1).f0)) := hcc10 0 _ rfl; have hx10_1 : w11.cell? ⟨go10, (x4_1 : Int).toNat * 3 + 1, none⟩ = some (.int .i64 ((rd_T109 x3_1 x4_1).f1)) := hcc10 1 _ rfl; have hx10_2 : w11.cell? ⟨go10, (x4_1 : Int).toNat * 3 + 2, none⟩ = some (.int .i64 ((rd_T109 x3_1 x4_1).f2)) := hcc10 2 _ rfl; have hf10_0 : w11.frozen? ⟨go10, (x4_1 : Int).toNat * 3, none⟩ = false := hfr10 0; have hf10_1 : w11.frozen? ⟨go10, (x4_1 : Int).toNat * 3 + 1, none⟩ = false := hfr10 1; have hf10_2 : w11.frozen? ⟨go10, (x4_1 : Int).toNat * 3 + 2, none⟩ = false := hfr10 2; clear hcl10 hcc10 hfr10 hM10; replace p10 := eq_true p10; replace q10 := eq_true q10; have HX12 := Aside0.mk (show Kd.R k109 109 w11 w.heap.size (fun _ => True) (.slice (some ⟨go10, 0, none⟩) x3_1.length co10) x3_1 from (ra_ HO_3)); obtain ⟨ce12, hcl12, hM12, hcc12, hfr12⟩ := Kd.R_elem HX12.out z109 (x4_1 : Int) od_ (by have h_ : (x4_1 : Int) < ((x3_1.length : Int) : Int) := od_; first | exact h_ | (have e_ := (Kd.R_reads' HO_3.out).1; omega) | simpa using h_); obtain rfl := k109_openM hM12; have HP12 := Kd.R_seg HX12.out (x4_1 : Int) od_ (by have h_ : (x4_1 : Int) < ((x3_1.length : Int) : Int) := od_; first | exact h_ | (have e_ := (Kd.R_reads' HO_3.out).1; omega) | simpa using h_) (seg := [.int .i64 t124, .int .i64 t125, .int .i64 t126]) (j := 0) hcl12 hcc12 (show 3 ≤ 3 from by decide) (x' := (⟨t124, t125, t126⟩ : S109)) (k109_mkM _ _ _ (⟨t124, t125, t126⟩ : S109) ) (fun _ hk => hk); have hx12_0 := hcc12 0 _ rfl; (try simp only [show (k109).sz = 3 from rfl, Nat.mul_one, Nat.add_zero] at hx12_0); have hf12_0 := hfr12 0; (try simp only [show (k109).sz = 3 from rfl, Nat.mul_one, Nat.add_zero] at hf12_0); have hx12_1 := hcc12 1 _ rfl; (try simp only [show (k109).sz = 3 from rfl, Nat.mul_one, Nat.add_zero] at hx12_1); have hf12_1 := hfr12 1; (try simp only [show (k109).sz = 3 from rfl, Nat.mul_one, Nat.add_zero] at hf12_1); have hx12_2 := hcc12 2 _ rfl; (try simp only [show (k109).sz = 3 from rfl, Nat.mul_one, Nat.add_zero] at hx12_2); have hf12_2 := hfr12 2; (try simp only [show (k109).sz = 3 from rfl, Nat.mul_one, Nat.add_zero] at hf12_2); clear hcl12 hcc12 hfr12 hM12) | ((with_reducible refine gate_store (t := 109) (p := 21) rfl ?_); refine store_event (t := 109) (p := 21) (v := ?vo_w13) (w1 := (((w11.setCell ⟨go10, (x4_1 : Int).toNat * 3, none⟩ (.int .i64 t124)).setCell ⟨go10, (x4_1 : Int).toNat * 3 + 1, none⟩ (.int .i64 t125)).setCell ⟨go10, (x4_1 : Int).toNat * 3 + 2, none⟩ (.int .i64 t126))) ?hg ?ho ?hn ?hr ?_; (case ho => rfl); (case hg => rfl); (case hn => rfl); (case hr => first | (go_simp; done) | (go_simp; rfl)); intro w13 hw; have hg : w11.grownBy w13 (some go10) := (by rw [hw]; exact HP12.2); have hp_ : Kd.R k109 109 w13 w.heap.size (fun _ => True) (.slice (some ⟨go10, 0, none⟩) x3_1.length co10) y127 := (by rw [hw, Ny127.out]; exact HP12.1); clear HP12; refine sh2_ hp_ ((by rw [hw]; exact below_set (below_set (below_set (HB.out) GB10.out) GB10.out) GB10.out : Below w.heap.size w w13)) ?_; clear HO_3 HB; intro HO_3 HB; clear hg hw hp_))
    go_roundg k1
    case measure => have := HK1.out; omega
    case rel => exact ⟨(y127), (wrap64 (x4_1 + 1)), (by first | rfl | (simp; done) | (simp [*]; done)), H', ⟨by have := HK1.out; omega⟩, ⟨ra_ HO_3⟩, ⟨bl_ HB⟩⟩
   ·rw [if_neg c6] at H
    have c6b0 := decide_eq_false c6
    clear c6
    obtain rfl := Option.some.inj H
    go_wp2
    go_ret
    exact ⟨_, er_, ra_ HO_3, bl_ HB⟩

/-! ### laws_toArc: function 104 -/
def laws_toArc.f (a0_0 : Int) (a0_1 : Int) : Option (Int × Int) := some (a0_0, a0_1)
set_option maxHeartbeats 8000000 in
set_option maxRecDepth 100000 in
theorem laws_toArc.calls (a0_0 : Int) (a0_1 : Int) (r1 : Int) (r2 : Int) (w : World) (h : laws_toArc.f a0_0 a0_1 = some (r1, r2)) :
  Calls Try.prog 104 #[.agg #[.int .i64 a0_0, .int .i64 a0_1]] w fun e w' => e = .returned (.agg #[.int .i64 r1, .int .i64 r2]) ∧ Below w.heap.size w w' := by
 have hu117 := Try.underlying117
 have hu113 := Try.underlying113
 have HB := Aside0.mk (Below.refl w.heap.size w)
 have H := h
 clear h
 unfold laws_toArc.f at H
 simp only [Option.some.injEq, Prod.mk.injEq] at H
 obtain ⟨rfl, rfl⟩ := H
 go_enter Try.func104, Try.ntmps104
 go_wp2_with (first | ((with_reducible refine gd_ 1 ?_); refine bx_ 1 117 #[.int .i64 a0_0, .int .i64 a0_1] ?_; intro gb128 hg w2 hbox hb; refine sh4_ (below_step (bl_ HB) hb) hbox (ge_ hg (bl_ HB)) (ge_ hg (bl_ HB)) ?_; clear HB hb hbox hg; intro HB BK128 GW128 GE128) | ((with_reducible refine gd_ 2 ?_); refine bx_ 2 113 #[.int .i64 0, .int .i64 0] ?_; intro gb129 hg w3 hbox hb; refine sh7_ (blk_below (bk_ BK128) hb) (below_step (bl1_ HB GE128) hb) hbox (ge_ hg (bl1_ HB GE128)) (ge_ hg (bl1_ HB GE128)) (nl_ hg (bk_ BK128)) (ng_ hg (bk_ BK128)) ?_; clear BK128 HB hb hbox hg; intro BK128 HB BK129 GW129 GE129 NB128_129 NB129_128) | ((with_reducible refine gd_ 3 ?_); refine bx_ 3 113 #[.int .i64 0, .int .i64 0] ?_; intro gb130 hg w4 hbox hb; refine sh10_ (blk_below (bk_ BK128) hb) (blk_below (bk_ BK129) hb) (below_step (bl2_ HB GE128 GE129) hb) hbox (ge_ hg (bl2_ HB GE128 GE129)) (ge_ hg (bl2_ HB GE128 GE129)) (nl_ hg (bk_ BK128)) (ng_ hg (bk_ BK128)) (nl_ hg (bk_ BK129)) (ng_ hg (bk_ BK129)) ?_; clear BK128 BK129 HB hb hbox hg; intro BK128 BK129 HB BK130 GW130 GE130 NB128_130 NB130_128 NB129_130 NB130_129; have hnb5 := NB128_129.out; have hnc5 := NB129_128.out; have hnb6 := NB128_130.out; have hnc6 := NB130_128.out; have hcz7 := cf2_ BK128; have hnb8 := NB130_129.out; have hnc8 := NB129_130.out; have hcz9 := cf2_ BK130; have hcz10 := cf2_ BK129))
 refine bodyPost_ret (results_cell_row rfl _ _ gb129 113 #[.int .i64 a0_0, .int .i64 a0_1] (0, 0) _ rfl (by (with_reducible repeat (first | refine blk_drewN ?_ _ | refine blk_drew ?_ | refine blk_alloc ?_ _)); refine blk_put (cs := #[.int .i64 a0_0, .int .i64 0]) ?_ 1 _ rfl; (with_reducible repeat (first | refine blk_drewN ?_ _ | refine blk_drew ?_ | refine blk_alloc ?_ _)); refine blk_put (cs := #[.int .i64 0, .int .i64 0]) ?_ 0 _ rfl; (with_reducible repeat (first | refine blk_drewN ?_ _ | refine blk_drew ?_ | refine blk_alloc ?_ _)); refine blk_far ?_ NB129_130.out _; (with_reducible repeat (first | refine blk_drewN ?_ _ | refine blk_drew ?_ | refine blk_alloc ?_ _)); refine blk_far ?_ NB129_130.out _; (with_reducible repeat (first | refine blk_drewN ?_ _ | refine blk_drew ?_ | refine blk_alloc ?_ _)); exact BK129.out) Try.underlying113 rfl (by kernel_rfl)) rfl ?_
 exact ⟨er_, bl3_ HB GE128 GE129 GE130⟩

/-! ### laws_toZone: function 84 -/
def laws_toZone.f (a0_0 : Int) (a0_1 : Int) (a0_2 : Int) : Option (Int × Int × Int) := (laws_toArc.f a0_1 a0_2).bind fun bt134 => (some (a0_0, bt134.1, bt134.2))
set_option maxHeartbeats 8000000 in
set_option maxRecDepth 100000 in
theorem laws_toZone.calls (a0_0 : Int) (a0_1 : Int) (a0_2 : Int) (r1 : Int) (r2 : Int) (r3 : Int) (w : World) (h : laws_toZone.f a0_0 a0_1 a0_2 = some (r1, r2, r3)) :
  Calls Try.prog 84 #[.agg #[.int .i64 a0_0, .int .i64 a0_1, .int .i64 a0_2]] w fun e w' => e = .returned (.agg #[.int .i64 r1, .int .i64 r2, .int .i64 r3]) ∧ Below w.heap.size w w' := by
 have hu119 := Try.underlying119
 have hu115 := Try.underlying115
 have hu117 := Try.underlying117
 have hu113 := Try.underlying113
 have HB := Aside0.mk (Below.refl w.heap.size w)
 have H := h
 clear h
 unfold laws_toZone.f at H
 replace H := bs_ H
 obtain ⟨⟨t134, t135⟩, A2, H⟩ := H
 dsimp only at H
 simp only [Option.some.injEq, Prod.mk.injEq] at H
 obtain ⟨rfl, rfl, rfl⟩ := H
 go_enter Try.func84, Try.ntmps84
 go_wp2_with (first | ((with_reducible refine gd_ 1 ?_); refine bx_ 1 119 #[.int .i64 a0_0, .int .i64 a0_1, .int .i64 a0_2] ?_; intro gb131 hg w3 hbox hb; refine sh4_ (below_step (bl_ HB) hb) hbox (ge_ hg (bl_ HB)) (ge_ hg (bl_ HB)) ?_; clear HB hb hbox hg; intro HB BK131 GW131 GE131) | ((with_reducible refine gd_ 2 ?_); refine bx_ 2 115 #[.int .i64 0, .int .i64 0, .int .i64 0] ?_; intro gb132 hg w4 hbox hb; refine sh7_ (blk_below (bk_ BK131) hb) (below_step (bl1_ HB GE131) hb) hbox (ge_ hg (bl1_ HB GE131)) (ge_ hg (bl1_ HB GE131)) (nl_ hg (bk_ BK131)) (ng_ hg (bk_ BK131)) ?_; clear BK131 HB hb hbox hg; intro BK131 HB BK132 GW132 GE132 NB131_132 NB132_131) | ((with_reducible refine gd_ 3 ?_); refine bx_ 3 115 #[.int .i64 0, .int .i64 0, .int .i64 0] ?_; intro gb133 hg w5 hbox hb; refine sh10_ (blk_below (bk_ BK131) hb) (blk_below (bk_ BK132) hb) (below_step (bl2_ HB GE131 GE132) hb) hbox (ge_ hg (bl2_ HB GE131 GE132)) (ge_ hg (bl2_ HB GE131 GE132)) (nl_ hg (bk_ BK131)) (ng_ hg (bk_ BK131)) (nl_ hg (bk_ BK132)) (ng_ hg (bk_ BK132)) ?_; clear BK131 BK132 HB hb hbox hg; intro BK131 BK132 HB BK133 GW133 GE133 NB131_133 NB133_131 NB132_133 NB133_132; have hnb6 := NB131_132.out; have hnc6 := NB132_131.out; have hnb7 := NB131_133.out; have hnc7 := NB133_131.out; have hcz8 := cf3_ BK131; have hnb9 := NB133_132.out; have hnc9 := NB132_133.out; have hcz10 := cf3_ BK133) | ((with_reducible refine gate_callee (f := 104) rfl ?_); refine gl_ 9 Try.func104 (laws_toArc.calls a0_1 a0_2 t134 t135 _ A2.out) ?_; rintro e w11 ⟨rfl, hb⟩; refine ⟨_, rfl, sh4_ (blk_below (g := gb131) (o := .cells #[.int .i64 a0_0, .int .i64 a0_1, .int .i64 a0_2] 119 (0, 0)) (by (with_reducible repeat (first | refine blk_drewN ?_ _ | refine blk_drew ?_ | refine blk_alloc ?_ _)); refine blk_far ?_ NB131_133.out _; (with_reducible repeat (first | refine blk_drewN ?_ _ | refine blk_drew ?_ | refine blk_alloc ?_ _)); exact BK131.out) hb) (blk_below (g := gb132) (o := .cells #[.int .i64 0, .int .i64 0, .int .i64 0] 115 (0, 0)) (by (with_reducible repeat (first | refine blk_drewN ?_ _ | refine blk_drew ?_ | refine blk_alloc ?_ _)); refine blk_far ?_ NB132_133.out _; (with_reducible repeat (first | refine blk_drewN ?_ _ | refine blk_drew ?_ | refine blk_alloc ?_ _)); exact BK132.out) hb) (blk_below (g := gb133) (o := .cells #[.int .i64 a0_0, .int .i64 0, .int .i64 0] 115 (0, 0)) (by (with_reducible repeat (first | refine blk_drewN ?_ _ | refine blk_drew ?_ | refine blk_alloc ?_ _)); refine blk_put (cs := #[.int .i64 0, .int .i64 0, .int .i64 0]) ?_ 0 _ rfl; (with_reducible repeat (first | refine blk_drewN ?_ _ | refine blk_drew ?_ | refine blk_alloc ?_ _)); exact BK133.out) hb) (below_step (bl3_ HB GE131 GE132 GE133) hb) ?_⟩; clear BK131 BK132 BK133 HB hb; intro BK131 BK132 BK133 HB; have hcz12 := cf3_ BK133; have hcz13 := cf3_ BK132))
 refine bodyPost_ret (results_cell_row rfl _ _ gb132 115 #[.int .i64 a0_0, .int .i64 t134, .int .i64 t135] (0, 0) _ rfl (by (with_reducible repeat (first | refine blk_drewN ?_ _ | refine blk_drew ?_ | refine blk_alloc ?_ _)); refine blk_put (cs := #[.int .i64 a0_0, .int .i64 t134, .int .i64 0]) ?_ 2 _ rfl; (with_reducible repeat (first | refine blk_drewN ?_ _ | refine blk_drew ?_ | refine blk_alloc ?_ _)); refine blk_put (cs := #[.int .i64 a0_0, .int .i64 0, .int .i64 0]) ?_ 1 _ rfl; (with_reducible repeat (first | refine blk_drewN ?_ _ | refine blk_drew ?_ | refine blk_alloc ?_ _)); refine blk_put (cs := #[.int .i64 0, .int .i64 0, .int .i64 0]) ?_ 0 _ rfl; (with_reducible repeat (first | refine blk_drewN ?_ _ | refine blk_drew ?_ | refine blk_alloc ?_ _)); refine blk_far ?_ NB132_133.out _; (with_reducible repeat (first | refine blk_drewN ?_ _ | refine blk_drew ?_ | refine blk_alloc ?_ _)); refine blk_far ?_ NB132_133.out _; (with_reducible repeat (first | refine blk_drewN ?_ _ | refine blk_drew ?_ | refine blk_alloc ?_ _)); exact BK132.out) Try.underlying115 rfl (by kernel_rfl)) rfl ?_
 exact ⟨er_, bl3_ HB GE131 GE132 GE133⟩

/-! ### laws_toZoneS: function 47 -/
def laws_toZoneS.l0 : Nat → List (S119) → List (S115) → Int → Option ((List (S115)))
 | 0, _, _, _ => none
 | k + 1, x0, x3, x4 => if x4 < (x0.length : Int) then (if 0 ≤ x4 then ((laws_toZone.f ((rd_T119 x0 x4).f0) ((rd_T119 x0 x4).f1.f0) ((rd_T119 x0 x4).f1.f1)).bind fun bt140 => (if x4 < (x3.length : Int) then (laws_toZoneS.l0 k x0 (x3.set (x4 : Int).toNat (⟨bt140.1, (⟨bt140.2.1, bt140.2.2⟩ : S113)⟩ : S115)) (wrap64 (x4 + 1))) else (none))) else (none)) else (some x3)
def laws_toZoneS.f (k : Nat) (l0 : List (S119)) : Option ((List (S115))) := if 0 ≤ (l0.length : Int) then (if ((l0.length : Int) : Int).toNat ≤ 11728124029610 then (laws_toZoneS.l0 k l0 (List.replicate ((l0.length : Int) : Int).toNat z115) 0) else (none)) else (none)
theorem laws_toZoneS.mono_l : ∀ k, (∀ y0 y1 y2, LeO (laws_toZoneS.l0 k y0 y1 y2) (laws_toZoneS.l0 (k + 1) y0 y1 y2))
 | 0 => fun _ _ _ r h => by simp [laws_toZoneS.l0] at h
 | k + 1 => by
  have ih0 := laws_toZoneS.mono_l k
  ·intro y0 y1 y2
   unfold laws_toZoneS.l0
   repeat' first | (with_reducible first | exact ih0 _ _ _ | exact LeO.refl _ | exact LeO.none _ | refine LeO.ite ?_ ?_ | refine LeO.bind ?_ (fun _ => ?_)) | exact LeO.none _ | refine LeO.ite ?_ ?_ | refine LeO.bind ?_ (fun _ => ?_)
theorem laws_toZoneS.mono : ∀ a0 k, LeO (laws_toZoneS.f k a0) (laws_toZoneS.f (k + 1) a0) := by
 intro a0 k
 have ih0 := laws_toZoneS.mono_l k
 unfold laws_toZoneS.f
 repeat' first | (with_reducible first | exact ih0 _ _ _ | exact LeO.refl _ | exact LeO.none _ | refine LeO.ite ?_ ?_ | refine LeO.bind ?_ (fun _ => ?_)) | exact LeO.none _ | refine LeO.ite ?_ ?_ | refine LeO.bind ?_ (fun _ => ?_)
set_option maxHeartbeats 8000000 in
set_option maxRecDepth 100000 in
theorem laws_toZoneS.calls (k : Nat) (A0 : Option Addr) (c0 : Nat) (l0 : List (S119)) (r : List (S115)) (w : World) (hr0 : Kd.C k119 w A0 l0.length l0) (hc0 : l0.length ≤ c0) (h : laws_toZoneS.f k l0 = some r) :
  Calls Try.prog 47 #[.slice A0 l0.length c0] w fun e w' => ∃ v0_ : Value, e = .returned (v0_) ∧ Kd.R k115 115 w' w.heap.size (fun _ => True) v0_ r ∧ Below w.heap.size w w' := by
 have hu119 := Try.underlying119
 have hu115 := Try.underlying115
 have HR0 := Aside0.mk hr0
 have HC0 := Aside0.mk hc0
 clear hr0 hc0
 have HB := Aside0.mk (Below.refl w.heap.size w)
 have H := h
 clear h
 unfold laws_toZoneS.f at H
 replace H := ifn_ H
 obtain ⟨c2, H⟩ := H
 have c2b0 := eq_true c2
 have c2b1 := decide_eq_true c2
 clear c2
 replace H := ifn_ H
 obtain ⟨c3, H⟩ := H
 have c3b0 := eq_true c3
 have c3b1 := decide_eq_true c3
 clear c3
 replace H : ∃ y_ : List (S115), Aside0 (y_ = (List.replicate ((l0.length : Int) : Int).toNat z115)) ∧ (laws_toZoneS.l0 k l0 y_ 0) = some r := ⟨_, ⟨rfl⟩, yh_ H⟩
 obtain ⟨y136, Ny136, H⟩ := H
 have H' := Aside0.mk H
 clear H
 go_enter Try.func47, Try.ntmps47
 go_wp2_with (first | ((with_reducible refine gate_dst (N := 7) rfl ?_); refine Kd.R_make k115 _ 115 rfl (N := 7) rfl 32 _ _ rfl (l0.length : Int) rfl rfl Try.underlying32 (.agg #[(.int .i64 0), (.int .i64 0), (.int .i64 0)]) 24 info115 rfl (by decide) (by omega) z115 (ok := fun _ => True) (okp := fun _ => True) (k115_mkM _ _ _ z115 ) (fun _ hk => hk) trivial od_ (Nat.le_trans (Nat.mul_le_mul_right _ (od_ : (l0.length : Int).toNat ≤ 11728124029610)) (by omega)) (Below.refl _ _) (Nat.le_refl _) ?_; intro v137 w4 ho5 hb hg_ hnew_; clear hg_ hnew_; (first | rw [← Ny136.out] at ho5 | (simp only [Int.reduceToNat] at ho5; rw [← Ny136.out] at ho5)); refine sh2_ (Kd.R_lower ho5 (below_size (bl_ HB))) (below_step (bl_ HB) hb) ?_; clear HB hb ho5; intro HO138 HB))
 go_loopg [4] k (fun kq v4 w' => ∃ (x3_1 : List (S115)) (x4_1 : Int), v4 = .int .i64 x4_1 ∧ Aside0 (laws_toZoneS.l0 kq l0 x3_1 x4_1 = some r) ∧ Aside0 (kq ≤ k) ∧ Aside0 (Kd.R k115 115 w' w.heap.size (fun _ => True) v137 x3_1) ∧ Aside0 (Below w.heap.size w w'))
 case atStart => exact ⟨(y136), (0), (by first | rfl | (simp; done) | (simp [*]; done)), H', ⟨Nat.le_refl _⟩, ⟨ra_ HO138⟩, ⟨bl_ HB⟩⟩
 case round =>
  clear H'
  try clear c2
  try clear c2b0
  try clear c2b1
  try clear p2
  try clear c3
  try clear c3b0
  try clear c3b1
  try clear c4
  obtain ⟨x3_1, x4_1, rfl, HA, HK1, HO_3, HB⟩ := hrel
  cases gk with
  | zero => exact absurd HA.out (by simp [laws_toZoneS.l0])
  | succ k1 =>
   have H := HA.out
   clear HA
   simp only [laws_toZoneS.l0] at H
   by_cases c6 : x4_1 < (l0.length : Int)
   ·rw [if_pos c6] at H
    have c6b0 := decide_eq_true c6
    clear c6
    replace H := ifn_ H
    obtain ⟨c7, H⟩ := H
    have c7b0 := decide_eq_true c7
    clear c7
    replace H := bs_ H
    obtain ⟨⟨t140, t141, t142⟩, A8, H⟩ := H
    dsimp only at H
    replace H := ifn_ H
    obtain ⟨c9, H⟩ := H
    have c9b0 := decide_eq_true c9
    clear c9
    replace H : ∃ y_ : List (S115), Aside0 (y_ = (x3_1.set (x4_1 : Int).toNat (⟨t140, (⟨t141, t142⟩ : S113)⟩ : S115))) ∧ (laws_toZoneS.l0 k1 l0 y_ (wrap64 (x4_1 + 1))) = some r := ⟨_, ⟨rfl⟩, yh_ H⟩
    obtain ⟨y143, Ny143, H⟩ := H
    have H' := Aside0.mk H
    clear H
    have p139 : 0 ≤ (x4_1 : Int) := od_
    have q139 : x4_1 < (l0.length : Int) := od_
    obtain ⟨ad139, e139, hx139_0, hx139_1, hx139_2⟩ := at_T119 HR0.out x4_1 p139 q139
    cases e139
    replace hx139_0 := hbc_ HB hx139_0
    replace hx139_1 := hbc_ HB hx139_1
    replace hx139_2 := hbc_ HB hx139_2
    replace p139 := eq_true p139
    replace q139 := eq_true q139
    go_wp2_with (first | ((with_reducible refine gate_callee (f := 84) rfl ?_); refine gl_ 20 Try.func84 (laws_toZone.calls ((rd_T119 l0 x4_1).f0) ((rd_T119 l0 x4_1).f1.f0) ((rd_T119 l0 x4_1).f1.f1) t140 t141 t142 _ A8.out) ?_; rintro e w11 ⟨rfl, hb⟩; refine ⟨_, rfl, sh2_ (Kd.R_below (ra_ HO_3) hb) (below_step (bl_ HB) hb) ?_⟩; clear HO_3 HB hb; intro HO_3 HB; have p10 : 0 ≤ (x4_1 : Int) := od_; have q10 : (x4_1 : Int) < ((x3_1.length : Int) : Int) := od_; obtain ⟨go10, co10, eo10, gb10, gl10, cl10, HG10⟩ := Kd.R_form HO_3.out (by omega); (first | cases eo10 | (injection eo10 with ea_ en_ ec_; (first | subst ea_ | (injection ea_ with ea_; subst ea_)); subst ec_; clear en_)); have GB10 := Aside0.mk gb10; have GG10 := Aside0.mk HG10; clear gb10 gl10 HG10; obtain ⟨ce10, hcl10, hM10, hcc10, hfr10⟩ := Kd.R_elem HO_3.out z115 (x4_1 : Int) p10 q10; obtain rfl := k115_openM hM10; have hx10_0 : w11.cell? ⟨go10, (x4_1 : Int).toNat * 3, none⟩ = some (.int .i64 ((rd_T115 x3_1 x4_1).f0)) := hcc10 0 _ rfl; have hx10_1 : w11.cell? ⟨go10, (x4_1 : Int).toNat * 3 + 1, none⟩ = some (.int .i64 ((rd_T115 x3_1 x4_1).f1.f0)) := hcc10 1 _ rfl; have hx10_2 : w11.cell? ⟨go10, (x4_1 : Int).toNat * 3 + 2, none⟩ = some (.int .i64 ((rd_T115 x3_1 x4_1).f1.f1)) := hcc10 2 _ rfl; have hf10_0 : w11.frozen? ⟨go10, (x4_1 : Int).toNat * 3, none⟩ = false := hfr10 0; have hf10_1 : w11.frozen? ⟨go10, (x4_1 : Int).toNat * 3 + 1, none⟩ = false := hfr10 1; have hf10_2 : w11.frozen? ⟨go10, (x4_1 : Int).toNat * 3 + 2, none⟩ = false := hfr10 2; clear hcl10 hcc10 hfr10 hM10; replace p10 := eq_true p10; replace q10 := eq_true q10; have HX12 := Aside0.mk (show Kd.R k115 115 w11 w.heap.size (fun _ => True) (.slice (some ⟨go10, 0, none⟩) x3_1.length co10) x3_1 from (ra_ HO_3)); obtain ⟨ce12, hcl12, hM12, hcc12, hfr12⟩ := Kd.R_elem HX12.out z115 (x4_1 : Int) od_ (by have h_ : (x4_1 : Int) < ((x3_1.length : Int) : Int) := od_; first | exact h_ | (have e_ := (Kd.R_reads' HO_3.out).1; omega) | simpa using h_); obtain rfl := k115_openM hM12; have HP12 := Kd.R_seg HX12.out (x4_1 : Int) od_ (by have h_ : (x4_1 : Int) < ((x3_1.length : Int) : Int) := od_; first | exact h_ | (have e_ := (Kd.R_reads' HO_3.out).1; omega) | simpa using h_) (seg := [.int .i64 t140, .int .i64 t141, .int .i64 t142]) (j := 0) hcl12 hcc12 (show 3 ≤ 3 from by decide) (x' := (⟨t140, (⟨t141, t142⟩ : S113)⟩ : S115)) (k115_mkM _ _ _ (⟨t140, (⟨t141, t142⟩ : S113)⟩ : S115) ) (fun _ hk => hk); have hx12_0 := hcc12 0 _ rfl; (try simp only [show (k115).sz = 3 from rfl, Nat.mul_one, Nat.add_zero] at hx12_0); have hf12_0 := hfr12 0; (try simp only [show (k115).sz = 3 from rfl, Nat.mul_one, Nat.add_zero] at hf12_0); have hx12_1 := hcc12 1 _ rfl; (try simp only [show (k115).sz = 3 from rfl, Nat.mul_one, Nat.add_zero] at hx12_1); have hf12_1 := hfr12 1; (try simp only [show (k115).sz = 3 from rfl, Nat.mul_one, Nat.add_zero] at hf12_1); have hx12_2 := hcc12 2 _ rfl; (try simp only [show (k115).sz = 3 from rfl, Nat.mul_one, Nat.add_zero] at hx12_2); have hf12_2 := hfr12 2; (try simp only [show (k115).sz = 3 from rfl, Nat.mul_one, Nat.add_zero] at hf12_2); clear hcl12 hcc12 hfr12 hM12) | ((with_reducible refine gate_store (t := 115) (p := 21) rfl ?_); refine store_event (t := 115) (p := 21) (v := ?vo_w13) (w1 := (((w11.setCell ⟨go10, (x4_1 : Int).toNat * 3, none⟩ (.int .i64 t140)).setCell ⟨go10, (x4_1 : Int).toNat * 3 + 1, none⟩ (.int .i64 t141)).setCell ⟨go10, (x4_1 : Int).toNat * 3 + 2, none⟩ (.int .i64 t142))) ?hg ?ho ?hn ?hr ?_; (case ho => rfl); (case hg => rfl); (case hn => rfl); (case hr => first | (go_simp; done) | (go_simp; rfl)); intro w13 hw; have hg : w11.grownBy w13 (some go10) := (by rw [hw]; exact HP12.2); have hp_ : Kd.R k115 115 w13 w.heap.size (fun _ => True) (.slice (some ⟨go10, 0, none⟩) x3_1.length co10) y143 := (by rw [hw, Ny143.out]; exact HP12.1); clear HP12; refine sh2_ hp_ ((by rw [hw]; exact below_set (below_set (below_set (HB.out) GB10.out) GB10.out) GB10.out : Below w.heap.size w w13)) ?_; clear HO_3 HB; intro HO_3 HB; clear hg hw hp_))
    go_roundg k1
    case measure => have := HK1.out; omega
    case rel => exact ⟨(y143), (wrap64 (x4_1 + 1)), (by first | rfl | (simp; done) | (simp [*]; done)), H', ⟨by have := HK1.out; omega⟩, ⟨ra_ HO_3⟩, ⟨bl_ HB⟩⟩
   ·rw [if_neg c6] at H
    have c6b0 := decide_eq_false c6
    clear c6
    obtain rfl := Option.some.inj H
    go_wp2
    go_ret
    exact ⟨_, er_, ra_ HO_3, bl_ HB⟩

/-! ### laws_toSky: function 11 -/
def laws_toSky.f (k : Nat) (a0_0 : Int) (l0_1 : List (S107)) (l0_2 : List (S111)) (a0_3 : Int) (a0_4 : Int) (a0_5 : Int) (a0_6 : Int) (a0_7 : Int) (l0_8 : List (S119)) (a0_9 : Int) : Option (Int × (List (S105)) × (List (S109)) × Int × Int × Int × Int × Int × (List (S115)) × Int) := (laws_toSatS.f k l0_1).bind fun t147 => ((laws_toSiteS.f k l0_2).bind fun t150 => ((laws_toZoneS.f k l0_8).bind fun t153 => (some (a0_0, t147, t150, a0_3, a0_4, a0_5, a0_6, a0_7, t153, a0_9))))
theorem laws_toSky.mono : ∀ a0 a1 a2 a3 a4 a5 a6 a7 a8 a9 k, LeO (laws_toSky.f k a0 a1 a2 a3 a4 a5 a6 a7 a8 a9) (laws_toSky.f (k + 1) a0 a1 a2 a3 a4 a5 a6 a7 a8 a9) := by
 intro a0 a1 a2 a3 a4 a5 a6 a7 a8 a9 k
 unfold laws_toSky.f
 repeat' first | (with_reducible first | exact laws_toSatS.mono _ _ | exact laws_toSiteS.mono _ _ | exact laws_toZoneS.mono _ _ | exact LeO.refl _ | exact LeO.none _ | refine LeO.ite ?_ ?_ | refine LeO.bind ?_ (fun _ => ?_)) | exact LeO.none _ | refine LeO.ite ?_ ?_ | refine LeO.bind ?_ (fun _ => ?_)
set_option maxHeartbeats 8000000 in
set_option maxRecDepth 100000 in
theorem laws_toSky.calls (k : Nat) (a0_0 : Int) (A0_1 : Option Addr) (c0_1 : Nat) (l0_1 : List (S107)) (A0_2 : Option Addr) (c0_2 : Nat) (l0_2 : List (S111)) (a0_3 : Int) (a0_4 : Int) (a0_5 : Int) (a0_6 : Int) (a0_7 : Int) (A0_8 : Option Addr) (c0_8 : Nat) (l0_8 : List (S119)) (a0_9 : Int) (r1 : Int) (r2 : List (S105)) (r3 : List (S109)) (r4 : Int) (r5 : Int) (r6 : Int) (r7 : Int) (r8 : Int) (r9 : List (S115)) (r10 : Int) (w : World) (hr0_1 : Kd.C k107 w A0_1 l0_1.length l0_1) (hc0_1 : l0_1.length ≤ c0_1) (hr0_2 : Kd.C k111 w A0_2 l0_2.length l0_2) (hc0_2 : l0_2.length ≤ c0_2) (hr0_8 : Kd.C k119 w A0_8 l0_8.length l0_8) (hc0_8 : l0_8.length ≤ c0_8) (h : laws_toSky.f k a0_0 l0_1 l0_2 a0_3 a0_4 a0_5 a0_6 a0_7 l0_8 a0_9 = some (r1, r2, r3, r4, r5, r6, r7, r8, r9, r10)) :
  Calls Try.prog 11 #[.agg #[.int .i64 a0_0, .slice A0_1 l0_1.length c0_1, .slice A0_2 l0_2.length c0_2, .int .i64 a0_3, .int .i64 a0_4, .int .i64 a0_5, .int .i64 a0_6, .int .i64 a0_7, .slice A0_8 l0_8.length c0_8, .int .i64 a0_9]] w fun e w' => ∃ v1_ v2_ v8_ : Value, e = .returned (.agg #[.int .i64 r1, v1_, v2_, .int .i64 r4, .int .i64 r5, .int .i64 r6, .int .i64 r7, .int .i64 r8, v8_, .int .i64 r10]) ∧ Kd.R k105 105 w' w.heap.size (fun _ => True) v1_ r2 ∧ Kd.R k109 109 w' w.heap.size (fun _ => True) v2_ r3 ∧ Kd.R k115 115 w' w.heap.size (fun _ => True) v8_ r9 ∧ Below w.heap.size w w' := by
 have hu26 := Try.underlying26
 have hu34 := Try.underlying34
 have HR0_1 := Aside0.mk hr0_1
 have HC0_1 := Aside0.mk hc0_1
 clear hr0_1 hc0_1
 have HR0_2 := Aside0.mk hr0_2
 have HC0_2 := Aside0.mk hc0_2
 clear hr0_2 hc0_2
 have HR0_8 := Aside0.mk hr0_8
 have HC0_8 := Aside0.mk hc0_8
 clear hr0_8 hc0_8
 have HB := Aside0.mk (Below.refl w.heap.size w)
 have H := h
 clear h
 unfold laws_toSky.f at H
 replace H := bs_ H
 obtain ⟨t147, A2, H⟩ := H
 replace H := bs_ H
 obtain ⟨t150, A3, H⟩ := H
 replace H := bs_ H
 obtain ⟨t153, A4, H⟩ := H
 simp only [Option.some.injEq, Prod.mk.injEq] at H
 obtain ⟨rfl, rfl, rfl, rfl, rfl, rfl, rfl, rfl, rfl, rfl⟩ := H
 go_enter Try.func11, Try.ntmps11
 go_wp2_with (first | ((with_reducible refine gd_ 1 ?_); refine bx_ 1 26 #[.int .i64 a0_0, .slice A0_1 l0_1.length c0_1, .slice A0_2 l0_2.length c0_2, .int .i64 a0_3, .int .i64 a0_4, .int .i64 a0_5, .int .i64 a0_6, .int .i64 a0_7, .slice A0_8 l0_8.length c0_8, .int .i64 a0_9] ?_; intro gb144 hg w5 hbox hb; refine sh4_ (below_step (bl_ HB) hb) hbox (ge_ hg (bl_ HB)) (ge_ hg (bl_ HB)) ?_; clear HB hb hbox hg; intro HB BK144 GW144 GE144) | ((with_reducible refine gd_ 2 ?_); refine bx_ 2 34 #[.int .i64 0, .slice none 0 0, .slice none 0 0, .int .i64 0, .int .i64 0, .int .i64 0, .int .i64 0, .int .i64 0, .slice none 0 0, .int .i64 0] ?_; intro gb145 hg w6 hbox hb; refine sh7_ (blk_below (bk_ BK144) hb) (below_step (bl1_ HB GE144) hb) hbox (ge_ hg (bl1_ HB GE144)) (ge_ hg (bl1_ HB GE144)) (nl_ hg (bk_ BK144)) (ng_ hg (bk_ BK144)) ?_; clear BK144 HB hb hbox hg; intro BK144 HB BK145 GW145 GE145 NB144_145 NB145_144) | ((with_reducible refine gd_ 3 ?_); refine bx_ 3 34 #[.int .i64 0, .slice none 0 0, .slice none 0 0, .int .i64 0, .int .i64 0, .int .i64 0, .int .i64 0, .int .i64 0, .slice none 0 0, .int .i64 0] ?_; intro gb146 hg w7 hbox hb; refine sh10_ (blk_below (bk_ BK144) hb) (blk_below (bk_ BK145) hb) (below_step (bl2_ HB GE144 GE145) hb) hbox (ge_ hg (bl2_ HB GE144 GE145)) (ge_ hg (bl2_ HB GE144 GE145)) (nl_ hg (bk_ BK144)) (ng_ hg (bk_ BK144)) (nl_ hg (bk_ BK145)) (ng_ hg (bk_ BK145)) ?_; clear BK144 BK145 HB hb hbox hg; intro BK144 BK145 HB BK146 GW146 GE146 NB144_146 NB146_144 NB145_146 NB146_145; have hnb8 := NB144_145.out; have hnc8 := NB145_144.out; have hnb9 := NB144_146.out; have hnc9 := NB146_144.out; have hcz10 := cf10_ BK144; have hnb11 := NB146_145.out; have hnc11 := NB145_146.out; have hcz12 := cf10_ BK146) | ((with_reducible refine gate_callee (f := 45) rfl ?_); refine goesL_ (some 9) rfl rfl Try.func45 (by kernel_rfl) rfl #[.slice A0_1 l0_1.length c0_1] rfl mp_ ?_; (with_reducible refine (laws_toSatS.calls k _ _ l0_1 t147 _ ?side1 ?side2 A2.out).mono ?_); (case side1 => exact Kd.C_below HR0_1.out (bl3_ HB GE144 GE145 GE146)); (case side2 => exact HC0_1.out); rintro e w13 ⟨v148, rfl, ho0, hb⟩; refine ⟨_, rfl, sh5_ (Kd.R_lower ho0 (below_size (bl3_ HB GE144 GE145 GE146))) (blk_below (g := gb144) (o := .cells #[.int .i64 a0_0, .slice A0_1 l0_1.length c0_1, .slice A0_2 l0_2.length c0_2, .int .i64 a0_3, .int .i64 a0_4, .int .i64 a0_5, .int .i64 a0_6, .int .i64 a0_7, .slice A0_8 l0_8.length c0_8, .int .i64 a0_9] 26 (0, 0)) (by (with_reducible repeat (first | refine blk_drewN ?_ _ | refine blk_drew ?_ | refine blk_alloc ?_ _)); refine blk_far ?_ NB144_146.out _; (with_reducible repeat (first | refine blk_drewN ?_ _ | refine blk_drew ?_ | refine blk_alloc ?_ _)); exact BK144.out) hb) (blk_below (g := gb145) (o := .cells #[.int .i64 0, .slice none 0 0, .slice none 0 0, .int .i64 0, .int .i64 0, .int .i64 0, .int .i64 0, .int .i64 0, .slice none 0 0, .int .i64 0] 34 (0, 0)) (by (with_reducible repeat (first | refine blk_drewN ?_ _ | refine blk_drew ?_ | refine blk_alloc ?_ _)); refine blk_far ?_ NB145_146.out _; (with_reducible repeat (first | refine blk_drewN ?_ _ | refine blk_drew ?_ | refine blk_alloc ?_ _)); exact BK145.out) hb) (blk_below (g := gb146) (o := .cells #[.int .i64 a0_0, .slice none 0 0, .slice none 0 0, .int .i64 0, .int .i64 0, .int .i64 0, .int .i64 0, .int .i64 0, .slice none 0 0, .int .i64 0] 34 (0, 0)) (by (with_reducible repeat (first | refine blk_drewN ?_ _ | refine blk_drew ?_ | refine blk_alloc ?_ _)); refine blk_put (cs := #[.int .i64 0, .slice none 0 0, .slice none 0 0, .int .i64 0, .int .i64 0, .int .i64 0, .int .i64 0, .int .i64 0, .slice none 0 0, .int .i64 0]) ?_ 0 _ rfl; (with_reducible repeat (first | refine blk_drewN ?_ _ | refine blk_drew ?_ | refine blk_alloc ?_ _)); exact BK146.out) hb) (below_step (bl3_ HB GE144 GE145 GE146) hb) ?_⟩; clear BK144 BK145 BK146 HB hb ho0; intro HO149 BK144 BK145 BK146 HB; obtain ⟨Ao14, co14, eo14⟩ := Kd.R_slice HO149.out; subst eo14; have hcz15 := cf10_ BK146; have hcz16 := cf10_ BK144) | ((with_reducible refine gate_callee (f := 46) rfl ?_); refine goesL_ (some 13) rfl rfl Try.func46 (by kernel_rfl) rfl #[.slice A0_2 l0_2.length c0_2] rfl mp_ ?_; (with_reducible refine (laws_toSiteS.calls k _ _ l0_2 t150 _ ?side1 ?side2 A3.out).mono ?_); (case side1 => exact Kd.C_below HR0_2.out (bl3_ HB GE144 GE145 GE146)); (case side2 => exact HC0_2.out); rintro e w17 ⟨v151, rfl, ho0, hb⟩; refine ⟨_, rfl, sh6_ (Kd.R_below (by (with_reducible repeat (first | apply Kd.R_alloc | apply Kd.R_drewN | apply Kd.R_drew)); exact (Kd.R_mono (Kd.R_far (p := ⟨gb146, 1, none⟩) (Kd.R_types HO149.out BK146.out (by decide)) (fun _ hk => hk.2) (.slice Ao14 t147.length co14)) (fun _ h_ => h_.1))) hb) (Kd.R_lower ho0 (below_size (bl3_ HB GE144 GE145 GE146))) (blk_below (g := gb144) (o := .cells #[.int .i64 a0_0, .slice A0_1 l0_1.length c0_1, .slice A0_2 l0_2.length c0_2, .int .i64 a0_3, .int .i64 a0_4, .int .i64 a0_5, .int .i64 a0_6, .int .i64 a0_7, .slice A0_8 l0_8.length c0_8, .int .i64 a0_9] 26 (0, 0)) (by (with_reducible repeat (first | refine blk_drewN ?_ _ | refine blk_drew ?_ | refine blk_alloc ?_ _)); refine blk_far ?_ NB144_146.out _; (with_reducible repeat (first | refine blk_drewN ?_ _ | refine blk_drew ?_ | refine blk_alloc ?_ _)); exact BK144.out) hb) (blk_below (g := gb145) (o := .cells #[.int .i64 0, .slice none 0 0, .slice none 0 0, .int .i64 0, .int .i64 0, .int .i64 0, .int .i64 0, .int .i64 0, .slice none 0 0, .int .i64 0] 34 (0, 0)) (by (with_reducible repeat (first | refine blk_drewN ?_ _ | refine blk_drew ?_ | refine blk_alloc ?_ _)); refine blk_far ?_ NB145_146.out _; (with_reducible repeat (first | refine blk_drewN ?_ _ | refine blk_drew ?_ | refine blk_alloc ?_ _)); exact BK145.out) hb) (blk_below (g := gb146) (o := .cells #[.int .i64 a0_0, .slice Ao14 t147.length co14, .slice none 0 0, .int .i64 0, .int .i64 0, .int .i64 0, .int .i64 0, .int .i64 0, .slice none 0 0, .int .i64 0] 34 (0, 0)) (by (with_reducible repeat (first | refine blk_drewN ?_ _ | refine blk_drew ?_ | refine blk_alloc ?_ _)); refine blk_put (cs := #[.int .i64 a0_0, .slice none 0 0, .slice none 0 0, .int .i64 0, .int .i64 0, .int .i64 0, .int .i64 0, .int .i64 0, .slice none 0 0, .int .i64 0]) ?_ 1 _ rfl; (with_reducible repeat (first | refine blk_drewN ?_ _ | refine blk_drew ?_ | refine blk_alloc ?_ _)); exact BK146.out) hb) (below_step (bl3_ HB GE144 GE145 GE146) hb) ?_⟩; clear HO149 BK144 BK145 BK146 HB hb ho0; intro HO149 HO152 BK144 BK145 BK146 HB; obtain ⟨Ao18, co18, eo18⟩ := Kd.R_slice HO152.out; subst eo18; have hcz19 := cf10_ BK146; have hcz20 := cf10_ BK144) | ((with_reducible refine gate_callee (f := 47) rfl ?_); refine goesL_ (some 32) rfl rfl Try.func47 (by kernel_rfl) rfl #[.slice A0_8 l0_8.length c0_8] rfl mp_ ?_; (with_reducible refine (laws_toZoneS.calls k _ _ l0_8 t153 _ ?side1 ?side2 A4.out).mono ?_); (case side1 => exact Kd.C_below HR0_8.out (bl3_ HB GE144 GE145 GE146)); (case side2 => exact HC0_8.out); rintro e w21 ⟨v154, rfl, ho0, hb⟩; refine ⟨_, rfl, sh7_ (Kd.R_below (by (with_reducible repeat (first | apply Kd.R_alloc | apply Kd.R_drewN | apply Kd.R_drew)); exact (Kd.R_mono (Kd.R_far (p := ⟨gb146, 7, none⟩) (Kd.R_far (p := ⟨gb146, 6, none⟩) (Kd.R_far (p := ⟨gb146, 5, none⟩) (Kd.R_far (p := ⟨gb146, 4, none⟩) (Kd.R_far (p := ⟨gb146, 3, none⟩) (Kd.R_far (p := ⟨gb146, 2, none⟩) (Kd.R_types HO149.out BK146.out (by decide)) (fun _ hk => hk.2) (.slice Ao18 t150.length co18)) (fun _ hk => hk.2) (.int .i64 a0_3)) (fun _ hk => hk.2) (.int .i64 a0_4)) (fun _ hk => hk.2) (.int .i64 a0_5)) (fun _ hk => hk.2) (.int .i64 a0_6)) (fun _ hk => hk.2) (.int .i64 a0_7)) (fun _ h_ => h_.1))) hb) (Kd.R_below (by (with_reducible repeat (first | apply Kd.R_alloc | apply Kd.R_drewN | apply Kd.R_drew)); exact (Kd.R_mono (Kd.R_far (p := ⟨gb146, 7, none⟩) (Kd.R_far (p := ⟨gb146, 6, none⟩) (Kd.R_far (p := ⟨gb146, 5, none⟩) (Kd.R_far (p := ⟨gb146, 4, none⟩) (Kd.R_far (p := ⟨gb146, 3, none⟩) (Kd.R_far (p := ⟨gb146, 2, none⟩) (Kd.R_types HO152.out BK146.out (by decide)) (fun _ hk => hk.2) (.slice Ao18 t150.length co18)) (fun _ hk => hk.2) (.int .i64 a0_3)) (fun _ hk => hk.2) (.int .i64 a0_4)) (fun _ hk => hk.2) (.int .i64 a0_5)) (fun _ hk => hk.2) (.int .i64 a0_6)) (fun _ hk => hk.2) (.int .i64 a0_7)) (fun _ h_ => h_.1))) hb) (Kd.R_lower ho0 (below_size (bl3_ HB GE144 GE145 GE146))) (blk_below (g := gb144) (o := .cells #[.int .i64 a0_0, .slice A0_1 l0_1.length c0_1, .slice A0_2 l0_2.length c0_2, .int .i64 a0_3, .int .i64 a0_4, .int .i64 a0_5, .int .i64 a0_6, .int .i64 a0_7, .slice A0_8 l0_8.length c0_8, .int .i64 a0_9] 26 (0, 0)) (by (with_reducible repeat (first | refine blk_drewN ?_ _ | refine blk_drew ?_ | refine blk_alloc ?_ _)); refine blk_far ?_ NB144_146.out _; (with_reducible repeat (first | refine blk_drewN ?_ _ | refine blk_drew ?_ | refine blk_alloc ?_ _)); refine blk_far ?_ NB144_146.out _; (with_reducible repeat (first | refine blk_drewN ?_ _ | refine blk_drew ?_ | refine blk_alloc ?_ _)); refine blk_far ?_ NB144_146.out _; (with_reducible repeat (first | refine blk_drewN ?_ _ | refine blk_drew ?_ | refine blk_alloc ?_ _)); refine blk_far ?_ NB144_146.out _; (with_reducible repeat (first | refine blk_drewN ?_ _ | refine blk_drew ?_ | refine blk_alloc ?_ _)); refine blk_far ?_ NB144_146.out _; (with_reducible repeat (first | refine blk_drewN ?_ _ | refine blk_drew ?_ | refine blk_alloc ?_ _)); refine blk_far ?_ NB144_146.out _; (with_reducible repeat (first | refine blk_drewN ?_ _ | refine blk_drew ?_ | refine blk_alloc ?_ _)); exact BK144.out) hb) (blk_below (g := gb145) (o := .cells #[.int .i64 0, .slice none 0 0, .slice none 0 0, .int .i64 0, .int .i64 0, .int .i64 0, .int .i64 0, .int .i64 0, .slice none 0 0, .int .i64 0] 34 (0, 0)) (by (with_reducible repeat (first | refine blk_drewN ?_ _ | refine blk_drew ?_ | refine blk_alloc ?_ _)); refine blk_far ?_ NB145_146.out _; (with_reducible repeat (first | refine blk_drewN ?_ _ | refine blk_drew ?_ | refine blk_alloc ?_ _)); refine blk_far ?_ NB145_146.out _; (with_reducible repeat (first | refine blk_drewN ?_ _ | refine blk_drew ?_ | refine blk_alloc ?_ _)); refine blk_far ?_ NB145_146.out _; (with_reducible repeat (first | refine blk_drewN ?_ _ | refine blk_drew ?_ | refine blk_alloc ?_ _)); refine blk_far ?_ NB145_146.out _; (with_reducible repeat (first | refine blk_drewN ?_ _ | refine blk_drew ?_ | refine blk_alloc ?_ _)); refine blk_far ?_ NB145_146.out _; (with_reducible repeat (first | refine blk_drewN ?_ _ | refine blk_drew ?_ | refine blk_alloc ?_ _)); refine blk_far ?_ NB145_146.out _; (with_reducible repeat (first | refine blk_drewN ?_ _ | refine blk_drew ?_ | refine blk_alloc ?_ _)); exact BK145.out) hb) (blk_below (g := gb146) (o := .cells #[.int .i64 a0_0, .slice Ao14 t147.length co14, .slice Ao18 t150.length co18, .int .i64 a0_3, .int .i64 a0_4, .int .i64 a0_5, .int .i64 a0_6, .int .i64 a0_7, .slice none 0 0, .int .i64 0] 34 (0, 0)) (by (with_reducible repeat (first | refine blk_drewN ?_ _ | refine blk_drew ?_ | refine blk_alloc ?_ _)); refine blk_put (cs := #[.int .i64 a0_0, .slice Ao14 t147.length co14, .slice Ao18 t150.length co18, .int .i64 a0_3, .int .i64 a0_4, .int .i64 a0_5, .int .i64 a0_6, .int .i64 0, .slice none 0 0, .int .i64 0]) ?_ 7 _ rfl; (with_reducible repeat (first | refine blk_drewN ?_ _ | refine blk_drew ?_ | refine blk_alloc ?_ _)); refine blk_put (cs := #[.int .i64 a0_0, .slice Ao14 t147.length co14, .slice Ao18 t150.length co18, .int .i64 a0_3, .int .i64 a0_4, .int .i64 a0_5, .int .i64 0, .int .i64 0, .slice none 0 0, .int .i64 0]) ?_ 6 _ rfl; (with_reducible repeat (first | refine blk_drewN ?_ _ | refine blk_drew ?_ | refine blk_alloc ?_ _)); refine blk_put (cs := #[.int .i64 a0_0, .slice Ao14 t147.length co14, .slice Ao18 t150.length co18, .int .i64 a0_3, .int .i64 a0_4, .int .i64 0, .int .i64 0, .int .i64 0, .slice none 0 0, .int .i64 0]) ?_ 5 _ rfl; (with_reducible repeat (first | refine blk_drewN ?_ _ | refine blk_drew ?_ | refine blk_alloc ?_ _)); refine blk_put (cs := #[.int .i64 a0_0, .slice Ao14 t147.length co14, .slice Ao18 t150.length co18, .int .i64 a0_3, .int .i64 0, .int .i64 0, .int .i64 0, .int .i64 0, .slice none 0 0, .int .i64 0]) ?_ 4 _ rfl; (with_reducible repeat (first | refine blk_drewN ?_ _ | refine blk_drew ?_ | refine blk_alloc ?_ _)); refine blk_put (cs := #[.int .i64 a0_0, .slice Ao14 t147.length co14, .slice Ao18 t150.length co18, .int .i64 0, .int .i64 0, .int .i64 0, .int .i64 0, .int .i64 0, .slice none 0 0, .int .i64 0]) ?_ 3 _ rfl; (with_reducible repeat (first | refine blk_drewN ?_ _ | refine blk_drew ?_ | refine blk_alloc ?_ _)); refine blk_put (cs := #[.int .i64 a0_0, .slice Ao14 t147.length co14, .slice none 0 0, .int .i64 0, .int .i64 0, .int .i64 0, .int .i64 0, .int .i64 0, .slice none 0 0, .int .i64 0]) ?_ 2 _ rfl; (with_reducible repeat (first | refine blk_drewN ?_ _ | refine blk_drew ?_ | refine blk_alloc ?_ _)); exact BK146.out) hb) (below_step (bl3_ HB GE144 GE145 GE146) hb) ?_⟩; clear HO149 HO152 BK144 BK145 BK146 HB hb ho0; intro HO149 HO152 HO155 BK144 BK145 BK146 HB; obtain ⟨Ao22, co22, eo22⟩ := Kd.R_slice HO155.out; subst eo22; have hcz23 := cf10_ BK146; have hcz24 := cf10_ BK144; have hcz25 := cf10_ BK145))
 refine bodyPost_ret (results_cell_row rfl _ _ gb145 34 #[.int .i64 a0_0, .slice Ao14 t147.length co14, .slice Ao18 t150.length co18, .int .i64 a0_3, .int .i64 a0_4, .int .i64 a0_5, .int .i64 a0_6, .int .i64 a0_7, .slice Ao22 t153.length co22, .int .i64 a0_9] (0, 0) _ rfl (by (with_reducible repeat (first | refine blk_drewN ?_ _ | refine blk_drew ?_ | refine blk_alloc ?_ _)); refine blk_put (cs := #[.int .i64 a0_0, .slice Ao14 t147.length co14, .slice Ao18 t150.length co18, .int .i64 a0_3, .int .i64 a0_4, .int .i64 a0_5, .int .i64 a0_6, .int .i64 a0_7, .slice Ao22 t153.length co22, .int .i64 0]) ?_ 9 _ rfl; (with_reducible repeat (first | refine blk_drewN ?_ _ | refine blk_drew ?_ | refine blk_alloc ?_ _)); refine blk_put (cs := #[.int .i64 a0_0, .slice Ao14 t147.length co14, .slice Ao18 t150.length co18, .int .i64 a0_3, .int .i64 a0_4, .int .i64 a0_5, .int .i64 a0_6, .int .i64 a0_7, .slice none 0 0, .int .i64 0]) ?_ 8 _ rfl; (with_reducible repeat (first | refine blk_drewN ?_ _ | refine blk_drew ?_ | refine blk_alloc ?_ _)); refine blk_put (cs := #[.int .i64 a0_0, .slice Ao14 t147.length co14, .slice Ao18 t150.length co18, .int .i64 a0_3, .int .i64 a0_4, .int .i64 a0_5, .int .i64 a0_6, .int .i64 0, .slice none 0 0, .int .i64 0]) ?_ 7 _ rfl; (with_reducible repeat (first | refine blk_drewN ?_ _ | refine blk_drew ?_ | refine blk_alloc ?_ _)); refine blk_put (cs := #[.int .i64 a0_0, .slice Ao14 t147.length co14, .slice Ao18 t150.length co18, .int .i64 a0_3, .int .i64 a0_4, .int .i64 a0_5, .int .i64 0, .int .i64 0, .slice none 0 0, .int .i64 0]) ?_ 6 _ rfl; (with_reducible repeat (first | refine blk_drewN ?_ _ | refine blk_drew ?_ | refine blk_alloc ?_ _)); refine blk_put (cs := #[.int .i64 a0_0, .slice Ao14 t147.length co14, .slice Ao18 t150.length co18, .int .i64 a0_3, .int .i64 a0_4, .int .i64 0, .int .i64 0, .int .i64 0, .slice none 0 0, .int .i64 0]) ?_ 5 _ rfl; (with_reducible repeat (first | refine blk_drewN ?_ _ | refine blk_drew ?_ | refine blk_alloc ?_ _)); refine blk_put (cs := #[.int .i64 a0_0, .slice Ao14 t147.length co14, .slice Ao18 t150.length co18, .int .i64 a0_3, .int .i64 0, .int .i64 0, .int .i64 0, .int .i64 0, .slice none 0 0, .int .i64 0]) ?_ 4 _ rfl; (with_reducible repeat (first | refine blk_drewN ?_ _ | refine blk_drew ?_ | refine blk_alloc ?_ _)); refine blk_put (cs := #[.int .i64 a0_0, .slice Ao14 t147.length co14, .slice Ao18 t150.length co18, .int .i64 0, .int .i64 0, .int .i64 0, .int .i64 0, .int .i64 0, .slice none 0 0, .int .i64 0]) ?_ 3 _ rfl; (with_reducible repeat (first | refine blk_drewN ?_ _ | refine blk_drew ?_ | refine blk_alloc ?_ _)); refine blk_put (cs := #[.int .i64 a0_0, .slice Ao14 t147.length co14, .slice none 0 0, .int .i64 0, .int .i64 0, .int .i64 0, .int .i64 0, .int .i64 0, .slice none 0 0, .int .i64 0]) ?_ 2 _ rfl; (with_reducible repeat (first | refine blk_drewN ?_ _ | refine blk_drew ?_ | refine blk_alloc ?_ _)); refine blk_put (cs := #[.int .i64 a0_0, .slice none 0 0, .slice none 0 0, .int .i64 0, .int .i64 0, .int .i64 0, .int .i64 0, .int .i64 0, .slice none 0 0, .int .i64 0]) ?_ 1 _ rfl; (with_reducible repeat (first | refine blk_drewN ?_ _ | refine blk_drew ?_ | refine blk_alloc ?_ _)); refine blk_put (cs := #[.int .i64 0, .slice none 0 0, .slice none 0 0, .int .i64 0, .int .i64 0, .int .i64 0, .int .i64 0, .int .i64 0, .slice none 0 0, .int .i64 0]) ?_ 0 _ rfl; (with_reducible repeat (first | refine blk_drewN ?_ _ | refine blk_drew ?_ | refine blk_alloc ?_ _)); refine blk_far ?_ NB145_146.out _; (with_reducible repeat (first | refine blk_drewN ?_ _ | refine blk_drew ?_ | refine blk_alloc ?_ _)); refine blk_far ?_ NB145_146.out _; (with_reducible repeat (first | refine blk_drewN ?_ _ | refine blk_drew ?_ | refine blk_alloc ?_ _)); exact BK145.out) Try.underlying34 rfl (by kernel_rfl)) rfl ?_
 exact ⟨_, _, _, er_, by (with_reducible repeat (first | apply Kd.R_alloc | apply Kd.R_drewN | apply Kd.R_drew)); exact Kd.R_mono (Kd.R_far (p := ⟨gb145, 9, none⟩) (Kd.R_far (p := ⟨gb145, 8, none⟩) (Kd.R_far (p := ⟨gb145, 7, none⟩) (Kd.R_far (p := ⟨gb145, 6, none⟩) (Kd.R_far (p := ⟨gb145, 5, none⟩) (Kd.R_far (p := ⟨gb145, 4, none⟩) (Kd.R_far (p := ⟨gb145, 3, none⟩) (Kd.R_far (p := ⟨gb145, 2, none⟩) (Kd.R_far (p := ⟨gb145, 1, none⟩) (Kd.R_far (p := ⟨gb145, 0, none⟩) (Kd.R_far (p := ⟨gb146, 9, none⟩) (Kd.R_far (p := ⟨gb146, 8, none⟩) (Kd.R_types (Kd.R_types HO149.out BK146.out (by decide)) BK145.out (by decide)) (fun _ hk => hk.1.2) (.slice Ao22 t153.length co22)) (fun _ hk => hk.1.2) (.int .i64 a0_9)) (fun _ hk => hk.2) (.int .i64 a0_0)) (fun _ hk => hk.2) (.slice Ao14 t147.length co14)) (fun _ hk => hk.2) (.slice Ao18 t150.length co18)) (fun _ hk => hk.2) (.int .i64 a0_3)) (fun _ hk => hk.2) (.int .i64 a0_4)) (fun _ hk => hk.2) (.int .i64 a0_5)) (fun _ hk => hk.2) (.int .i64 a0_6)) (fun _ hk => hk.2) (.int .i64 a0_7)) (fun _ hk => hk.2) (.slice Ao22 t153.length co22)) (fun _ hk => hk.2) (.int .i64 a0_9)) (fun _ hk => trivial), by (with_reducible repeat (first | apply Kd.R_alloc | apply Kd.R_drewN | apply Kd.R_drew)); exact Kd.R_mono (Kd.R_far (p := ⟨gb145, 9, none⟩) (Kd.R_far (p := ⟨gb145, 8, none⟩) (Kd.R_far (p := ⟨gb145, 7, none⟩) (Kd.R_far (p := ⟨gb145, 6, none⟩) (Kd.R_far (p := ⟨gb145, 5, none⟩) (Kd.R_far (p := ⟨gb145, 4, none⟩) (Kd.R_far (p := ⟨gb145, 3, none⟩) (Kd.R_far (p := ⟨gb145, 2, none⟩) (Kd.R_far (p := ⟨gb145, 1, none⟩) (Kd.R_far (p := ⟨gb145, 0, none⟩) (Kd.R_far (p := ⟨gb146, 9, none⟩) (Kd.R_far (p := ⟨gb146, 8, none⟩) (Kd.R_types (Kd.R_types HO152.out BK146.out (by decide)) BK145.out (by decide)) (fun _ hk => hk.1.2) (.slice Ao22 t153.length co22)) (fun _ hk => hk.1.2) (.int .i64 a0_9)) (fun _ hk => hk.2) (.int .i64 a0_0)) (fun _ hk => hk.2) (.slice Ao14 t147.length co14)) (fun _ hk => hk.2) (.slice Ao18 t150.length co18)) (fun _ hk => hk.2) (.int .i64 a0_3)) (fun _ hk => hk.2) (.int .i64 a0_4)) (fun _ hk => hk.2) (.int .i64 a0_5)) (fun _ hk => hk.2) (.int .i64 a0_6)) (fun _ hk => hk.2) (.int .i64 a0_7)) (fun _ hk => hk.2) (.slice Ao22 t153.length co22)) (fun _ hk => hk.2) (.int .i64 a0_9)) (fun _ hk => trivial), by (with_reducible repeat (first | apply Kd.R_alloc | apply Kd.R_drewN | apply Kd.R_drew)); exact Kd.R_mono (Kd.R_far (p := ⟨gb145, 9, none⟩) (Kd.R_far (p := ⟨gb145, 8, none⟩) (Kd.R_far (p := ⟨gb145, 7, none⟩) (Kd.R_far (p := ⟨gb145, 6, none⟩) (Kd.R_far (p := ⟨gb145, 5, none⟩) (Kd.R_far (p := ⟨gb145, 4, none⟩) (Kd.R_far (p := ⟨gb145, 3, none⟩) (Kd.R_far (p := ⟨gb145, 2, none⟩) (Kd.R_far (p := ⟨gb145, 1, none⟩) (Kd.R_far (p := ⟨gb145, 0, none⟩) (Kd.R_far (p := ⟨gb146, 9, none⟩) (Kd.R_far (p := ⟨gb146, 8, none⟩) (Kd.R_types (Kd.R_types HO155.out BK146.out (by decide)) BK145.out (by decide)) (fun _ hk => hk.1.2) (.slice Ao22 t153.length co22)) (fun _ hk => hk.1.2) (.int .i64 a0_9)) (fun _ hk => hk.2) (.int .i64 a0_0)) (fun _ hk => hk.2) (.slice Ao14 t147.length co14)) (fun _ hk => hk.2) (.slice Ao18 t150.length co18)) (fun _ hk => hk.2) (.int .i64 a0_3)) (fun _ hk => hk.2) (.int .i64 a0_4)) (fun _ hk => hk.2) (.int .i64 a0_5)) (fun _ hk => hk.2) (.int .i64 a0_6)) (fun _ hk => hk.2) (.int .i64 a0_7)) (fun _ hk => hk.2) (.slice Ao22 t153.length co22)) (fun _ hk => hk.2) (.int .i64 a0_9)) (fun _ hk => trivial), bl3_ HB GE144 GE145 GE146⟩

/-! ### laws_eqSat: function 90 -/
def laws_eqSat.f (a0_0 : Int) (a0_1 : Int) (a0_2 : Int) (a0_3 : Int) (a1_0 : Int) (a1_1 : Int) (a1_2 : Int) (a1_3 : Int) : Option (Bool) := if a0_0 = a1_0 then (if a0_1 = a1_1 then (if a0_2 = a1_2 then (if a0_3 = a1_3 then (some true) else (some false)) else (some false)) else (some false)) else (some false)
set_option maxHeartbeats 8000000 in
set_option maxRecDepth 100000 in
theorem laws_eqSat.calls (a0_0 : Int) (a0_1 : Int) (a0_2 : Int) (a0_3 : Int) (a1_0 : Int) (a1_1 : Int) (a1_2 : Int) (a1_3 : Int) (r : Bool) (w : World) (h : laws_eqSat.f a0_0 a0_1 a0_2 a0_3 a1_0 a1_1 a1_2 a1_3 = some r) (hT_ : r = true := by rfl) :
  Calls Try.prog 90 #[.agg #[.int .i64 a0_0, .int .i64 a0_1, .int .i64 a0_2, .int .i64 a0_3], .agg #[.int .i64 a1_0, .int .i64 a1_1, .int .i64 a1_2, .int .i64 a1_3]] w fun e w' => e = .returned (.bool r) ∧ Below w.heap.size w w' := by
 have hu105 := Try.underlying105
 have HB := Aside0.mk (Below.refl w.heap.size w)
 subst hT_
 have H := h
 clear h
 unfold laws_eqSat.f at H
 by_cases c3 : a0_0 = a1_0
 ·rw [if_pos c3] at H
  obtain ⟨c3b0, c3b1⟩ := bt_ c3
  clear c3
  by_cases c4 : a0_1 = a1_1
  ·rw [if_pos c4] at H
   obtain ⟨c4b0, c4b1⟩ := bt_ c4
   clear c4
   by_cases c5 : a0_2 = a1_2
   ·rw [if_pos c5] at H
    obtain ⟨c5b0, c5b1⟩ := bt_ c5
    clear c5
    by_cases c6 : a0_3 = a1_3
    ·rw [if_pos c6] at H
     obtain ⟨c6b0, c6b1⟩ := bt_ c6
     clear c6
     clear H
     go_enter Try.func90, Try.ntmps90
     go_wp2_with (first | ((with_reducible refine gd_ 2 ?_); refine bx_ 2 105 #[.int .i64 a0_0, .int .i64 a0_1, .int .i64 a0_2, .int .i64 a0_3] ?_; intro gb156 hg w7 hbox hb; refine sh4_ (below_step (bl_ HB) hb) hbox (ge_ hg (bl_ HB)) (ge_ hg (bl_ HB)) ?_; clear HB hb hbox hg; intro HB BK156 GW156 GE156) | ((with_reducible refine gd_ 3 ?_); refine bx_ 3 105 #[.int .i64 a1_0, .int .i64 a1_1, .int .i64 a1_2, .int .i64 a1_3] ?_; intro gb157 hg w8 hbox hb; refine sh7_ (blk_below (bk_ BK156) hb) (below_step (bl1_ HB GE156) hb) hbox (ge_ hg (bl1_ HB GE156)) (ge_ hg (bl1_ HB GE156)) (nl_ hg (bk_ BK156)) (ng_ hg (bk_ BK156)) ?_; clear BK156 HB hb hbox hg; intro BK156 HB BK157 GW157 GE157 NB156_157 NB157_156; have hnb9 := NB156_157.out; have hnc9 := NB157_156.out; have hcz10 := cf4_ BK156; have hcz11 := cf4_ BK157))
     go_ret
     exact ⟨er_, bl2_ HB GE156 GE157⟩
    ·rw [if_neg c6] at H
     obtain ⟨c6b0, c6b1⟩ := bn_ c6
     exact absurd H (by simp)
   ·rw [if_neg c5] at H
    obtain ⟨c5b0, c5b1⟩ := bn_ c5
    exact absurd H (by simp)
  ·rw [if_neg c4] at H
   obtain ⟨c4b0, c4b1⟩ := bn_ c4
   exact absurd H (by simp)
 ·rw [if_neg c3] at H
  obtain ⟨c3b0, c3b1⟩ := bn_ c3
  exact absurd H (by simp)

/-! ### laws_eqSatS: function 52 -/
def laws_eqSatS.l0 : Nat → List (S105) → List (S105) → Int → Option (Bool)
 | 0, _, _, _ => none
 | k + 1, x0, x1, x5 => if x5 < (x0.length : Int) then (if 0 ≤ x5 then (if x5 < (x1.length : Int) then ((laws_eqSat.f ((rd_T105 x0 x5).f0) ((rd_T105 x0 x5).f1) ((rd_T105 x0 x5).f2) ((rd_T105 x0 x5).f3) ((rd_T105 x1 x5).f0) ((rd_T105 x1 x5).f1) ((rd_T105 x1 x5).f2) ((rd_T105 x1 x5).f3)).bind fun t160 => (if t160 = true then (laws_eqSatS.l0 k x0 x1 (wrap64 (x5 + 1))) else (some false))) else (none)) else (none)) else (some true)
def laws_eqSatS.f (k : Nat) (l0 : List (S105)) (l1 : List (S105)) : Option (Bool) := if (l0.length : Int) = (l1.length : Int) then (laws_eqSatS.l0 k l0 l1 0) else (some false)
theorem laws_eqSatS.mono_l : ∀ k, (∀ y0 y1 y2, LeO (laws_eqSatS.l0 k y0 y1 y2) (laws_eqSatS.l0 (k + 1) y0 y1 y2))
 | 0 => fun _ _ _ r h => by simp [laws_eqSatS.l0] at h
 | k + 1 => by
  have ih0 := laws_eqSatS.mono_l k
  ·intro y0 y1 y2
   unfold laws_eqSatS.l0
   repeat' first | (with_reducible first | exact ih0 _ _ _ | exact LeO.refl _ | exact LeO.none _ | refine LeO.ite ?_ ?_ | refine LeO.bind ?_ (fun _ => ?_)) | exact LeO.none _ | refine LeO.ite ?_ ?_ | refine LeO.bind ?_ (fun _ => ?_)
theorem laws_eqSatS.mono : ∀ a0 a1 k, LeO (laws_eqSatS.f k a0 a1) (laws_eqSatS.f (k + 1) a0 a1) := by
 intro a0 a1 k
 have ih0 := laws_eqSatS.mono_l k
 unfold laws_eqSatS.f
 repeat' first | (with_reducible first | exact ih0 _ _ _ | exact LeO.refl _ | exact LeO.none _ | refine LeO.ite ?_ ?_ | refine LeO.bind ?_ (fun _ => ?_)) | exact LeO.none _ | refine LeO.ite ?_ ?_ | refine LeO.bind ?_ (fun _ => ?_)
def laws_eqSatS.T6 : Bool × List (List Nat × List Nat) := (true, [([], []), ([], []), ([0, 1], [0, 1]), ([2], [2]), ([], []), ([], []), ([4, 5], [4, 5]), ([6], [6]), ([3, 7], [3, 7]), ([8], [8])])
def laws_eqSatS.B6 : List Nat := [0, 0, 3, 7, 0, 0, 48, 112, 255, 511]
theorem laws_eqSatS.tab6 : rtab .any (opsOf Try.f52 6) = laws_eqSatS.T6 := by kernel_rfl
theorem laws_eqSatS.bits6 : waitsOk laws_eqSatS.T6.2 laws_eqSatS.B6 = true := by kernel_rfl
set_option maxHeartbeats 8000000 in
set_option maxRecDepth 100000 in
theorem laws_eqSatS.calls (k : Nat) (A0 : Option Addr) (c0 : Nat) (l0 : List (S105)) (A1 : Option Addr) (c1 : Nat) (l1 : List (S105)) (r : Bool) (w : World) (hr0 : Kd.C k105 w A0 l0.length l0) (hc0 : l0.length ≤ c0) (hr1 : Kd.C k105 w A1 l1.length l1) (hc1 : l1.length ≤ c1) (h : laws_eqSatS.f k l0 l1 = some r) (hT_ : r = true := by rfl) :
  Calls Try.prog 52 #[.slice A0 l0.length c0, .slice A1 l1.length c1] w fun e w' => e = .returned (.bool r) ∧ Below w.heap.size w w' := by
 have hu105 := Try.underlying105
 have HR0 := Aside0.mk hr0
 have HC0 := Aside0.mk hc0
 clear hr0 hc0
 have HR1 := Aside0.mk hr1
 have HC1 := Aside0.mk hc1
 clear hr1 hc1
 have HB := Aside0.mk (Below.refl w.heap.size w)
 subst hT_
 have H := h
 clear h
 unfold laws_eqSatS.f at H
 by_cases c3 : (l0.length : Int) = (l1.length : Int)
 ·rw [if_pos c3] at H
  obtain ⟨c3b0, c3b1⟩ := bt_ c3
  have c3b2 : (l0.length == l1.length) = true := by first | simpa using c3 | (simp at c3 ⊢; omega)
  clear c3
  have H' := Aside0.mk H
  clear H
  go_enter Try.func52, Try.ntmps52
  go_wp2
  go_loopg [5] k (fun kq v5 w' => ∃ (x5_1 : Int), v5 = .int .i64 x5_1 ∧ Aside0 (laws_eqSatS.l0 kq l0 l1 x5_1 = some true) ∧ Aside0 (kq ≤ k) ∧ Aside0 (Below w.heap.size w w'))
  case atStart => exact ⟨(0), (by first | rfl | (simp; done) | (simp [*]; done)), H', ⟨Nat.le_refl _⟩, ⟨bl_ HB⟩⟩
  case round =>
   clear H'
   try clear c1
   try clear p2
   try clear c3
   try clear c3b0
   try clear c3b1
   try clear c3b2
   obtain ⟨x5_1, rfl, HA, HK1, HB⟩ := hrel
   cases gk with
   | zero => exact absurd HA.out (by simp [laws_eqSatS.l0])
   | succ k1 =>
    have H := HA.out
    clear HA
    simp only [laws_eqSatS.l0] at H
    by_cases c4 : x5_1 < (l0.length : Int)
    ·rw [if_pos c4] at H
     have c4b0 := decide_eq_true c4
     clear c4
     replace H := ifn_ H
     obtain ⟨c5, H⟩ := H
     have c5b0 := decide_eq_true c5
     clear c5
     replace H := ifn_ H
     obtain ⟨c6, H⟩ := H
     have c6b0 := decide_eq_true c6
     clear c6
     replace H := bs_ H
     obtain ⟨t160, A7, H⟩ := H
     by_cases c8 : t160 = true
     ·subst c8
      try rw [if_pos rfl] at H
      have H' := Aside0.mk H
      clear H
      try go_wp2
      refine sh1_ (below_drew1 HB.out) ?_
      clear HB
      intro HB
      have p158 : 0 ≤ (x5_1 : Int) := od_
      have q158 : x5_1 < (l0.length : Int) := od_
      obtain ⟨ad158, e158, hx158_0, hx158_1, hx158_2, hx158_3⟩ := at_T105 HR0.out x5_1 p158 q158
      have hw158_3 := hx158_3
      have hw158_2 := hx158_2
      have hw158_1 := hx158_1
      have hw158_0 := hx158_0
      cases e158
      replace hx158_0 := hbc_ HB hx158_0
      replace hx158_1 := hbc_ HB hx158_1
      replace hx158_2 := hbc_ HB hx158_2
      replace hx158_3 := hbc_ HB hx158_3
      replace p158 := eq_true p158
      replace q158 := eq_true q158
      have p159 : 0 ≤ (x5_1 : Int) := od_
      have q159 : x5_1 < (l1.length : Int) := od_
      obtain ⟨ad159, e159, hx159_0, hx159_1, hx159_2, hx159_3⟩ := at_T105 HR1.out x5_1 p159 q159
      have hw159_3 := hx159_3
      have hw159_2 := hx159_2
      have hw159_1 := hx159_1
      have hw159_0 := hx159_0
      cases e159
      replace hx159_0 := hbc_ HB hx159_0
      replace hx159_1 := hbc_ HB hx159_1
      replace hx159_2 := hbc_ HB hx159_2
      replace hx159_3 := hbc_ HB hx159_3
      replace p159 := eq_true p159
      replace q159 := eq_true q159
      refine start_ (n := 10) (S := fun w' => w'.cell? (ad158.add ((x5_1).toNat * 4)) = some (.int .i64 ((rd_T105 l0 x5_1).f0)) ∧ w'.cell? ⟨(ad158.add ((x5_1).toNat * 4)).block, (ad158.add ((x5_1).toNat * 4)).off + 1, none⟩ = some (.int .i64 ((rd_T105 l0 x5_1).f1)) ∧ w'.cell? ⟨(ad158.add ((x5_1).toNat * 4)).block, (ad158.add ((x5_1).toNat * 4)).off + 2, none⟩ = some (.int .i64 ((rd_T105 l0 x5_1).f2)) ∧ w'.cell? ⟨(ad158.add ((x5_1).toNat * 4)).block, (ad158.add ((x5_1).toNat * 4)).off + 3, none⟩ = some (.int .i64 ((rd_T105 l0 x5_1).f3)) ∧ w'.cell? (ad159.add ((x5_1).toNat * 4)) = some (.int .i64 ((rd_T105 l1 x5_1).f0)) ∧ w'.cell? ⟨(ad159.add ((x5_1).toNat * 4)).block, (ad159.add ((x5_1).toNat * 4)).off + 1, none⟩ = some (.int .i64 ((rd_T105 l1 x5_1).f1)) ∧ w'.cell? ⟨(ad159.add ((x5_1).toNat * 4)).block, (ad159.add ((x5_1).toNat * 4)).off + 2, none⟩ = some (.int .i64 ((rd_T105 l1 x5_1).f2)) ∧ w'.cell? ⟨(ad159.add ((x5_1).toNat * 4)).block, (ad159.add ((x5_1).toNat * 4)).off + 3, none⟩ = some (.int .i64 ((rd_T105 l1 x5_1).f3))) (ds := []) #[false, false, false, false, false, false, false, false, false, false] (by kernel_rfl) rfl rfl ⟨((HB.out.cell (World.block_lt_of_cell? w _ hw158_0)).trans hw158_0), ((HB.out.cell (World.block_lt_of_cell? w _ hw158_1)).trans hw158_1), ((HB.out.cell (World.block_lt_of_cell? w _ hw158_2)).trans hw158_2), ((HB.out.cell (World.block_lt_of_cell? w _ hw158_3)).trans hw158_3), ((HB.out.cell (World.block_lt_of_cell? w _ hw159_0)).trans hw159_0), ((HB.out.cell (World.block_lt_of_cell? w _ hw159_1)).trans hw159_1), ((HB.out.cell (World.block_lt_of_cell? w _ hw159_2)).trans hw159_2), ((HB.out.cell (World.block_lt_of_cell? w _ hw159_3)).trans hw159_3)⟩ (fun hHeld => ?_); refine with_tabW laws_eqSatS.tab6 laws_eqSatS.bits6 (fun HT_ HW_ => ?_)
      generalize wr.drew = w9 at HB hx158_0 hx158_1 hx158_2 hx158_3 hx159_0 hx159_1 hx159_2 hx159_3 hHeld ⊢
      refine pur_ 0 #[true, false, false, false, false, false, false, false, false, false] (some 17) HT_ ?_
      refine pur_ 1 #[true, true, false, false, false, false, false, false, false, false] (some 18) HT_ ?_
      refine pur_ 2 #[true, true, true, false, false, false, false, false, false, false] (some 19) HT_ ?_
      refine pur_ 4 #[true, true, true, false, true, false, false, false, false, false] (some 21) HT_ ?_
      refine pur_ 5 #[true, true, true, false, true, true, false, false, false, false] (some 22) HT_ ?_
      refine pur_ 6 #[true, true, true, false, true, true, true, false, false, false] (some 23) HT_ ?_
      refine tak_ 3 #[true, true, true, true, true, true, true, false, false, false] (some 20) HT_ HW_ hHeld ?_
      refine tak_ 7 #[true, true, true, true, true, true, true, true, false, false] (some 24) HT_ HW_ hHeld ?_
      refine onc_ 8 #[true, true, true, true, true, true, true, true, true, false] (some 25) HT_ Try.func90 (laws_eqSat.calls ((rd_T105 l0 x5_1).f0) ((rd_T105 l0 x5_1).f1) ((rd_T105 l0 x5_1).f2) ((rd_T105 l0 x5_1).f3) ((rd_T105 l1 x5_1).f0) ((rd_T105 l1 x5_1).f1) ((rd_T105 l1 x5_1).f2) ((rd_T105 l1 x5_1).f3) true _ A7.out) ?_
      rintro e w10 ⟨rfl, hb⟩
      refine sh1_ (below_step (bl_ HB) hb) ?_
      clear HB hb
      intro HB
      refine ⟨_, _, rfl, ⟨((HB.out.cell (World.block_lt_of_cell? w _ hw158_0)).trans hw158_0), ((HB.out.cell (World.block_lt_of_cell? w _ hw158_1)).trans hw158_1), ((HB.out.cell (World.block_lt_of_cell? w _ hw158_2)).trans hw158_2), ((HB.out.cell (World.block_lt_of_cell? w _ hw158_3)).trans hw158_3), ((HB.out.cell (World.block_lt_of_cell? w _ hw159_0)).trans hw159_0), ((HB.out.cell (World.block_lt_of_cell? w _ hw159_1)).trans hw159_1), ((HB.out.cell (World.block_lt_of_cell? w _ hw159_2)).trans hw159_2), ((HB.out.cell (World.block_lt_of_cell? w _ hw159_3)).trans hw159_3)⟩, pt_, fun hHeld => ?_⟩
      refine pur_ 9 #[true, true, true, true, true, true, true, true, true, true] (some 26) HT_ ?_
      refine done_ (done_of HT_.out (by kernel_rfl)) ?_
      try go_wp2
      go_roundg k1
      case measure => have := HK1.out; omega
      case rel => exact ⟨(wrap64 (x5_1 + 1)), (by first | rfl | (simp; done) | (simp [*]; done)), H', ⟨by have := HK1.out; omega⟩, ⟨bl_ HB⟩⟩
     ·replace c8 := Bool.eq_false_iff.mpr c8
      subst c8
      have H1 : (some false) = some true := by first | (rw [if_neg (show ¬ (false = true) by decide)] at H; exact H) | rfl
      clear H
      have H := H1
      clear H1
      exact absurd H (by simp)
    ·rw [if_neg c4] at H
     have c4b0 : decide (x5_1 < (l0.length : Int)) = false := decide_eq_false c4
     clear c4
     clear H
     go_wp2
     go_ret
     exact ⟨er_, bl_ HB⟩
 ·rw [if_neg c3] at H
  obtain ⟨c3b0, c3b1⟩ := bn_ c3
  have c3b2 : (l0.length == l1.length) = false := by first | simpa using c3 | (simp at c3 ⊢; omega)
  exact absurd H (by simp)

/-! ### laws_eqSite: function 91 -/
def laws_eqSite.f (a0_0 : Int) (a0_1 : Int) (a0_2 : Int) (a1_0 : Int) (a1_1 : Int) (a1_2 : Int) : Option (Bool) := if a0_0 = a1_0 then (if a0_1 = a1_1 then (if a0_2 = a1_2 then (some true) else (some false)) else (some false)) else (some false)
set_option maxHeartbeats 8000000 in
set_option maxRecDepth 100000 in
theorem laws_eqSite.calls (a0_0 : Int) (a0_1 : Int) (a0_2 : Int) (a1_0 : Int) (a1_1 : Int) (a1_2 : Int) (r : Bool) (w : World) (h : laws_eqSite.f a0_0 a0_1 a0_2 a1_0 a1_1 a1_2 = some r) (hT_ : r = true := by rfl) :
  Calls Try.prog 91 #[.agg #[.int .i64 a0_0, .int .i64 a0_1, .int .i64 a0_2], .agg #[.int .i64 a1_0, .int .i64 a1_1, .int .i64 a1_2]] w fun e w' => e = .returned (.bool r) ∧ Below w.heap.size w w' := by
 have hu109 := Try.underlying109
 have HB := Aside0.mk (Below.refl w.heap.size w)
 subst hT_
 have H := h
 clear h
 unfold laws_eqSite.f at H
 by_cases c3 : a0_0 = a1_0
 ·rw [if_pos c3] at H
  obtain ⟨c3b0, c3b1⟩ := bt_ c3
  clear c3
  by_cases c4 : a0_1 = a1_1
  ·rw [if_pos c4] at H
   obtain ⟨c4b0, c4b1⟩ := bt_ c4
   clear c4
   by_cases c5 : a0_2 = a1_2
   ·rw [if_pos c5] at H
    obtain ⟨c5b0, c5b1⟩ := bt_ c5
    clear c5
    clear H
    go_enter Try.func91, Try.ntmps91
    go_wp2_with (first | ((with_reducible refine gd_ 2 ?_); refine bx_ 2 109 #[.int .i64 a0_0, .int .i64 a0_1, .int .i64 a0_2] ?_; intro gb161 hg w6 hbox hb; refine sh4_ (below_step (bl_ HB) hb) hbox (ge_ hg (bl_ HB)) (ge_ hg (bl_ HB)) ?_; clear HB hb hbox hg; intro HB BK161 GW161 GE161) | ((with_reducible refine gd_ 3 ?_); refine bx_ 3 109 #[.int .i64 a1_0, .int .i64 a1_1, .int .i64 a1_2] ?_; intro gb162 hg w7 hbox hb; refine sh7_ (blk_below (bk_ BK161) hb) (below_step (bl1_ HB GE161) hb) hbox (ge_ hg (bl1_ HB GE161)) (ge_ hg (bl1_ HB GE161)) (nl_ hg (bk_ BK161)) (ng_ hg (bk_ BK161)) ?_; clear BK161 HB hb hbox hg; intro BK161 HB BK162 GW162 GE162 NB161_162 NB162_161; have hnb8 := NB161_162.out; have hnc8 := NB162_161.out; have hcz9 := cf3_ BK161; have hcz10 := cf3_ BK162))
    go_ret
    exact ⟨er_, bl2_ HB GE161 GE162⟩
   ·rw [if_neg c5] at H
    obtain ⟨c5b0, c5b1⟩ := bn_ c5
    exact absurd H (by simp)
  ·rw [if_neg c4] at H
   obtain ⟨c4b0, c4b1⟩ := bn_ c4
   exact absurd H (by simp)
 ·rw [if_neg c3] at H
  obtain ⟨c3b0, c3b1⟩ := bn_ c3
  exact absurd H (by simp)

/-! ### laws_eqSiteS: function 53 -/
def laws_eqSiteS.l0 : Nat → List (S109) → List (S109) → Int → Option (Bool)
 | 0, _, _, _ => none
 | k + 1, x0, x1, x5 => if x5 < (x0.length : Int) then (if 0 ≤ x5 then (if x5 < (x1.length : Int) then ((laws_eqSite.f ((rd_T109 x0 x5).f0) ((rd_T109 x0 x5).f1) ((rd_T109 x0 x5).f2) ((rd_T109 x1 x5).f0) ((rd_T109 x1 x5).f1) ((rd_T109 x1 x5).f2)).bind fun t165 => (if t165 = true then (laws_eqSiteS.l0 k x0 x1 (wrap64 (x5 + 1))) else (some false))) else (none)) else (none)) else (some true)
def laws_eqSiteS.f (k : Nat) (l0 : List (S109)) (l1 : List (S109)) : Option (Bool) := if (l0.length : Int) = (l1.length : Int) then (laws_eqSiteS.l0 k l0 l1 0) else (some false)
theorem laws_eqSiteS.mono_l : ∀ k, (∀ y0 y1 y2, LeO (laws_eqSiteS.l0 k y0 y1 y2) (laws_eqSiteS.l0 (k + 1) y0 y1 y2))
 | 0 => fun _ _ _ r h => by simp [laws_eqSiteS.l0] at h
 | k + 1 => by
  have ih0 := laws_eqSiteS.mono_l k
  ·intro y0 y1 y2
   unfold laws_eqSiteS.l0
   repeat' first | (with_reducible first | exact ih0 _ _ _ | exact LeO.refl _ | exact LeO.none _ | refine LeO.ite ?_ ?_ | refine LeO.bind ?_ (fun _ => ?_)) | exact LeO.none _ | refine LeO.ite ?_ ?_ | refine LeO.bind ?_ (fun _ => ?_)
theorem laws_eqSiteS.mono : ∀ a0 a1 k, LeO (laws_eqSiteS.f k a0 a1) (laws_eqSiteS.f (k + 1) a0 a1) := by
 intro a0 a1 k
 have ih0 := laws_eqSiteS.mono_l k
 unfold laws_eqSiteS.f
 repeat' first | (with_reducible first | exact ih0 _ _ _ | exact LeO.refl _ | exact LeO.none _ | refine LeO.ite ?_ ?_ | refine LeO.bind ?_ (fun _ => ?_)) | exact LeO.none _ | refine LeO.ite ?_ ?_ | refine LeO.bind ?_ (fun _ => ?_)
def laws_eqSiteS.T6 : Bool × List (List Nat × List Nat) := (true, [([], []), ([], []), ([0, 1], [0, 1]), ([2], [2]), ([], []), ([], []), ([4, 5], [4, 5]), ([6], [6]), ([3, 7], [3, 7]), ([8], [8])])
def laws_eqSiteS.B6 : List Nat := [0, 0, 3, 7, 0, 0, 48, 112, 255, 511]
theorem laws_eqSiteS.tab6 : rtab .any (opsOf Try.f53 6) = laws_eqSiteS.T6 := by kernel_rfl
theorem laws_eqSiteS.bits6 : waitsOk laws_eqSiteS.T6.2 laws_eqSiteS.B6 = true := by kernel_rfl
set_option maxHeartbeats 8000000 in
set_option maxRecDepth 100000 in
theorem laws_eqSiteS.calls (k : Nat) (A0 : Option Addr) (c0 : Nat) (l0 : List (S109)) (A1 : Option Addr) (c1 : Nat) (l1 : List (S109)) (r : Bool) (w : World) (hr0 : Kd.C k109 w A0 l0.length l0) (hc0 : l0.length ≤ c0) (hr1 : Kd.C k109 w A1 l1.length l1) (hc1 : l1.length ≤ c1) (h : laws_eqSiteS.f k l0 l1 = some r) (hT_ : r = true := by rfl) :
  Calls Try.prog 53 #[.slice A0 l0.length c0, .slice A1 l1.length c1] w fun e w' => e = .returned (.bool r) ∧ Below w.heap.size w w' := by
 have hu109 := Try.underlying109
 have HR0 := Aside0.mk hr0
 have HC0 := Aside0.mk hc0
 clear hr0 hc0
 have HR1 := Aside0.mk hr1
 have HC1 := Aside0.mk hc1
 clear hr1 hc1
 have HB := Aside0.mk (Below.refl w.heap.size w)
 subst hT_
 have H := h
 clear h
 unfold laws_eqSiteS.f at H
 by_cases c3 : (l0.length : Int) = (l1.length : Int)
 ·rw [if_pos c3] at H
  obtain ⟨c3b0, c3b1⟩ := bt_ c3
  have c3b2 : (l0.length == l1.length) = true := by first | simpa using c3 | (simp at c3 ⊢; omega)
  clear c3
  have H' := Aside0.mk H
  clear H
  go_enter Try.func53, Try.ntmps53
  go_wp2
  go_loopg [5] k (fun kq v5 w' => ∃ (x5_1 : Int), v5 = .int .i64 x5_1 ∧ Aside0 (laws_eqSiteS.l0 kq l0 l1 x5_1 = some true) ∧ Aside0 (kq ≤ k) ∧ Aside0 (Below w.heap.size w w'))
  case atStart => exact ⟨(0), (by first | rfl | (simp; done) | (simp [*]; done)), H', ⟨Nat.le_refl _⟩, ⟨bl_ HB⟩⟩
  case round =>
   clear H'
   try clear c1
   try clear p2
   try clear c3
   try clear c3b0
   try clear c3b1
   try clear c3b2
   obtain ⟨x5_1, rfl, HA, HK1, HB⟩ := hrel
   cases gk with
   | zero => exact absurd HA.out (by simp [laws_eqSiteS.l0])
   | succ k1 =>
    have H := HA.out
    clear HA
    simp only [laws_eqSiteS.l0] at H
    by_cases c4 : x5_1 < (l0.length : Int)
    ·rw [if_pos c4] at H
     have c4b0 := decide_eq_true c4
     clear c4
     replace H := ifn_ H
     obtain ⟨c5, H⟩ := H
     have c5b0 := decide_eq_true c5
     clear c5
     replace H := ifn_ H
     obtain ⟨c6, H⟩ := H
     have c6b0 := decide_eq_true c6
     clear c6
     replace H := bs_ H
     obtain ⟨t165, A7, H⟩ := H
     by_cases c8 : t165 = true
     ·subst c8
      try rw [if_pos rfl] at H
      have H' := Aside0.mk H
      clear H
      try go_wp2
      refine sh1_ (below_drew1 HB.out) ?_
      clear HB
      intro HB
      have p163 : 0 ≤ (x5_1 : Int) := od_
      have q163 : x5_1 < (l0.length : Int) := od_
      obtain ⟨ad163, e163, hx163_0, hx163_1, hx163_2⟩ := at_T109 HR0.out x5_1 p163 q163
      have hw163_2 := hx163_2
      have hw163_1 := hx163_1
      have hw163_0 := hx163_0
      cases e163
      replace hx163_0 := hbc_ HB hx163_0
      replace hx163_1 := hbc_ HB hx163_1
      replace hx163_2 := hbc_ HB hx163_2
      replace p163 := eq_true p163
      replace q163 := eq_true q163
      have p164 : 0 ≤ (x5_1 : Int) := od_
      have q164 : x5_1 < (l1.length : Int) := od_
      obtain ⟨ad164, e164, hx164_0, hx164_1, hx164_2⟩ := at_T109 HR1.out x5_1 p164 q164
      have hw164_2 := hx164_2
      have hw164_1 := hx164_1
      have hw164_0 := hx164_0
      cases e164
      replace hx164_0 := hbc_ HB hx164_0
      replace hx164_1 := hbc_ HB hx164_1
      replace hx164_2 := hbc_ HB hx164_2
      replace p164 := eq_true p164
      replace q164 := eq_true q164
      refine start_ (n := 10) (S := fun w' => w'.cell? (ad163.add ((x5_1).toNat * 3)) = some (.int .i64 ((rd_T109 l0 x5_1).f0)) ∧ w'.cell? ⟨(ad163.add ((x5_1).toNat * 3)).block, (ad163.add ((x5_1).toNat * 3)).off + 1, none⟩ = some (.int .i64 ((rd_T109 l0 x5_1).f1)) ∧ w'.cell? ⟨(ad163.add ((x5_1).toNat * 3)).block, (ad163.add ((x5_1).toNat * 3)).off + 2, none⟩ = some (.int .i64 ((rd_T109 l0 x5_1).f2)) ∧ w'.cell? (ad164.add ((x5_1).toNat * 3)) = some (.int .i64 ((rd_T109 l1 x5_1).f0)) ∧ w'.cell? ⟨(ad164.add ((x5_1).toNat * 3)).block, (ad164.add ((x5_1).toNat * 3)).off + 1, none⟩ = some (.int .i64 ((rd_T109 l1 x5_1).f1)) ∧ w'.cell? ⟨(ad164.add ((x5_1).toNat * 3)).block, (ad164.add ((x5_1).toNat * 3)).off + 2, none⟩ = some (.int .i64 ((rd_T109 l1 x5_1).f2))) (ds := []) #[false, false, false, false, false, false, false, false, false, false] (by kernel_rfl) rfl rfl ⟨((HB.out.cell (World.block_lt_of_cell? w _ hw163_0)).trans hw163_0), ((HB.out.cell (World.block_lt_of_cell? w _ hw163_1)).trans hw163_1), ((HB.out.cell (World.block_lt_of_cell? w _ hw163_2)).trans hw163_2), ((HB.out.cell (World.block_lt_of_cell? w _ hw164_0)).trans hw164_0), ((HB.out.cell (World.block_lt_of_cell? w _ hw164_1)).trans hw164_1), ((HB.out.cell (World.block_lt_of_cell? w _ hw164_2)).trans hw164_2)⟩ (fun hHeld => ?_); refine with_tabW laws_eqSiteS.tab6 laws_eqSiteS.bits6 (fun HT_ HW_ => ?_)
      generalize wr.drew = w9 at HB hx163_0 hx163_1 hx163_2 hx164_0 hx164_1 hx164_2 hHeld ⊢
      refine pur_ 0 #[true, false, false, false, false, false, false, false, false, false] (some 17) HT_ ?_
      refine pur_ 1 #[true, true, false, false, false, false, false, false, false, false] (some 18) HT_ ?_
      refine pur_ 2 #[true, true, true, false, false, false, false, false, false, false] (some 19) HT_ ?_
      refine pur_ 4 #[true, true, true, false, true, false, false, false, false, false] (some 21) HT_ ?_
      refine pur_ 5 #[true, true, true, false, true, true, false, false, false, false] (some 22) HT_ ?_
      refine pur_ 6 #[true, true, true, false, true, true, true, false, false, false] (some 23) HT_ ?_
      refine tak_ 3 #[true, true, true, true, true, true, true, false, false, false] (some 20) HT_ HW_ hHeld ?_
      refine tak_ 7 #[true, true, true, true, true, true, true, true, false, false] (some 24) HT_ HW_ hHeld ?_
      refine onc_ 8 #[true, true, true, true, true, true, true, true, true, false] (some 25) HT_ Try.func91 (laws_eqSite.calls ((rd_T109 l0 x5_1).f0) ((rd_T109 l0 x5_1).f1) ((rd_T109 l0 x5_1).f2) ((rd_T109 l1 x5_1).f0) ((rd_T109 l1 x5_1).f1) ((rd_T109 l1 x5_1).f2) true _ A7.out) ?_
      rintro e w10 ⟨rfl, hb⟩
      refine sh1_ (below_step (bl_ HB) hb) ?_
      clear HB hb
      intro HB
      refine ⟨_, _, rfl, ⟨((HB.out.cell (World.block_lt_of_cell? w _ hw163_0)).trans hw163_0), ((HB.out.cell (World.block_lt_of_cell? w _ hw163_1)).trans hw163_1), ((HB.out.cell (World.block_lt_of_cell? w _ hw163_2)).trans hw163_2), ((HB.out.cell (World.block_lt_of_cell? w _ hw164_0)).trans hw164_0), ((HB.out.cell (World.block_lt_of_cell? w _ hw164_1)).trans hw164_1), ((HB.out.cell (World.block_lt_of_cell? w _ hw164_2)).trans hw164_2)⟩, pt_, fun hHeld => ?_⟩
      refine pur_ 9 #[true, true, true, true, true, true, true, true, true, true] (some 26) HT_ ?_
      refine done_ (done_of HT_.out (by kernel_rfl)) ?_
      try go_wp2
      go_roundg k1
      case measure => have := HK1.out; omega
      case rel => exact ⟨(wrap64 (x5_1 + 1)), (by first | rfl | (simp; done) | (simp [*]; done)), H', ⟨by have := HK1.out; omega⟩, ⟨bl_ HB⟩⟩
     ·replace c8 := Bool.eq_false_iff.mpr c8
      subst c8
      have H1 : (some false) = some true := by first | (rw [if_neg (show ¬ (false = true) by decide)] at H; exact H) | rfl
      clear H
      have H := H1
      clear H1
      exact absurd H (by simp)
    ·rw [if_neg c4] at H
     have c4b0 : decide (x5_1 < (l0.length : Int)) = false := decide_eq_false c4
     clear c4
     clear H
     go_wp2
     go_ret
     exact ⟨er_, bl_ HB⟩
 ·rw [if_neg c3] at H
  obtain ⟨c3b0, c3b1⟩ := bn_ c3
  have c3b2 : (l0.length == l1.length) = false := by first | simpa using c3 | (simp at c3 ⊢; omega)
  exact absurd H (by simp)

/-! ### laws_eqArc: function 108 -/
def laws_eqArc.f (a0_0 : Int) (a0_1 : Int) (a1_0 : Int) (a1_1 : Int) : Option (Bool) := if a0_0 = a1_0 then (if a0_1 = a1_1 then (some true) else (some false)) else (some false)
set_option maxHeartbeats 8000000 in
set_option maxRecDepth 100000 in
theorem laws_eqArc.calls (a0_0 : Int) (a0_1 : Int) (a1_0 : Int) (a1_1 : Int) (r : Bool) (w : World) (h : laws_eqArc.f a0_0 a0_1 a1_0 a1_1 = some r) (hT_ : r = true := by rfl) :
  Calls Try.prog 108 #[.agg #[.int .i64 a0_0, .int .i64 a0_1], .agg #[.int .i64 a1_0, .int .i64 a1_1]] w fun e w' => e = .returned (.bool r) ∧ Below w.heap.size w w' := by
 have hu113 := Try.underlying113
 have HB := Aside0.mk (Below.refl w.heap.size w)
 subst hT_
 have H := h
 clear h
 unfold laws_eqArc.f at H
 by_cases c3 : a0_0 = a1_0
 ·rw [if_pos c3] at H
  obtain ⟨c3b0, c3b1⟩ := bt_ c3
  clear c3
  by_cases c4 : a0_1 = a1_1
  ·rw [if_pos c4] at H
   obtain ⟨c4b0, c4b1⟩ := bt_ c4
   clear c4
   clear H
   go_enter Try.func108, Try.ntmps108
   go_wp2_with (first | ((with_reducible refine gd_ 2 ?_); refine bx_ 2 113 #[.int .i64 a0_0, .int .i64 a0_1] ?_; intro gb166 hg w5 hbox hb; refine sh4_ (below_step (bl_ HB) hb) hbox (ge_ hg (bl_ HB)) (ge_ hg (bl_ HB)) ?_; clear HB hb hbox hg; intro HB BK166 GW166 GE166) | ((with_reducible refine gd_ 3 ?_); refine bx_ 3 113 #[.int .i64 a1_0, .int .i64 a1_1] ?_; intro gb167 hg w6 hbox hb; refine sh7_ (blk_below (bk_ BK166) hb) (below_step (bl1_ HB GE166) hb) hbox (ge_ hg (bl1_ HB GE166)) (ge_ hg (bl1_ HB GE166)) (nl_ hg (bk_ BK166)) (ng_ hg (bk_ BK166)) ?_; clear BK166 HB hb hbox hg; intro BK166 HB BK167 GW167 GE167 NB166_167 NB167_166; have hnb7 := NB166_167.out; have hnc7 := NB167_166.out; have hcz8 := cf2_ BK166; have hcz9 := cf2_ BK167))
   go_ret
   exact ⟨er_, bl2_ HB GE166 GE167⟩
  ·rw [if_neg c4] at H
   obtain ⟨c4b0, c4b1⟩ := bn_ c4
   exact absurd H (by simp)
 ·rw [if_neg c3] at H
  obtain ⟨c3b0, c3b1⟩ := bn_ c3
  exact absurd H (by simp)

/-! ### laws_eqZone: function 92 -/
def laws_eqZone.f (a0_0 : Int) (a0_1 : Int) (a0_2 : Int) (a1_0 : Int) (a1_1 : Int) (a1_2 : Int) : Option (Bool) := if a0_0 = a1_0 then ((laws_eqArc.f a0_1 a0_2 a1_1 a1_2).bind fun t170 => (if t170 = true then (some true) else (some false))) else (some false)
set_option maxHeartbeats 8000000 in
set_option maxRecDepth 100000 in
theorem laws_eqZone.calls (a0_0 : Int) (a0_1 : Int) (a0_2 : Int) (a1_0 : Int) (a1_1 : Int) (a1_2 : Int) (r : Bool) (w : World) (h : laws_eqZone.f a0_0 a0_1 a0_2 a1_0 a1_1 a1_2 = some r) (hT_ : r = true := by rfl) :
  Calls Try.prog 92 #[.agg #[.int .i64 a0_0, .int .i64 a0_1, .int .i64 a0_2], .agg #[.int .i64 a1_0, .int .i64 a1_1, .int .i64 a1_2]] w fun e w' => e = .returned (.bool r) ∧ Below w.heap.size w w' := by
 have hu115 := Try.underlying115
 have hu113 := Try.underlying113
 have HB := Aside0.mk (Below.refl w.heap.size w)
 subst hT_
 have H := h
 clear h
 unfold laws_eqZone.f at H
 by_cases c3 : a0_0 = a1_0
 ·rw [if_pos c3] at H
  obtain ⟨c3b0, c3b1⟩ := bt_ c3
  clear c3
  replace H := bs_ H
  obtain ⟨t170, A4, H⟩ := H
  by_cases c5 : t170 = true
  ·subst c5
   try rw [if_pos rfl] at H
   clear H
   go_enter Try.func92, Try.ntmps92
   go_wp2_with (first | ((with_reducible refine gd_ 2 ?_); refine bx_ 2 115 #[.int .i64 a0_0, .int .i64 a0_1, .int .i64 a0_2] ?_; intro gb168 hg w6 hbox hb; refine sh4_ (below_step (bl_ HB) hb) hbox (ge_ hg (bl_ HB)) (ge_ hg (bl_ HB)) ?_; clear HB hb hbox hg; intro HB BK168 GW168 GE168) | ((with_reducible refine gd_ 3 ?_); refine bx_ 3 115 #[.int .i64 a1_0, .int .i64 a1_1, .int .i64 a1_2] ?_; intro gb169 hg w7 hbox hb; refine sh7_ (blk_below (bk_ BK168) hb) (below_step (bl1_ HB GE168) hb) hbox (ge_ hg (bl1_ HB GE168)) (ge_ hg (bl1_ HB GE168)) (nl_ hg (bk_ BK168)) (ng_ hg (bk_ BK168)) ?_; clear BK168 HB hb hbox hg; intro BK168 HB BK169 GW169 GE169 NB168_169 NB169_168; have hnb8 := NB168_169.out; have hnc8 := NB169_168.out; have hcz9 := cf3_ BK168; have hcz10 := cf3_ BK169) | ((with_reducible refine gate_callee (f := 108) rfl ?_); refine gl_ 14 Try.func108 (laws_eqArc.calls a0_1 a0_2 a1_1 a1_2 true _ A4.out) ?_; rintro e w11 ⟨rfl, hb⟩; refine ⟨_, rfl, sh3_ (blk_below (bk_ BK168) hb) (blk_below (bk_ BK169) hb) (below_step (bl2_ HB GE168 GE169) hb) ?_⟩; clear BK168 BK169 HB hb; intro BK168 BK169 HB))
   go_ret
   exact ⟨er_, bl2_ HB GE168 GE169⟩
  ·replace c5 := Bool.eq_false_iff.mpr c5
   subst c5
   have H1 : (some false) = some true := by first | (rw [if_neg (show ¬ (false = true) by decide)] at H; exact H) | rfl
   clear H
   have H := H1
   clear H1
   exact absurd H (by simp)
 ·rw [if_neg c3] at H
  obtain ⟨c3b0, c3b1⟩ := bn_ c3
  exact absurd H (by simp)

end Go.Proofs.Ytcjfalmhohcifaa.PFnExactSureShare
