-- Written by a program of this session for this claim (the kit's printer with changes).
import Derived.Test.YtopbkdcicidajaaQFnWeatherx0
import Derived.Test.YtopbkdcicidajaaQFnWeatherx1
import Derived.Test.YtopbkdcicidajaaQFnWeatherx2
import Derived.Test.YtopbkdcicidajaaQFnWeatherx3
import Derived.Test.YtopbkdcicidajaaQFnWeatherx4
import Derived.Test.YtopbkdcicidajaaQFnWeatherx5
namespace Go.Proofs.Ytopbkdcicidajaa.PFnWeather
open Go.RowKit Go.Proofs.YtopbkdcicidajaaW.PrintWords Go.Proofs.YtopbkdcicidajaaW.PrintLast Go.Proofs.YtopbkdcicidajaaW.PrintMore
attribute [local go_sem] max2_int min2_int max_two min_two max_three min_three max_four min_four   -- for this text's walks alone
set_option linter.unusedVariables false
set_option linter.unusedSimpArgs false

/-! ### impl_ContactTicks: function 90 -/
def impl_ContactTicks.l0 : Nat → Int → List (S53) → Int → Int → Option (Int)
 | 0, _, _, _, _ => none
 | k + 1, x3, x6, x7, x8 => if x8 < x7 then (if 0 ≤ x8 then (if x8 < (x6.length : Int) then ((impl_spanOf.f ((rd_T53 x6 x8).f0) ((rd_T53 x6 x8).f1) ((rd_T53 x6 x8).f2) ((rd_T53 x6 x8).f3)).bind fun bt428 => ((impl_IsSpan.f bt428.1 bt428.2).bind fun t430 => (if t430 = true then (impl_ContactTicks.l0 k (wrap64 (x3 + (wrap64 (((rd_T53 x6 x8).f3) - ((rd_T53 x6 x8).f2))))) x6 x7 (wrap64 (x8 + 1))) else (impl_ContactTicks.l0 k x3 x6 x7 (wrap64 (x8 + 1)))))) else (none)) else (none)) else (some x3)
def impl_ContactTicks.f (k : Nat) (l0 : List (S53)) : Option (Int) := impl_ContactTicks.l0 k 0 l0 (l0.length : Int) 0
theorem impl_ContactTicks.mono_l : ∀ k, (∀ y0 y1 y2 y3, LeO (impl_ContactTicks.l0 k y0 y1 y2 y3) (impl_ContactTicks.l0 (k + 1) y0 y1 y2 y3))
 | 0 => fun _ _ _ _ r h => by simp [impl_ContactTicks.l0] at h
 | k + 1 => by
  have ih0 := impl_ContactTicks.mono_l k
  ·intro y0 y1 y2 y3
   unfold impl_ContactTicks.l0
   repeat' first | (with_reducible first | exact ih0 _ _ _ _ | exact LeO.refl _ | exact LeO.none _ | refine LeO.ite ?_ ?_ | refine LeO.bind ?_ (fun _ => ?_)) | exact LeO.none _ | refine LeO.ite ?_ ?_ | refine LeO.bind ?_ (fun _ => ?_)
theorem impl_ContactTicks.mono : ∀ a0 k, LeO (impl_ContactTicks.f k a0) (impl_ContactTicks.f (k + 1) a0) := by
 intro a0 k
 have ih0 := impl_ContactTicks.mono_l k
 unfold impl_ContactTicks.f
 repeat' first | (with_reducible first | exact ih0 _ _ _ _ | exact LeO.refl _ | exact LeO.none _ | refine LeO.ite ?_ ?_ | refine LeO.bind ?_ (fun _ => ?_)) | exact LeO.none _ | refine LeO.ite ?_ ?_ | refine LeO.bind ?_ (fun _ => ?_)
set_option maxHeartbeats 8000000 in
set_option maxRecDepth 100000 in
theorem impl_ContactTicks.calls (k : Nat) (A0 : Option Addr) (c0 : Nat) (l0 : List (S53)) (r : Int) (w : World) (hr0 : Kd.C k53 w A0 l0.length l0) (hc0 : l0.length ≤ c0) (h : impl_ContactTicks.f k l0 = some r) :
  Calls Try.prog 90 #[.slice A0 l0.length c0] w fun e w' => e = .returned (.int .i64 r) ∧ Below w.heap.size w w' := by
 have hu53 := Try.underlying53
 have HR0 := Aside0.mk hr0
 have HC0 := Aside0.mk hc0
 clear hr0 hc0
 have HB := Aside0.mk (Below.refl w.heap.size w)
 have H := h
 clear h
 unfold impl_ContactTicks.f at H
 have H' := Aside0.mk H
 clear H
 go_enter Try.func90, Try.ntmps90
 go_wp2
 go_loopg [3, 8] k (fun kq v3 v8 w' => ∃ (x3_1 : Int) (x8_1 : Int), v3 = .int .i64 x3_1 ∧ v8 = .int .i64 x8_1 ∧ Aside0 (impl_ContactTicks.l0 kq x3_1 l0 (l0.length : Int) x8_1 = some r) ∧ Aside0 (kq ≤ k) ∧ Aside0 (Below w.heap.size w w'))
 case atStart => exact ⟨(0), (0), (by first | rfl | (simp; done) | (simp [*]; done)), (by first | rfl | (simp; done) | (simp [*]; done)), H', ⟨Nat.le_refl _⟩, ⟨bl_ HB⟩⟩
 case round =>
  clear H'
  obtain ⟨x3_1, x8_1, rfl, rfl, HA, HK1, HB⟩ := hrel
  cases gk with
  | zero => exact absurd HA.out (by simp [impl_ContactTicks.l0])
  | succ k1 =>
   have H := HA.out
   clear HA
   simp only [impl_ContactTicks.l0] at H
   by_cases c2 : x8_1 < (l0.length : Int)
   ·rw [if_pos c2] at H
    have c2b0 := decide_eq_true c2
    clear c2
    replace H := ifn_ H
    obtain ⟨c3, H⟩ := H
    have c3b0 := decide_eq_true c3
    clear c3
    replace H := ifn_ H
    obtain ⟨c4, H⟩ := H
    have c4b0 := decide_eq_true c4
    clear c4
    replace H := bs_ H
    obtain ⟨⟨t428, t429⟩, A5, H⟩ := H
    dsimp only at H
    replace H := bs_ H
    obtain ⟨t430, A6, H⟩ := H
    by_cases c7 : t430 = true
    ·subst c7
     rw [if_pos rfl] at H
     have H' := Aside0.mk H
     clear H
     have p426 : 0 ≤ (x8_1 : Int) := od_
     have q426 : x8_1 < (l0.length : Int) := od_
     obtain ⟨ad426, e426, hx426_0, hx426_1, hx426_2, hx426_3⟩ := at_T53 HR0.out x8_1 p426 q426
     cases e426
     replace hx426_0 := hbc_ HB hx426_0
     replace hx426_1 := hbc_ HB hx426_1
     replace hx426_2 := hbc_ HB hx426_2
     replace hx426_3 := hbc_ HB hx426_3
     replace p426 := eq_true p426
     replace q426 := eq_true q426
     go_wp2_with (first | ((with_reducible refine gd_ 5 ?_); refine bx_ 5 53 #[.int .i64 0, .int .i64 0, .int .i64 0, .int .i64 0] ?_; intro gb427 hg w8 hbox hb; refine sh4_ (below_step (bl_ HB) hb) hbox (ge_ hg (bl_ HB)) (ge_ hg (bl_ HB)) ?_; clear HB hb hbox hg; intro HB BK427 GW427 GE427; have hcz9 := cf4_ BK427) | ((with_reducible refine gate_callee (f := 86) rfl ?_); refine gl_ 13 Try.func86 (impl_spanOf.calls ((rd_T53 l0 x8_1).f0) ((rd_T53 l0 x8_1).f1) ((rd_T53 l0 x8_1).f2) ((rd_T53 l0 x8_1).f3) t428 t429 _ A5.out) ?_; rintro e w10 ⟨rfl, hb⟩; refine ⟨_, rfl, sh2_ (blk_below (g := gb427) (o := .cells #[.int .i64 ((rd_T53 l0 x8_1).f0), .int .i64 ((rd_T53 l0 x8_1).f1), .int .i64 ((rd_T53 l0 x8_1).f2), .int .i64 ((rd_T53 l0 x8_1).f3)] 53 (0, 0)) (by (with_reducible repeat (first | refine blk_drewN ?_ _ | refine blk_drew ?_ | refine blk_alloc ?_ _)); refine blk_put (cs := #[.int .i64 ((rd_T53 l0 x8_1).f0), .int .i64 ((rd_T53 l0 x8_1).f1), .int .i64 ((rd_T53 l0 x8_1).f2), .int .i64 0]) ?_ 3 _ rfl; (with_reducible repeat (first | refine blk_drewN ?_ _ | refine blk_drew ?_ | refine blk_alloc ?_ _)); refine blk_put (cs := #[.int .i64 ((rd_T53 l0 x8_1).f0), .int .i64 ((rd_T53 l0 x8_1).f1), .int .i64 0, .int .i64 0]) ?_ 2 _ rfl; (with_reducible repeat (first | refine blk_drewN ?_ _ | refine blk_drew ?_ | refine blk_alloc ?_ _)); refine blk_put (cs := #[.int .i64 ((rd_T53 l0 x8_1).f0), .int .i64 0, .int .i64 0, .int .i64 0]) ?_ 1 _ rfl; (with_reducible repeat (first | refine blk_drewN ?_ _ | refine blk_drew ?_ | refine blk_alloc ?_ _)); refine blk_put (cs := #[.int .i64 0, .int .i64 0, .int .i64 0, .int .i64 0]) ?_ 0 _ rfl; (with_reducible repeat (first | refine blk_drewN ?_ _ | refine blk_drew ?_ | refine blk_alloc ?_ _)); exact BK427.out) hb) (below_step (bl1_ HB GE427) hb) ?_⟩; clear BK427 HB hb; intro BK427 HB) | ((with_reducible refine gate_callee (f := 99) rfl ?_); refine gl_ 14 Try.func99 (impl_IsSpan.calls t428 t429 true _ A6.out) ?_; rintro e w11 ⟨rfl, hb⟩; refine ⟨_, rfl, sh2_ (blk_below (bk_ BK427) hb) (below_step (bl1_ HB GE427) hb) ?_⟩; clear BK427 HB hb; intro BK427 HB; have hcz12 := cf4_ BK427))
     go_roundg k1
     case measure => have := HK1.out; omega
     case rel => exact ⟨(wrap64 (x3_1 + (wrap64 (((rd_T53 l0 x8_1).f3) - ((rd_T53 l0 x8_1).f2))))), (wrap64 (x8_1 + 1)), (by first | rfl | (simp; done) | (simp [*]; done)), (by first | rfl | (simp; done) | (simp [*]; done)), H', ⟨by have := HK1.out; omega⟩, ⟨bl1_ HB GE427⟩⟩
    ·replace c7 := Bool.eq_false_iff.mpr c7
     subst c7
     have H1 : (impl_ContactTicks.l0 k1 x3_1 l0 (l0.length : Int) (wrap64 (x8_1 + 1))) = some r := by rw [if_neg (show ¬ (false = true) by decide)] at H; exact H
     clear H
     have H := H1
     clear H1
     have H' := Aside0.mk H
     clear H
     have p426 : 0 ≤ (x8_1 : Int) := od_
     have q426 : x8_1 < (l0.length : Int) := od_
     obtain ⟨ad426, e426, hx426_0, hx426_1, hx426_2, hx426_3⟩ := at_T53 HR0.out x8_1 p426 q426
     cases e426
     replace hx426_0 := hbc_ HB hx426_0
     replace hx426_1 := hbc_ HB hx426_1
     replace hx426_2 := hbc_ HB hx426_2
     replace hx426_3 := hbc_ HB hx426_3
     replace p426 := eq_true p426
     replace q426 := eq_true q426
     go_wp2_with (first | ((with_reducible refine gd_ 5 ?_); refine bx_ 5 53 #[.int .i64 0, .int .i64 0, .int .i64 0, .int .i64 0] ?_; intro gb427 hg w13 hbox hb; refine sh4_ (below_step (bl_ HB) hb) hbox (ge_ hg (bl_ HB)) (ge_ hg (bl_ HB)) ?_; clear HB hb hbox hg; intro HB BK427 GW427 GE427; have hcz14 := cf4_ BK427) | ((with_reducible refine gate_callee (f := 86) rfl ?_); refine gl_ 13 Try.func86 (impl_spanOf.calls ((rd_T53 l0 x8_1).f0) ((rd_T53 l0 x8_1).f1) ((rd_T53 l0 x8_1).f2) ((rd_T53 l0 x8_1).f3) t428 t429 _ A5.out) ?_; rintro e w15 ⟨rfl, hb⟩; refine ⟨_, rfl, sh2_ (blk_below (g := gb427) (o := .cells #[.int .i64 ((rd_T53 l0 x8_1).f0), .int .i64 ((rd_T53 l0 x8_1).f1), .int .i64 ((rd_T53 l0 x8_1).f2), .int .i64 ((rd_T53 l0 x8_1).f3)] 53 (0, 0)) (by (with_reducible repeat (first | refine blk_drewN ?_ _ | refine blk_drew ?_ | refine blk_alloc ?_ _)); refine blk_put (cs := #[.int .i64 ((rd_T53 l0 x8_1).f0), .int .i64 ((rd_T53 l0 x8_1).f1), .int .i64 ((rd_T53 l0 x8_1).f2), .int .i64 0]) ?_ 3 _ rfl; (with_reducible repeat (first | refine blk_drewN ?_ _ | refine blk_drew ?_ | refine blk_alloc ?_ _)); refine blk_put (cs := #[.int .i64 ((rd_T53 l0 x8_1).f0), .int .i64 ((rd_T53 l0 x8_1).f1), .int .i64 0, .int .i64 0]) ?_ 2 _ rfl; (with_reducible repeat (first | refine blk_drewN ?_ _ | refine blk_drew ?_ | refine blk_alloc ?_ _)); refine blk_put (cs := #[.int .i64 ((rd_T53 l0 x8_1).f0), .int .i64 0, .int .i64 0, .int .i64 0]) ?_ 1 _ rfl; (with_reducible repeat (first | refine blk_drewN ?_ _ | refine blk_drew ?_ | refine blk_alloc ?_ _)); refine blk_put (cs := #[.int .i64 0, .int .i64 0, .int .i64 0, .int .i64 0]) ?_ 0 _ rfl; (with_reducible repeat (first | refine blk_drewN ?_ _ | refine blk_drew ?_ | refine blk_alloc ?_ _)); exact BK427.out) hb) (below_step (bl1_ HB GE427) hb) ?_⟩; clear BK427 HB hb; intro BK427 HB) | ((with_reducible refine gate_callee (f := 99) rfl ?_); refine gl_ 14 Try.func99 (impl_IsSpan.calls t428 t429 false _ A6.out) ?_; rintro e w16 ⟨rfl, hb⟩; refine ⟨_, rfl, sh2_ (blk_below (bk_ BK427) hb) (below_step (bl1_ HB GE427) hb) ?_⟩; clear BK427 HB hb; intro BK427 HB))
     go_roundg k1
     case measure => have := HK1.out; omega
     case rel => exact ⟨(x3_1), (wrap64 (x8_1 + 1)), (by first | rfl | (simp; done) | (simp [*]; done)), (by first | rfl | (simp; done) | (simp [*]; done)), H', ⟨by have := HK1.out; omega⟩, ⟨bl1_ HB GE427⟩⟩
   ·rw [if_neg c2] at H
    have c2b0 : decide (x8_1 < (l0.length : Int)) = false := decide_eq_false c2
    clear c2
    obtain rfl := Option.some.inj H
    go_wp2
    go_ret
    exact ⟨by first | (rw [hRT_.out]; rfl) | exact er_, bl_ HB⟩

/-! ### impl_LostTicks: function 47 -/
def impl_LostTicks.f (k : Nat) (l0 : List (S53)) (l1 : List (S121)) : Option (Int) := (impl_ContactTicks.f k l0).bind fun t431 => ((impl_CutClouds.f k l0 l1).bind fun t432 => ((impl_ContactTicks.f k t432).bind fun t435 => (some (wrap64 (t431 - t435)))))
theorem impl_LostTicks.mono : ∀ a0 a1 k, LeO (impl_LostTicks.f k a0 a1) (impl_LostTicks.f (k + 1) a0 a1) := by
 intro a0 a1 k
 unfold impl_LostTicks.f
 repeat' first | (with_reducible first | exact impl_ContactTicks.mono _ _ | exact impl_CutClouds.mono _ _ _ | exact LeO.refl _ | exact LeO.none _ | refine LeO.ite ?_ ?_ | refine LeO.bind ?_ (fun _ => ?_)) | exact LeO.none _ | refine LeO.ite ?_ ?_ | refine LeO.bind ?_ (fun _ => ?_)
set_option maxHeartbeats 8000000 in
set_option maxRecDepth 100000 in
theorem impl_LostTicks.calls (k : Nat) (A0 : Option Addr) (c0 : Nat) (l0 : List (S53)) (A1 : Option Addr) (c1 : Nat) (l1 : List (S121)) (r : Int) (w : World) (hr0 : Kd.C k53 w A0 l0.length l0) (hc0 : l0.length ≤ c0) (hr1 : Kd.C k121 w A1 l1.length l1) (hc1 : l1.length ≤ c1) (h : impl_LostTicks.f k l0 l1 = some r) :
  Calls Try.prog 47 #[.slice A0 l0.length c0, .slice A1 l1.length c1] w fun e w' => e = .returned (.int .i64 r) ∧ Below w.heap.size w w' := by
 have HR0 := Aside0.mk hr0
 have HC0 := Aside0.mk hc0
 clear hr0 hc0
 have HR1 := Aside0.mk hr1
 have HC1 := Aside0.mk hc1
 clear hr1 hc1
 have HB := Aside0.mk (Below.refl w.heap.size w)
 have H := h
 clear h
 unfold impl_LostTicks.f at H
 replace H := bs_ H
 obtain ⟨t431, A3, H⟩ := H
 replace H := bs_ H
 obtain ⟨t432, A4, H⟩ := H
 replace H := bs_ H
 obtain ⟨t435, A5, H⟩ := H
 obtain rfl := Option.some.inj H
 go_enter Try.func47, Try.ntmps47
 go_wp2_with (first | ((with_reducible refine gate_callee (f := 90) rfl ?_); refine gl_ 6 Try.func90 (impl_ContactTicks.calls k _ _ l0 t431 _ (cq_ HR0) HC0.out A3.out) ?_; rintro e w6 ⟨rfl, hb⟩; refine ⟨_, rfl, sh1_ (below_step (bl_ HB) hb) ?_⟩; clear HB hb; intro HB) | ((with_reducible refine gate_callee (f := 44) rfl ?_); refine gl_ 9 Try.func44 (impl_CutClouds.calls k _ _ l0 _ _ l1 t432 _ (ck_ HR0 HB) HC0.out (ck_ HR1 HB) HC1.out A4.out) ?_; rintro e w7 ⟨v433, rfl, ho0, hb⟩; refine ⟨_, rfl, sh2_ (Kd.R_lower ho0 (below_size (bl_ HB))) (below_step (bl_ HB) hb) ?_⟩; clear HB hb ho0; intro HO434 HB; obtain ⟨Ao8, co8, eo8⟩ := Kd.R_slice HO434.out; subst eo8) | ((with_reducible refine gate_callee (f := 90) rfl ?_); refine gl_ 10 Try.func90 (impl_ContactTicks.calls k _ _ t432 t435 _ (cr_ HO434) (rl_ HO434) A5.out) ?_; rintro e w9 ⟨rfl, hb⟩; refine ⟨_, rfl, sh2_ (Kd.R_below (ra_ HO434) hb) (below_step (bl_ HB) hb) ?_⟩; clear HO434 HB hb; intro HO434 HB))
 go_ret
 exact ⟨by first | (rw [hRT_.out]; rfl) | exact er_, bl_ HB⟩

/-! ### laws_FnWeather: function 7 -/
mutual
def laws_FnWeather.l0 : Nat → List (S53) → List (S121) → List (S53) → Int → Option (Bool)
 | 0, _, _, _, _ => none
 | k + 1, x3, x4, x5, x6 => if x6 < 4 then (laws_FnWeather.l1 k x3 x4 x5 x6 (wrap64 (x6 + 1))) else ((impl_LostTicks.f k x3 x4).bind fun t449 => (if t449 ≥ 0 then ((impl_IsPlan.f k x3 4).bind fun t450 => (if t450 = true then ((impl_IsPlan.f k x5 4).bind fun t451 => (some t451)) else (some true))) else (some false)))
def laws_FnWeather.l1 : Nat → List (S53) → List (S121) → List (S53) → Int → Int → Option (Bool)
 | 0, _, _, _, _, _ => none
 | k + 1, x3, x4, x5, x6, x7 => if x7 < 4 then (laws_FnWeather.l2 k x3 x4 x5 x6 x7 0) else (laws_FnWeather.l0 k x3 x4 x5 (wrap64 (x6 + 1)))
def laws_FnWeather.l2 : Nat → List (S53) → List (S121) → List (S53) → Int → Int → Int → Option (Bool)
 | 0, _, _, _, _, _, _ => none
 | k + 1, x3, x4, x5, x6, x7, x8 => if x8 ≤ 24 then ((impl_IsCovered.f k x4 x6 x8).bind fun t452 => (if t452 = true then (laws_FnWeather.j3 k x3 x4 x5 x6 x7 x8 false) else ((impl_IsCovered.f k x4 x7 x8).bind fun t453 => (laws_FnWeather.j3 k x3 x4 x5 x6 x7 x8 (!t453))))) else (laws_FnWeather.l1 k x3 x4 x5 x6 (wrap64 (x7 + 1)))
def laws_FnWeather.j3 : Nat → List (S53) → List (S121) → List (S53) → Int → Int → Int → Bool → Option (Bool)
 | 0, _, _, _, _, _, _, _ => none
 | k + 1, x3, x4, x5, x6, x7, x8, x9 => (impl_CanSpeak.f k x5 x6 x7 x8).bind fun t454 => (if x9 = true then ((impl_CanSpeak.f k x3 x6 x7 x8).bind fun t455 => (if (t454 != t455) = true then (some false) else (laws_FnWeather.l2 k x3 x4 x5 x6 x7 (wrap64 (x8 + 1))))) else (if (t454 != false) = true then (some false) else (laws_FnWeather.l2 k x3 x4 x5 x6 x7 (wrap64 (x8 + 1)))))
end
def laws_FnWeather.f (k : Nat) (l0 : List Int) : Option (Bool) := (laws_big.f l0).bind fun t436 => (if t436 = true then (some true) else ((spec_DrawCutClouds.f k l0).bind fun bt437 => ((impl_CutClouds.f k bt437.1 bt437.2).bind fun t443 => ((spec_CutClouds.f k bt437.1 bt437.2).bind fun t446 => (if (t443.length : Int) = (t446.length : Int) then (laws_FnWeather.l0 k bt437.1 bt437.2 t443 0) else (some false))))))
theorem laws_FnWeather.mono_l : ∀ k, (∀ y0 y1 y2 y3, LeO (laws_FnWeather.l0 k y0 y1 y2 y3) (laws_FnWeather.l0 (k + 1) y0 y1 y2 y3)) ∧ (∀ y0 y1 y2 y3 y4, LeO (laws_FnWeather.l1 k y0 y1 y2 y3 y4) (laws_FnWeather.l1 (k + 1) y0 y1 y2 y3 y4)) ∧ (∀ y0 y1 y2 y3 y4 y5, LeO (laws_FnWeather.l2 k y0 y1 y2 y3 y4 y5) (laws_FnWeather.l2 (k + 1) y0 y1 y2 y3 y4 y5)) ∧ (∀ y0 y1 y2 y3 y4 y5 y6, LeO (laws_FnWeather.j3 k y0 y1 y2 y3 y4 y5 y6) (laws_FnWeather.j3 (k + 1) y0 y1 y2 y3 y4 y5 y6))
 | 0 => ⟨fun _ _ _ _ r h => by simp [laws_FnWeather.l0] at h, fun _ _ _ _ _ r h => by simp [laws_FnWeather.l1] at h, fun _ _ _ _ _ _ r h => by simp [laws_FnWeather.l2] at h, fun _ _ _ _ _ _ _ r h => by simp [laws_FnWeather.j3] at h⟩
 | k + 1 => by
  obtain ⟨ih0, ih1, ih2, ih3⟩ := laws_FnWeather.mono_l k
  refine ⟨?_, ?_, ?_, ?_⟩
  ·intro y0 y1 y2 y3
   unfold laws_FnWeather.l0
   repeat' first | (with_reducible first | exact ih0 _ _ _ _ | exact ih1 _ _ _ _ _ | exact ih2 _ _ _ _ _ _ | exact ih3 _ _ _ _ _ _ _ | exact impl_CanSpeak.mono _ _ _ _ _ | exact impl_CutClouds.mono _ _ _ | exact impl_IsCovered.mono _ _ _ _ | exact impl_IsPlan.mono _ _ _ | exact impl_LostTicks.mono _ _ _ | exact spec_CutClouds.mono _ _ _ | exact spec_DrawCutClouds.mono _ _ | exact LeO.refl _ | exact LeO.none _ | refine LeO.ite ?_ ?_ | refine LeO.bind ?_ (fun _ => ?_)) | exact LeO.none _ | refine LeO.ite ?_ ?_ | refine LeO.bind ?_ (fun _ => ?_)
  ·intro y0 y1 y2 y3 y4
   unfold laws_FnWeather.l1
   repeat' first | (with_reducible first | exact ih0 _ _ _ _ | exact ih1 _ _ _ _ _ | exact ih2 _ _ _ _ _ _ | exact ih3 _ _ _ _ _ _ _ | exact impl_CanSpeak.mono _ _ _ _ _ | exact impl_CutClouds.mono _ _ _ | exact impl_IsCovered.mono _ _ _ _ | exact impl_IsPlan.mono _ _ _ | exact impl_LostTicks.mono _ _ _ | exact spec_CutClouds.mono _ _ _ | exact spec_DrawCutClouds.mono _ _ | exact LeO.refl _ | exact LeO.none _ | refine LeO.ite ?_ ?_ | refine LeO.bind ?_ (fun _ => ?_)) | exact LeO.none _ | refine LeO.ite ?_ ?_ | refine LeO.bind ?_ (fun _ => ?_)
  ·intro y0 y1 y2 y3 y4 y5
   unfold laws_FnWeather.l2
   repeat' first | (with_reducible first | exact ih0 _ _ _ _ | exact ih1 _ _ _ _ _ | exact ih2 _ _ _ _ _ _ | exact ih3 _ _ _ _ _ _ _ | exact impl_CanSpeak.mono _ _ _ _ _ | exact impl_CutClouds.mono _ _ _ | exact impl_IsCovered.mono _ _ _ _ | exact impl_IsPlan.mono _ _ _ | exact impl_LostTicks.mono _ _ _ | exact spec_CutClouds.mono _ _ _ | exact spec_DrawCutClouds.mono _ _ | exact LeO.refl _ | exact LeO.none _ | refine LeO.ite ?_ ?_ | refine LeO.bind ?_ (fun _ => ?_)) | exact LeO.none _ | refine LeO.ite ?_ ?_ | refine LeO.bind ?_ (fun _ => ?_)
  ·intro y0 y1 y2 y3 y4 y5 y6
   unfold laws_FnWeather.j3
   repeat' first | (with_reducible first | exact ih0 _ _ _ _ | exact ih1 _ _ _ _ _ | exact ih2 _ _ _ _ _ _ | exact ih3 _ _ _ _ _ _ _ | exact impl_CanSpeak.mono _ _ _ _ _ | exact impl_CutClouds.mono _ _ _ | exact impl_IsCovered.mono _ _ _ _ | exact impl_IsPlan.mono _ _ _ | exact impl_LostTicks.mono _ _ _ | exact spec_CutClouds.mono _ _ _ | exact spec_DrawCutClouds.mono _ _ | exact LeO.refl _ | exact LeO.none _ | refine LeO.ite ?_ ?_ | refine LeO.bind ?_ (fun _ => ?_)) | exact LeO.none _ | refine LeO.ite ?_ ?_ | refine LeO.bind ?_ (fun _ => ?_)
theorem laws_FnWeather.mono : ∀ a0 k, LeO (laws_FnWeather.f k a0) (laws_FnWeather.f (k + 1) a0) := by
 intro a0 k
 obtain ⟨ih0, ih1, ih2, ih3⟩ := laws_FnWeather.mono_l k
 unfold laws_FnWeather.f
 repeat' first | (with_reducible first | exact ih0 _ _ _ _ | exact ih1 _ _ _ _ _ | exact ih2 _ _ _ _ _ _ | exact ih3 _ _ _ _ _ _ _ | exact impl_CanSpeak.mono _ _ _ _ _ | exact impl_CutClouds.mono _ _ _ | exact impl_IsCovered.mono _ _ _ _ | exact impl_IsPlan.mono _ _ _ | exact impl_LostTicks.mono _ _ _ | exact spec_CutClouds.mono _ _ _ | exact spec_DrawCutClouds.mono _ _ | exact LeO.refl _ | exact LeO.none _ | refine LeO.ite ?_ ?_ | refine LeO.bind ?_ (fun _ => ?_)) | exact LeO.none _ | refine LeO.ite ?_ ?_ | refine LeO.bind ?_ (fun _ => ?_)
set_option maxHeartbeats 8000000 in
set_option maxRecDepth 100000 in
theorem laws_FnWeather.calls (k : Nat) (A0 : Option Addr) (c0 : Nat) (l0 : List Int) (r : Bool) (w : World) (hr0 : Kd.C (Kd.int .u8) w A0 l0.length l0) (hc0 : l0.length ≤ c0) (h : laws_FnWeather.f k l0 = some r) (hT_ : r = true := by rfl) :
  Calls Try.prog 7 #[.slice A0 l0.length c0] w fun e w' => e = .returned (.bool r) ∧ Below w.heap.size w w' := by
 have HR0 := Aside0.mk hr0
 have HC0 := Aside0.mk hc0
 clear hr0 hc0
 have HB := Aside0.mk (Below.refl w.heap.size w)
 subst hT_
 have H := h
 clear h
 unfold laws_FnWeather.f at H
 replace H := bs_ H
 obtain ⟨t436, A2, H⟩ := H
 by_cases c3 : t436 = true
 ·subst c3
  try rw [if_pos rfl] at H
  clear H
  go_enter Try.func7, Try.ntmps7
  go_wp2_with (first | ((with_reducible refine gate_callee (f := 8) rfl ?_); refine gl_ 11 Try.func8 (laws_big.calls _ _ l0 true _ (cq_ HR0) HC0.out A2.out) ?_; rintro e w' ⟨rfl, ⟨nd, rfl⟩⟩; refine ⟨_, rfl, ?_⟩))
  go_ret
  exact ⟨by first | (rw [hRT_.out]; rfl) | exact er_, bl_ HB⟩
 ·replace c3 := Bool.eq_false_iff.mpr c3
  subst c3
  have H1 : ((spec_DrawCutClouds.f k l0).bind fun bt437 => ((impl_CutClouds.f k bt437.1 bt437.2).bind fun t443 => ((spec_CutClouds.f k bt437.1 bt437.2).bind fun t446 => (if (t443.length : Int) = (t446.length : Int) then (laws_FnWeather.l0 k bt437.1 bt437.2 t443 0) else (some false))))) = some true := by first | (rw [if_neg (show ¬ (false = true) by decide)] at H; exact H) | rfl
  clear H
  have H := H1
  clear H1
  replace H := bs_ H
  obtain ⟨⟨t437, t438⟩, A4, H⟩ := H
  dsimp only at H
  replace H := bs_ H
  obtain ⟨t443, A5, H⟩ := H
  replace H := bs_ H
  obtain ⟨t446, A6, H⟩ := H
  by_cases c7 : (t443.length : Int) = (t446.length : Int)
  ·rw [if_pos c7] at H
   obtain ⟨c7b0, c7b1⟩ := bt_ c7
   have c7b2 : (t443.length == t446.length) = true := by first | simpa using c7 | (simp at c7 ⊢; omega)
   clear c7
   have H' := Aside0.mk H
   clear H
   go_enter Try.func7, Try.ntmps7
   go_wp2_with (first | ((with_reducible refine gate_callee (f := 8) rfl ?_); refine gl_ 11 Try.func8 (laws_big.calls _ _ l0 false _ (cq_ HR0) HC0.out A2.out) ?_; rintro e w' ⟨rfl, ⟨nd, rfl⟩⟩; refine ⟨_, rfl, ?_⟩) | ((with_reducible refine gate_callee (f := 43) rfl ?_); refine gl_ 14 Try.func43 (spec_DrawCutClouds.calls k _ _ l0 t437 t438 _ (cq_ HR0) HC0.out A4.out) ?_; rintro e w8 ⟨v439, v441, rfl, ho0, ho1, hb⟩; refine ⟨_, rfl, sh3_ (Kd.R_lower ho0 (below_size (bl_ HB))) (Kd.R_lower ho1 (below_size (bl_ HB))) (below_step (bl_ HB) hb) ?_⟩; clear HB hb ho0 ho1; intro HO440 HO442 HB; obtain ⟨Ao9, co9, eo9⟩ := Kd.R_slice HO440.out; subst eo9; obtain ⟨Ao10, co10, eo10⟩ := Kd.R_slice HO442.out; subst eo10) | ((with_reducible refine gate_callee (f := 44) rfl ?_); refine gl_ 19 Try.func44 (impl_CutClouds.calls k _ _ t437 _ _ t438 t443 _ (cr_ HO440) (rl_ HO440) (cr_ HO442) (rl_ HO442) A5.out) ?_; rintro e w11 ⟨v444, rfl, ho0, hb⟩; refine ⟨_, rfl, sh4_ (Kd.R_elder' (ra_ HO440) (Kd.R_base ho0) hb) (Kd.R_below (ra_ HO442) hb) (Kd.R_lower (Kd.R_new' ho0 (Kd.R_lt (ra_ HO440))) (below_size (bl_ HB))) (below_step (bl_ HB) hb) ?_⟩; clear HO440 HO442 HB hb ho0; intro HO440 HO442 HO445 HB; obtain ⟨Ao12, co12, eo12⟩ := Kd.R_slice HO445.out; subst eo12) | ((with_reducible refine gate_callee (f := 45) rfl ?_); refine gl_ 24 Try.func45 (spec_CutClouds.calls k _ _ t437 _ _ t438 t446 _ (cr_ HO440) (rl_ HO440) (cr_ HO442) (rl_ HO442) A6.out) ?_; rintro e w13 ⟨v447, rfl, ho0, hb⟩; refine ⟨_, rfl, sh5_ (Kd.R_elder' (ra_ HO440) (Kd.R_base ho0) hb) (Kd.R_below (ra_ HO442) hb) (Kd.R_elder' (ra_ HO445) (Kd.R_base ho0) hb) (Kd.R_lower (Kd.R_new' (Kd.R_new' ho0 (Kd.R_lt (ra_ HO440))) (Kd.R_lt (ra_ HO445))) (below_size (bl_ HB))) (below_step (bl_ HB) hb) ?_⟩; clear HO440 HO442 HO445 HB hb ho0; intro HO440 HO442 HO445 HO448 HB; obtain ⟨Ao14, co14, eo14⟩ := Kd.R_slice HO448.out; subst eo14))
   go_loopg [6] k (fun kq v6 w' => ∃ (x6_1 : Int), v6 = .int .i64 x6_1 ∧ Aside0 (laws_FnWeather.l0 kq t437 t438 t443 x6_1 = some true) ∧ Aside0 (kq ≤ k) ∧ Aside0 (Kd.R k53 53 w' w.heap.size (fun k_ => some k_ ≠ ((.slice Ao12 t443.length co12) : Value).ownBlock) (.slice Ao9 t437.length co9) t437) ∧ Aside0 (Kd.R k121 121 w' w.heap.size (fun _ => True) (.slice Ao10 t438.length co10) t438) ∧ Aside0 (Kd.R k53 53 w' w.heap.size (fun k_ => some k_ ≠ ((.slice Ao9 t437.length co9) : Value).ownBlock) (.slice Ao12 t443.length co12) t443) ∧ Aside0 (Below w.heap.size w w'))
   case atStart => exact ⟨(0), (by first | rfl | (simp; done) | (simp [*]; done)), H', ⟨Nat.le_refl _⟩, ⟨by (with_reducible repeat (first | apply Kd.R_alloc | apply Kd.R_drewN | apply Kd.R_drew)); exact Kd.R_mono HO440.out (fun _ hk => hk.1.2)⟩, ⟨ra_ HO442⟩, ⟨by (with_reducible repeat (first | apply Kd.R_alloc | apply Kd.R_drewN | apply Kd.R_drew)); exact Kd.R_mono HO445.out (fun _ hk => hk.1.2)⟩, ⟨bl_ HB⟩⟩
   case round =>
    clear H'
    try clear p2
    try clear c3
    try clear c4
    try clear c7
    try clear c7b0
    try clear c7b1
    try clear c7b2
    try clear c8
    obtain ⟨x6_1, rfl, HA, HK1, HO_3, HO_4, HO_5, HB⟩ := hrel
    cases gk with
    | zero => exact absurd HA.out (by simp [laws_FnWeather.l0])
    | succ k1 =>
     have H := HA.out
     clear HA
     simp only [laws_FnWeather.l0] at H
     by_cases c15 : x6_1 < 4
     ·rw [if_pos c15] at H
      have c15b0 := decide_eq_true c15
      clear c15
      have H' := Aside0.mk H
      clear H
      go_wp2
      go_loopg [7] k1 (fun kq v7 w' => ∃ (x7_2 : Int), v7 = .int .i64 x7_2 ∧ Aside0 (laws_FnWeather.l1 kq t437 t438 t443 x6_1 x7_2 = some true) ∧ Aside0 (kq ≤ k1) ∧ Aside0 (Kd.R k53 53 w' w.heap.size (fun k_ => some k_ ≠ ((.slice Ao12 t443.length co12) : Value).ownBlock) (.slice Ao9 t437.length co9) t437) ∧ Aside0 (Kd.R k121 121 w' w.heap.size (fun _ => True) (.slice Ao10 t438.length co10) t438) ∧ Aside0 (Kd.R k53 53 w' w.heap.size (fun k_ => some k_ ≠ ((.slice Ao9 t437.length co9) : Value).ownBlock) (.slice Ao12 t443.length co12) t443) ∧ Aside0 (Below w.heap.size w w'))
      case atStart => exact ⟨(wrap64 (x6_1 + 1)), (by first | rfl | (simp; done) | (simp [*]; done)), H', ⟨Nat.le_refl _⟩, ⟨ra_ HO_3⟩, ⟨ra_ HO_4⟩, ⟨ra_ HO_5⟩, ⟨bl_ HB⟩⟩
      case round =>
       clear H'
       try clear c1
       try clear p2
       try clear c3
       try clear c4
       try clear p6
       try clear c7
       try clear c7b0
       try clear c7b1
       try clear c7b2
       try clear c8
       try clear c15
       try clear c15b0
       try clear p2
       obtain ⟨x7_2, rfl, HA, HK2, HO_3, HO_4, HO_5, HB⟩ := hrel
       cases gk with
       | zero => exact absurd HA.out (by simp [laws_FnWeather.l1])
       | succ k2 =>
        have H := HA.out
        clear HA
        simp only [laws_FnWeather.l1] at H
        by_cases c16 : x7_2 < 4
        ·rw [if_pos c16] at H
         have c16b0 := decide_eq_true c16
         clear c16
         have H' := Aside0.mk H
         clear H
         go_wp2
         go_loopg [8] k2 (fun kq v8 w' => ∃ (x8_3 : Int), v8 = .int .i64 x8_3 ∧ Aside0 (laws_FnWeather.l2 kq t437 t438 t443 x6_1 x7_2 x8_3 = some true) ∧ Aside0 (kq ≤ k2) ∧ Aside0 (Kd.R k53 53 w' w.heap.size (fun k_ => some k_ ≠ ((.slice Ao12 t443.length co12) : Value).ownBlock) (.slice Ao9 t437.length co9) t437) ∧ Aside0 (Kd.R k121 121 w' w.heap.size (fun _ => True) (.slice Ao10 t438.length co10) t438) ∧ Aside0 (Kd.R k53 53 w' w.heap.size (fun k_ => some k_ ≠ ((.slice Ao9 t437.length co9) : Value).ownBlock) (.slice Ao12 t443.length co12) t443) ∧ Aside0 (Below w.heap.size w w'))
         case atStart => exact ⟨(0), (by first | rfl | (simp; done) | (simp [*]; done)), H', ⟨Nat.le_refl _⟩, ⟨ra_ HO_3⟩, ⟨ra_ HO_4⟩, ⟨ra_ HO_5⟩, ⟨bl_ HB⟩⟩
         case round =>
          clear H'
          try clear c1
          try clear p2
          try clear c3
          try clear c4
          try clear p6
          try clear c7
          try clear c7b0
          try clear c7b1
          try clear c7b2
          try clear c8
          try clear c15
          try clear c15b0
          try clear c16
          try clear c16b0
          try clear p2
          try clear p6
          obtain ⟨x8_3, rfl, HA, HK3, HO_3, HO_4, HO_5, HB⟩ := hrel
          cases gk with
          | zero => exact absurd HA.out (by simp [laws_FnWeather.l2])
          | succ k3 =>
           have H := HA.out
           clear HA
           simp only [laws_FnWeather.l2] at H
           by_cases c17 : x8_3 ≤ 24
           ·rw [if_pos c17] at H
            have c17b0 := decide_eq_true c17
            clear c17
            have HC18 := Aside0.mk H
            clear H
            go_upto_region 16 with (fail)
            go_cut [9] (fun v9 wc => ∃ (kq : Nat) (x9_17 : Bool), v9 = .bool x9_17 ∧ Aside0 (laws_FnWeather.j3 kq t437 t438 t443 x6_1 x7_2 x8_3 x9_17 = some true) ∧ Aside0 (kq ≤ k3) ∧ Aside0 (Kd.R k53 53 wc w.heap.size (fun k_ => some k_ ≠ ((.slice Ao12 t443.length co12) : Value).ownBlock) (.slice Ao9 t437.length co9) t437) ∧ Aside0 (Kd.R k121 121 wc w.heap.size (fun _ => True) (.slice Ao10 t438.length co10) t438) ∧ Aside0 (Kd.R k53 53 wc w.heap.size (fun k_ => some k_ ≠ ((.slice Ao9 t437.length co9) : Value).ownBlock) (.slice Ao12 t443.length co12) t443) ∧ Aside0 (Below w.heap.size w wc))
            case first =>
             have H := HC18.out
             clear HC18
             replace H := bs_ H
             obtain ⟨t452, A19, H⟩ := H
             by_cases c20 : t452 = true
             ·subst c20
              try rw [if_pos rfl] at H
              have H' := Aside0.mk H
              clear H
              go_wp2_with (first | ((with_reducible refine gate_callee (f := 46) rfl ?_); refine gl_ 44 Try.func46 (impl_IsCovered.calls k3 _ _ t438 x6_1 x8_3 true _ (cr_ HO_4) (rl_ HO_4) A19.out) ?_; rintro e w21 ⟨rfl, hb⟩; refine ⟨_, rfl, sh4_ (Kd.R_below (ra_ HO_3) hb) (Kd.R_below (ra_ HO_4) hb) (Kd.R_below (ra_ HO_5) hb) (below_step (bl_ HB) hb) ?_⟩; clear HO_3 HO_4 HO_5 HB hb; intro HO_3 HO_4 HO_5 HB))
              go_meet
              case rel => exact ⟨_, (false), (by first | rfl | (simp; done) | (simp [*]; done)), H', ⟨by have := HK1.out; have := HK2.out; have := HK3.out; first | omega | exact Nat.le_refl _⟩, ⟨ra_ HO_3⟩, ⟨ra_ HO_4⟩, ⟨ra_ HO_5⟩, ⟨bl_ HB⟩⟩
             ·replace c20 := Bool.eq_false_iff.mpr c20
              subst c20
              have H1 : ((impl_IsCovered.f k3 t438 x7_2 x8_3).bind fun t453 => (laws_FnWeather.j3 k3 t437 t438 t443 x6_1 x7_2 x8_3 (!t453))) = some true := by first | (rw [if_neg (show ¬ (false = true) by decide)] at H; exact H) | rfl
              clear H
              have H := H1
              clear H1
              replace H := bs_ H
              obtain ⟨t453, A22, H⟩ := H
              have H' := Aside0.mk H
              clear H
              go_wp2_with (first | ((with_reducible refine gate_callee (f := 46) rfl ?_); refine gl_ 44 Try.func46 (impl_IsCovered.calls k3 _ _ t438 x6_1 x8_3 false _ (cr_ HO_4) (rl_ HO_4) A19.out) ?_; rintro e w23 ⟨rfl, hb⟩; refine ⟨_, rfl, sh4_ (Kd.R_below (ra_ HO_3) hb) (Kd.R_below (ra_ HO_4) hb) (Kd.R_below (ra_ HO_5) hb) (below_step (bl_ HB) hb) ?_⟩; clear HO_3 HO_4 HO_5 HB hb; intro HO_3 HO_4 HO_5 HB) | (go_at_call 46; (with_reducible refine (impl_IsCovered.calls k3 _ _ t438 x7_2 x8_3 t453 _ ?side1 ?side2 A22.out).mono ?_); (case side1 => repeat (first | exact (Kd.R_reads' HO_4.out).2.2 | (with_reducible refine Kd.C_alloc ?_ _) | (with_reducible refine Kd.C_drewN ?_ _) | (with_reducible refine Kd.C_drew ?_))); (case side2 => exact (Kd.R_reads' HO_4.out).2.1); rintro e w24 ⟨rfl, hb⟩; refine sh4_ (Kd.R_below (ra_ HO_3) hb) (Kd.R_below (ra_ HO_4) hb) (Kd.R_below (ra_ HO_5) hb) (below_step (bl_ HB) hb) ?_; clear HO_3 HO_4 HO_5 HB hb; intro HO_3 HO_4 HO_5 HB))
              go_meet
              case rel => exact ⟨_, (!t453), (by first | rfl | (simp; done) | (simp [*]; done)), H', ⟨by have := HK1.out; have := HK2.out; have := HK3.out; first | omega | exact Nat.le_refl _⟩, ⟨ra_ HO_3⟩, ⟨ra_ HO_4⟩, ⟨ra_ HO_5⟩, ⟨bl_ HB⟩⟩
            case rest =>
             clear HC18
             try clear c1
             try clear c2
             try clear p2
             try clear c3
             try clear c4
             try clear p6
             try clear c7
             try clear c7b0
             try clear c7b1
             try clear c7b2
             try clear c8
             try clear c15
             try clear c15b0
             try clear c16
             try clear c16b0
             try clear c17
             try clear c17b0
             try clear c20
             try clear p2
             try clear p6
             obtain ⟨kq, x9_17, rfl, HA, HJ17, HO_3, HO_4, HO_5, HB⟩ := hcut
             cases kq with
             | zero => exact absurd HA.out (by simp [laws_FnWeather.j3])
             | succ kj17 =>
              have H := HA.out
              clear HA
              simp only [laws_FnWeather.j3] at H
              replace H := bs_ H
              obtain ⟨t454, A25, H⟩ := H
              by_cases c26 : x9_17 = true
              ·subst c26
               try rw [if_pos rfl] at H
               replace H := bs_ H
               obtain ⟨t455, A27, H⟩ := H
               by_cases c28 : (t454 != t455) = true
               ·rw [if_pos c28] at H
                have c28b0 : (t454 != t455) = true := c28
                (try (have c28b1 : decide (t454 = t455) = false := by simpa using c28))
                (try (have c28b2 : (t454 == t455) = false := by simpa using c28))
                (try (have c28b3 : ¬ (t454 = t455) := by simpa using c28))
                clear c28
                exact absurd H (by simp)
               ·rw [if_neg c28] at H
                have c28b0 : (t454 != t455) = false := by simpa using c28
                (try (have c28b1 : decide (t454 = t455) = true := by simpa using c28))
                (try (have c28b2 : (t454 == t455) = true := by simpa using c28))
                clear c28
                have H' := Aside0.mk H
                clear H
                go_wp2_with (first | ((with_reducible refine gate_callee (f := 42) rfl ?_); refine gl_ 57 Try.func42 (impl_CanSpeak.calls kj17 _ _ t443 x6_1 x7_2 x8_3 t454 _ (cr_ HO_5) (rl_ HO_5) A25.out) ?_; rintro e w29 ⟨rfl, hb⟩; refine ⟨_, rfl, sh4_ (Kd.R_below (ra_ HO_3) hb) (Kd.R_below (ra_ HO_4) hb) (Kd.R_below (ra_ HO_5) hb) (below_step (bl_ HB) hb) ?_⟩; clear HO_3 HO_4 HO_5 HB hb; intro HO_3 HO_4 HO_5 HB) | (go_at_call 42; (with_reducible refine (impl_CanSpeak.calls kj17 _ _ t437 x6_1 x7_2 x8_3 t455 _ ?side1 ?side2 A27.out).mono ?_); (case side1 => repeat (first | exact (Kd.R_reads' HO_3.out).2.2 | (with_reducible refine Kd.C_alloc ?_ _) | (with_reducible refine Kd.C_drewN ?_ _) | (with_reducible refine Kd.C_drew ?_))); (case side2 => exact (Kd.R_reads' HO_3.out).2.1); rintro e w30 ⟨rfl, hb⟩; refine sh4_ (Kd.R_below (ra_ HO_3) hb) (Kd.R_below (ra_ HO_4) hb) (Kd.R_below (ra_ HO_5) hb) (below_step (bl_ HB) hb) ?_; clear HO_3 HO_4 HO_5 HB hb; intro HO_3 HO_4 HO_5 HB))
                go_roundg kj17
                case measure => have := HK1.out; have := HK2.out; have := HK3.out; have := HJ17.out; omega
                case rel => exact ⟨(wrap64 (x8_3 + 1)), (by first | rfl | (simp; done) | (simp [*]; done)), H', ⟨by have := HK1.out; have := HK2.out; have := HK3.out; have := HJ17.out; omega⟩, ⟨ra_ HO_3⟩, ⟨ra_ HO_4⟩, ⟨ra_ HO_5⟩, ⟨bl_ HB⟩⟩
              ·replace c26 := Bool.eq_false_iff.mpr c26
               subst c26
               have H1 : (if (t454 != false) = true then (some false) else (laws_FnWeather.l2 kj17 t437 t438 t443 x6_1 x7_2 (wrap64 (x8_3 + 1)))) = some true := by first | (rw [if_neg (show ¬ (false = true) by decide)] at H; exact H) | rfl
               clear H
               have H := H1
               clear H1
               by_cases c31 : (t454 != false) = true
               ·rw [if_pos c31] at H
                have c31b0 : (t454 != false) = true := c31
                (try (have c31b1 : decide (t454 = false) = false := by simpa using c31))
                (try (have c31b2 : (t454 == false) = false := by simpa using c31))
                (try (have c31b3 : ¬ (t454 = false) := by simpa using c31))
                clear c31
                exact absurd H (by simp)
               ·rw [if_neg c31] at H
                have c31b0 : (t454 != false) = false := by simpa using c31
                (try (have c31b1 : decide (t454 = false) = true := by simpa using c31))
                (try (have c31b2 : (t454 == false) = true := by simpa using c31))
                clear c31
                have H' := Aside0.mk H
                clear H
                go_wp2_with (first | ((with_reducible refine gate_callee (f := 42) rfl ?_); refine gl_ 57 Try.func42 (impl_CanSpeak.calls kj17 _ _ t443 x6_1 x7_2 x8_3 t454 _ (cr_ HO_5) (rl_ HO_5) A25.out) ?_; rintro e w32 ⟨rfl, hb⟩; refine ⟨_, rfl, sh4_ (Kd.R_below (ra_ HO_3) hb) (Kd.R_below (ra_ HO_4) hb) (Kd.R_below (ra_ HO_5) hb) (below_step (bl_ HB) hb) ?_⟩; clear HO_3 HO_4 HO_5 HB hb; intro HO_3 HO_4 HO_5 HB))
                go_roundg kj17
                case measure => have := HK1.out; have := HK2.out; have := HK3.out; have := HJ17.out; omega
                case rel => exact ⟨(wrap64 (x8_3 + 1)), (by first | rfl | (simp; done) | (simp [*]; done)), H', ⟨by have := HK1.out; have := HK2.out; have := HK3.out; have := HJ17.out; omega⟩, ⟨ra_ HO_3⟩, ⟨ra_ HO_4⟩, ⟨ra_ HO_5⟩, ⟨bl_ HB⟩⟩
           ·rw [if_neg c17] at H
            have c17b0 : decide (x8_3 ≤ 24) = false := decide_eq_false c17
            clear c17
            have H' := Aside0.mk H
            clear H
            go_wp2
            go_roundg k3
            case measure => have := HK1.out; have := HK2.out; have := HK3.out; omega
            case rel => exact ⟨(wrap64 (x7_2 + 1)), (by first | rfl | (simp; done) | (simp [*]; done)), H', ⟨by have := HK1.out; have := HK2.out; have := HK3.out; omega⟩, ⟨ra_ HO_3⟩, ⟨ra_ HO_4⟩, ⟨ra_ HO_5⟩, ⟨bl_ HB⟩⟩
        ·rw [if_neg c16] at H
         have c16b0 : decide (x7_2 < 4) = false := decide_eq_false c16
         clear c16
         have H' := Aside0.mk H
         clear H
         go_wp2
         go_roundg k2
         case measure => have := HK1.out; have := HK2.out; omega
         case rel => exact ⟨(wrap64 (x6_1 + 1)), (by first | rfl | (simp; done) | (simp [*]; done)), H', ⟨by have := HK1.out; have := HK2.out; omega⟩, ⟨ra_ HO_3⟩, ⟨ra_ HO_4⟩, ⟨ra_ HO_5⟩, ⟨bl_ HB⟩⟩
     ·rw [if_neg c15] at H
      have c15b0 : decide (x6_1 < 4) = false := decide_eq_false c15
      clear c15
      replace H := bs_ H
      obtain ⟨t449, A33, H⟩ := H
      by_cases c34 : t449 ≥ 0
      ·rw [if_pos c34] at H
       have c34b0 : decide (0 ≤ t449) = true := decide_eq_true c34
       clear c34
       replace H := bs_ H
       obtain ⟨t450, A35, H⟩ := H
       by_cases c36 : t450 = true
       ·subst c36
        try rw [if_pos rfl] at H
        replace H := bs_ H
        obtain ⟨t451, A37, H⟩ := H
        have hRT_ := Aside0.mk (Option.some.inj H)
        clear H
        go_wp2_with (first | ((with_reducible refine gate_callee (f := 47) rfl ?_); refine gl_ 69 Try.func47 (impl_LostTicks.calls k1 _ _ t437 _ _ t438 t449 _ (cr_ HO_3) (rl_ HO_3) (cr_ HO_4) (rl_ HO_4) A33.out) ?_; rintro e w38 ⟨rfl, hb⟩; refine ⟨_, rfl, sh4_ (Kd.R_below (ra_ HO_3) hb) (Kd.R_below (ra_ HO_4) hb) (Kd.R_below (ra_ HO_5) hb) (below_step (bl_ HB) hb) ?_⟩; clear HO_3 HO_4 HO_5 HB hb; intro HO_3 HO_4 HO_5 HB) | (go_at_call 40; (with_reducible refine (impl_IsPlan.calls k1 _ _ t437 4 true _ ?side1 ?side2 A35.out).mono ?_); (case side1 => repeat (first | exact (Kd.R_reads' HO_3.out).2.2 | (with_reducible refine Kd.C_alloc ?_ _) | (with_reducible refine Kd.C_drewN ?_ _) | (with_reducible refine Kd.C_drew ?_))); (case side2 => exact (Kd.R_reads' HO_3.out).2.1); rintro e w39 ⟨rfl, hb⟩; refine sh4_ (Kd.R_below (ra_ HO_3) hb) (Kd.R_below (ra_ HO_4) hb) (Kd.R_below (ra_ HO_5) hb) (below_step (bl_ HB) hb) ?_; clear HO_3 HO_4 HO_5 HB hb; intro HO_3 HO_4 HO_5 HB) | (go_at_call 40; (with_reducible refine (impl_IsPlan.calls k1 _ _ t443 4 t451 _ ?side1 ?side2 A37.out).mono ?_); (case side1 => repeat (first | exact (Kd.R_reads' HO_5.out).2.2 | (with_reducible refine Kd.C_alloc ?_ _) | (with_reducible refine Kd.C_drewN ?_ _) | (with_reducible refine Kd.C_drew ?_))); (case side2 => exact (Kd.R_reads' HO_5.out).2.1); rintro e w40 ⟨rfl, hb⟩; refine sh4_ (Kd.R_below (ra_ HO_3) hb) (Kd.R_below (ra_ HO_4) hb) (Kd.R_below (ra_ HO_5) hb) (below_step (bl_ HB) hb) ?_; clear HO_3 HO_4 HO_5 HB hb; intro HO_3 HO_4 HO_5 HB))
        go_ret
        exact ⟨by first | (rw [hRT_.out]; rfl) | exact er_, bl_ HB⟩
       ·replace c36 := Bool.eq_false_iff.mpr c36
        subst c36
        have H1 : (some true) = some true := by first | (rw [if_neg (show ¬ (false = true) by decide)] at H; exact H) | rfl
        clear H
        have H := H1
        clear H1
        clear H
        go_wp2_with (first | ((with_reducible refine gate_callee (f := 47) rfl ?_); refine gl_ 69 Try.func47 (impl_LostTicks.calls k1 _ _ t437 _ _ t438 t449 _ (cr_ HO_3) (rl_ HO_3) (cr_ HO_4) (rl_ HO_4) A33.out) ?_; rintro e w41 ⟨rfl, hb⟩; refine ⟨_, rfl, sh4_ (Kd.R_below (ra_ HO_3) hb) (Kd.R_below (ra_ HO_4) hb) (Kd.R_below (ra_ HO_5) hb) (below_step (bl_ HB) hb) ?_⟩; clear HO_3 HO_4 HO_5 HB hb; intro HO_3 HO_4 HO_5 HB) | (go_at_call 40; (with_reducible refine (impl_IsPlan.calls k1 _ _ t437 4 false _ ?side1 ?side2 A35.out).mono ?_); (case side1 => repeat (first | exact (Kd.R_reads' HO_3.out).2.2 | (with_reducible refine Kd.C_alloc ?_ _) | (with_reducible refine Kd.C_drewN ?_ _) | (with_reducible refine Kd.C_drew ?_))); (case side2 => exact (Kd.R_reads' HO_3.out).2.1); rintro e w42 ⟨rfl, hb⟩; refine sh4_ (Kd.R_below (ra_ HO_3) hb) (Kd.R_below (ra_ HO_4) hb) (Kd.R_below (ra_ HO_5) hb) (below_step (bl_ HB) hb) ?_; clear HO_3 HO_4 HO_5 HB hb; intro HO_3 HO_4 HO_5 HB))
        go_ret
        exact ⟨by first | (rw [hRT_.out]; rfl) | exact er_, bl_ HB⟩
      ·rw [if_neg c34] at H
       have c34b0 : decide (0 ≤ t449) = false := decide_eq_false c34
       clear c34
       exact absurd H (by simp)
  ·rw [if_neg c7] at H
   obtain ⟨c7b0, c7b1⟩ := bn_ c7
   have c7b2 : (t443.length == t446.length) = false := by first | simpa using c7 | (simp at c7 ⊢; omega)
   exact absurd H (by simp)

/-- THE ONE PURE STATEMENT of laws_FnWeather: yours. -/
def laws_FnWeather.Pure : Prop := ∀ (l0 : List Int), l0.length ≤ maxLen → l0.length * 1 ≤ 140737488351232 → (∀ x ∈ l0, (Lit.int .u8 x).wf = true) → ∃ k, laws_FnWeather.f k l0 = some true
theorem laws_FnWeather.walk (P : laws_FnWeather.Pure) (a0 : Option Addr) (len0 cap0 : Nat) (z0 : List Int) (w : World) (w0 : (a0 = none ∧ len0 = 0 ∧ cap0 = 0 ∧ z0 = []) ∨ ∃ x, a0 = some x ∧ len0 ≤ cap0 ∧ cap0 ≤ maxLen ∧ z0.length = cap0 ∧ (∀ i, i < z0.length → w.cell? (x.add i) = some (.int .u8 (z0.getD i 0))) ∧ ∀ n ∈ z0, (Lit.int .u8 n).wf = true) (y0 : len0 * 1 ≤ 140737488351232) :
  Calls Try.prog 7 #[.slice a0 len0 cap0] w fun e w' => e = .returned (.bool true) ∧ Below w.heap.size w w' := by
 obtain ⟨l0, rfl, hr0, hm0, hw0, hc0⟩ := ReadsInt.ofRowC w0
 obtain ⟨k, h⟩ := P l0 hm0 y0 hw0
 refine (laws_FnWeather.calls k _ _ l0 true w (Kd.C_of_reads (d := (0 : Int)) (h1 := fun _ => rfl) hr0) hc0 h).mono ?_
 rintro e w' ⟨rfl, hd⟩
 exact ⟨rfl, hd⟩

end Go.Proofs.Ytopbkdcicidajaa.PFnWeather
