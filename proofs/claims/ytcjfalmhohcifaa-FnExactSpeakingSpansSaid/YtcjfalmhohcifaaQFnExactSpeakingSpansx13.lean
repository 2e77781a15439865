-- Written by a program of this session for this claim (the kit's printer with changes).
import Derived.Test.YtcjfalmhohcifaaQFnExactSpeakingSpansx0
import Derived.Test.YtcjfalmhohcifaaQFnExactSpeakingSpansx1
import Derived.Test.YtcjfalmhohcifaaQFnExactSpeakingSpansx5
import Derived.Test.YtcjfalmhohcifaaQFnExactSpeakingSpansx10
import Derived.Test.YtcjfalmhohcifaaQFnExactSpeakingSpansx11
import Derived.Test.YtcjfalmhohcifaaQFnExactSpeakingSpansx12
namespace Go.Proofs.Ytcjfalmhohcifaa.PFnExactSpeakingSpans
open Go.RowKit Go.Proofs.YtcjfalmhohcifaaW.PrintWords Go.Proofs.YtcjfalmhohcifaaW.PrintLast Go.Proofs.YtcjfalmhohcifaaW.PrintMore
attribute [local go_sem] max2_int min2_int max_two min_two max_three min_three max_four min_four   -- for this text's walks alone
set_option linter.unusedVariables false
set_option linter.unusedSimpArgs false

/-! ### laws_FnExactSpeakingSpans: function 3 -/
def laws_FnExactSpeakingSpans.j0 : Nat → Int → Int → Int → Int → List (S73) → List (S73) → Bool → Int → List (S107) → List (S111) → Int → Int → Int → Int → Int → List (S119) → Int → Option (Bool)
 | 0, _, _, _, _, _, _, _, _, _, _, _, _, _, _, _, _, _ => none
 | k + 1, x1, x2, x3, x4, x12, x14, x58, x533000, x533001, x533002, x533003, x533004, x533005, x533006, x533007, x533008, x533009 => if x58 = true then (some false) else ((laws_markSpanS.f k x14 1).bind fun bt596 => ((laws_heldSpanS.f k bt596.2 1).bind fun t598 => (if t598 < 0 then (some false) else (if t598 = bt596.1 then ((laws_toSky.f k x533000 x533001 x533002 x533003 x533004 x533005 x533006 x533007 x533008 x533009).bind fun bt599 => ((impl_SpeakingSpans.f k bt599.1 bt599.2.1 bt599.2.2.1 bt599.2.2.2.1 bt599.2.2.2.2.1 bt599.2.2.2.2.2.1 bt599.2.2.2.2.2.2.1 bt599.2.2.2.2.2.2.2.1 bt599.2.2.2.2.2.2.2.2.1 bt599.2.2.2.2.2.2.2.2.2 x1 x2 x3 x4).bind fun t615 => ((laws_eqSpanS.f k t615 x12).bind fun t618 => (if t618 = true then ((laws_heldSpanS.f k bt596.2 1).bind fun t619 => (if t619 < 0 then (some false) else (if t619 = bt596.1 then (some true) else (some false)))) else (some false))))) else (some false)))))
def laws_FnExactSpeakingSpans.f (k : Nat) (a0_0 : Int) (l0_1 : List (S107)) (l0_2 : List (S111)) (a0_3 : Int) (a0_4 : Int) (a0_5 : Int) (a0_6 : Int) (a0_7 : Int) (l0_8 : List (S119)) (a0_9 : Int) (a1 : Int) (a2 : Int) (a3 : Int) (a4 : Int) : Option (Bool) := (laws_szSky.f a0_0 l0_1 l0_2 a0_3 a0_4 a0_5 a0_6 a0_7 l0_8 a0_9 1048576).bind fun t533 => (if t533 < 0 then (some true) else ((laws_toSky.f k a0_0 l0_1 l0_2 a0_3 a0_4 a0_5 a0_6 a0_7 l0_8 a0_9).bind fun bt534 => ((spec_SpeakingSpans.f k bt534.1 bt534.2.1 bt534.2.2.1 bt534.2.2.2.1 bt534.2.2.2.2.1 bt534.2.2.2.2.2.1 bt534.2.2.2.2.2.2.1 bt534.2.2.2.2.2.2.2.1 bt534.2.2.2.2.2.2.2.2.1 bt534.2.2.2.2.2.2.2.2.2 a1 a2 a3 a4).bind fun t550 => ((laws_toSky.f k a0_0 l0_1 l0_2 a0_3 a0_4 a0_5 a0_6 a0_7 l0_8 a0_9).bind fun bt553 => ((impl_SpeakingSpans.f k bt553.1 bt553.2.1 bt553.2.2.1 bt553.2.2.2.1 bt553.2.2.2.2.1 bt553.2.2.2.2.2.1 bt553.2.2.2.2.2.2.1 bt553.2.2.2.2.2.2.2.1 bt553.2.2.2.2.2.2.2.2.1 bt553.2.2.2.2.2.2.2.2.2 a1 a2 a3 a4).bind fun t570 => ((laws_eqSpanS.f k t570 t550).bind fun t573 => (if t573 = true then ((laws_toSky.f k a0_0 l0_1 l0_2 a0_3 a0_4 a0_5 a0_6 a0_7 l0_8 a0_9).bind fun bt574 => ((laws_eqSky.f k bt553.1 bt553.2.1 bt553.2.2.1 bt553.2.2.2.1 bt553.2.2.2.2.1 bt553.2.2.2.2.2.1 bt553.2.2.2.2.2.2.1 bt553.2.2.2.2.2.2.2.1 bt553.2.2.2.2.2.2.2.2.1 bt553.2.2.2.2.2.2.2.2.2 bt574.1 bt574.2.1 bt574.2.2.1 bt574.2.2.2.1 bt574.2.2.2.2.1 bt574.2.2.2.2.2.1 bt574.2.2.2.2.2.2.1 bt574.2.2.2.2.2.2.2.1 bt574.2.2.2.2.2.2.2.2.1 bt574.2.2.2.2.2.2.2.2.2).bind fun t590 => (if t590 = true then ((laws_markSky.f k bt553.1 bt553.2.1 bt553.2.2.1 bt553.2.2.2.1 bt553.2.2.2.2.1 bt553.2.2.2.2.2.1 bt553.2.2.2.2.2.2.1 bt553.2.2.2.2.2.2.2.1 bt553.2.2.2.2.2.2.2.2.1 bt553.2.2.2.2.2.2.2.2.2 1).bind fun bt591 => (if bt591.1 < 0 then (laws_FnExactSpeakingSpans.j0 k a1 a2 a3 a4 t550 t570 true a0_0 l0_1 l0_2 a0_3 a0_4 a0_5 a0_6 a0_7 l0_8 a0_9) else ((laws_eqSpanS.f k t570 t550).bind fun t595 => (laws_FnExactSpeakingSpans.j0 k a1 a2 a3 a4 t550 t570 (!t595) a0_0 l0_1 l0_2 a0_3 a0_4 a0_5 a0_6 a0_7 l0_8 a0_9)))) else (some false)))) else (some false))))))))
theorem laws_FnExactSpeakingSpans.mono_l : ∀ k, (∀ y0 y1 y2 y3 y4 y5 y6 y7 y8 y9 y10 y11 y12 y13 y14 y15 y16, LeO (laws_FnExactSpeakingSpans.j0 k y0 y1 y2 y3 y4 y5 y6 y7 y8 y9 y10 y11 y12 y13 y14 y15 y16) (laws_FnExactSpeakingSpans.j0 (k + 1) y0 y1 y2 y3 y4 y5 y6 y7 y8 y9 y10 y11 y12 y13 y14 y15 y16))
 | 0 => fun _ _ _ _ _ _ _ _ _ _ _ _ _ _ _ _ _ r h => by simp [laws_FnExactSpeakingSpans.j0] at h
 | k + 1 => by
  have ih0 := laws_FnExactSpeakingSpans.mono_l k
  ·intro y0 y1 y2 y3 y4 y5 y6 y7 y8 y9 y10 y11 y12 y13 y14 y15 y16
   unfold laws_FnExactSpeakingSpans.j0
   repeat' first | (with_reducible first | exact ih0 _ _ _ _ _ _ _ _ _ _ _ _ _ _ _ _ _ | exact impl_SpeakingSpans.mono _ _ _ _ _ _ _ _ _ _ _ _ _ _ _ | exact laws_eqSky.mono _ _ _ _ _ _ _ _ _ _ _ _ _ _ _ _ _ _ _ _ _ | exact laws_eqSpanS.mono _ _ _ | exact laws_heldSpanS.mono _ _ _ | exact laws_markSky.mono _ _ _ _ _ _ _ _ _ _ _ _ | exact laws_markSpanS.mono _ _ _ | exact laws_toSky.mono _ _ _ _ _ _ _ _ _ _ _ | exact spec_SpeakingSpans.mono _ _ _ _ _ _ _ _ _ _ _ _ _ _ _ | exact LeO.refl _ | exact LeO.none _ | refine LeO.ite ?_ ?_ | refine LeO.bind ?_ (fun _ => ?_)) | exact LeO.none _ | refine LeO.ite ?_ ?_ | refine LeO.bind ?_ (fun _ => ?_)
theorem laws_FnExactSpeakingSpans.mono : ∀ a0 a1 a2 a3 a4 a5 a6 a7 a8 a9 a10 a11 a12 a13 k, LeO (laws_FnExactSpeakingSpans.f k a0 a1 a2 a3 a4 a5 a6 a7 a8 a9 a10 a11 a12 a13) (laws_FnExactSpeakingSpans.f (k + 1) a0 a1 a2 a3 a4 a5 a6 a7 a8 a9 a10 a11 a12 a13) := by
 intro a0 a1 a2 a3 a4 a5 a6 a7 a8 a9 a10 a11 a12 a13 k
 have ih0 := laws_FnExactSpeakingSpans.mono_l k
 unfold laws_FnExactSpeakingSpans.f
 repeat' first | (with_reducible first | exact ih0 _ _ _ _ _ _ _ _ _ _ _ _ _ _ _ _ _ | exact impl_SpeakingSpans.mono _ _ _ _ _ _ _ _ _ _ _ _ _ _ _ | exact laws_eqSky.mono _ _ _ _ _ _ _ _ _ _ _ _ _ _ _ _ _ _ _ _ _ | exact laws_eqSpanS.mono _ _ _ | exact laws_heldSpanS.mono _ _ _ | exact laws_markSky.mono _ _ _ _ _ _ _ _ _ _ _ _ | exact laws_markSpanS.mono _ _ _ | exact laws_toSky.mono _ _ _ _ _ _ _ _ _ _ _ | exact spec_SpeakingSpans.mono _ _ _ _ _ _ _ _ _ _ _ _ _ _ _ | exact LeO.refl _ | exact LeO.none _ | refine LeO.ite ?_ ?_ | refine LeO.bind ?_ (fun _ => ?_)) | exact LeO.none _ | refine LeO.ite ?_ ?_ | refine LeO.bind ?_ (fun _ => ?_)
set_option maxHeartbeats 8000000 in
set_option maxRecDepth 100000 in
theorem laws_FnExactSpeakingSpans.calls (k : Nat) (a0_0 : Int) (A0_1 : Option Addr) (c0_1 : Nat) (l0_1 : List (S107)) (A0_2 : Option Addr) (c0_2 : Nat) (l0_2 : List (S111)) (a0_3 : Int) (a0_4 : Int) (a0_5 : Int) (a0_6 : Int) (a0_7 : Int) (A0_8 : Option Addr) (c0_8 : Nat) (l0_8 : List (S119)) (a0_9 : Int) (a1 : Int) (a2 : Int) (a3 : Int) (a4 : Int) (r : Bool) (w : World) (hr0_1 : Kd.C k107 w A0_1 l0_1.length l0_1) (hc0_1 : l0_1.length ≤ c0_1) (hr0_2 : Kd.C k111 w A0_2 l0_2.length l0_2) (hc0_2 : l0_2.length ≤ c0_2) (hr0_8 : Kd.C k119 w A0_8 l0_8.length l0_8) (hc0_8 : l0_8.length ≤ c0_8) (h : laws_FnExactSpeakingSpans.f k a0_0 l0_1 l0_2 a0_3 a0_4 a0_5 a0_6 a0_7 l0_8 a0_9 a1 a2 a3 a4 = some r) (hT_ : r = true := by rfl) :
  Calls Try.prog 3 #[.agg #[.int .i64 a0_0, .slice A0_1 l0_1.length c0_1, .slice A0_2 l0_2.length c0_2, .int .i64 a0_3, .int .i64 a0_4, .int .i64 a0_5, .int .i64 a0_6, .int .i64 a0_7, .slice A0_8 l0_8.length c0_8, .int .i64 a0_9], .int .i64 a1, .int .i64 a2, .int .i64 a3, .int .i64 a4] w fun e w' => e = .returned (.bool r) ∧ Below w.heap.size w w' := by
 have hu26 := Try.underlying26
 have hu34 := Try.underlying34
 have HR0_1 := Aside0.mk hr0_1
 have HC0_1 := Aside0.mk hc0_1
 clear hr0_1 hc0_1
 have HR0_2 := Aside0.mk hr0_2
 have HC0_2 := Aside0.mk hc0_2
 clear hr0_2 hc0_2
 have HR0_8 := Aside0.mk hr0_8
 have HC0_8 := Aside0.mk hc0_8
 clear hr0_8 hc0_8
 have HB := Aside0.mk (Below.refl w.heap.size w)
 subst hT_
 have H := h
 clear h
 unfold laws_FnExactSpeakingSpans.f at H
 replace H := bs_ H
 obtain ⟨t533, A6, H⟩ := H
 by_cases c7 : t533 < 0
 ·rw [if_pos c7] at H
  have c7b0 := decide_eq_true c7
  clear c7
  clear H
  go_enter Try.func3, Try.ntmps3
  go_wp2_with (first | ((with_reducible refine gd_ 5 ?_); refine bx_ 5 26 #[.int .i64 a0_0, .slice A0_1 l0_1.length c0_1, .slice A0_2 l0_2.length c0_2, .int .i64 a0_3, .int .i64 a0_4, .int .i64 a0_5, .int .i64 a0_6, .int .i64 a0_7, .slice A0_8 l0_8.length c0_8, .int .i64 a0_9] ?_; intro gb532 hg w8 hbox hb; refine sh3_ (below_step (bl_ HB) hb) hbox (ge_ hg (bl_ HB)) ?_; clear HB hb hbox hg; intro HB BK532 GE532; have hcz9 := cf10_ BK532) | ((with_reducible refine gate_callee (f := 9) rfl ?_); refine gl_ 21 Try.func9 (laws_szSky.calls a0_0 _ _ l0_1 _ _ l0_2 a0_3 a0_4 a0_5 a0_6 a0_7 _ _ l0_8 a0_9 1048576 t533 _ (ck_ HR0_1 HB) HC0_1.out (ck_ HR0_2 HB) HC0_2.out (ck_ HR0_8 HB) HC0_8.out A6.out) ?_; rintro e w10 ⟨rfl, hb⟩; refine ⟨_, rfl, sh2_ (blk_below (bk_ BK532) hb) (below_step (bl1_ HB GE532) hb) ?_⟩; clear BK532 HB hb; intro BK532 HB))
  go_ret
  exact ⟨er_, bl1_ HB GE532⟩
 ·rw [if_neg c7] at H
  have c7b0 := decide_eq_false c7
  clear c7
  replace H := bs_ H
  obtain ⟨⟨t534, t535, t538, t541, t542, t543, t544, t545, t546, t549⟩, A11, H⟩ := H
  dsimp only at H
  replace H := bs_ H
  obtain ⟨t550, A12, H⟩ := H
  replace H := bs_ H
  obtain ⟨⟨t553, t554, t557, t560, t561, t562, t563, t564, t565, t568⟩, A13, H⟩ := H
  dsimp only at H
  replace H := bs_ H
  obtain ⟨t570, A14, H⟩ := H
  replace H := bs_ H
  obtain ⟨t573, A15, H⟩ := H
  by_cases c16 : t573 = true
  ·subst c16
   try rw [if_pos rfl] at H
   replace H := bs_ H
   obtain ⟨⟨t574, t575, t578, t581, t582, t583, t584, t585, t586, t589⟩, A17, H⟩ := H
   dsimp only at H
   replace H := bs_ H
   obtain ⟨t590, A18, H⟩ := H
   by_cases c19 : t590 = true
   ·subst c19
    try rw [if_pos rfl] at H
    replace H := bs_ H
    obtain ⟨⟨t591, t592, t593, t594⟩, A20, H⟩ := H
    dsimp only at H
    have HC21 := Aside0.mk H
    clear H
    go_enter Try.func3, Try.ntmps3
    try go_wp2_with (first | ((with_reducible refine gd_ 5 ?_); refine bx_ 5 26 #[.int .i64 a0_0, .slice A0_1 l0_1.length c0_1, .slice A0_2 l0_2.length c0_2, .int .i64 a0_3, .int .i64 a0_4, .int .i64 a0_5, .int .i64 a0_6, .int .i64 a0_7, .slice A0_8 l0_8.length c0_8, .int .i64 a0_9] ?_; intro gb532 hg w22 hbox hb; refine sh3_ (below_step (bl_ HB) hb) hbox (ge_ hg (bl_ HB)) ?_; clear HB hb hbox hg; intro HB BK532 GE532; have hcz23 := cf10_ BK532) | ((with_reducible refine gate_callee (f := 9) rfl ?_); refine gl_ 21 Try.func9 (laws_szSky.calls a0_0 _ _ l0_1 _ _ l0_2 a0_3 a0_4 a0_5 a0_6 a0_7 _ _ l0_8 a0_9 1048576 t533 _ (ck_ HR0_1 HB) HC0_1.out (ck_ HR0_2 HB) HC0_2.out (ck_ HR0_8 HB) HC0_8.out A6.out) ?_; rintro e w24 ⟨rfl, hb⟩; refine ⟨_, rfl, sh2_ (blk_below (bk_ BK532) hb) (below_step (bl1_ HB GE532) hb) ?_⟩; clear BK532 HB hb; intro BK532 HB; have hcz25 := cf10_ BK532) | ((with_reducible refine gate_callee (f := 11) rfl ?_); refine gl_ 25 Try.func11 (laws_toSky.calls k a0_0 _ _ l0_1 _ _ l0_2 a0_3 a0_4 a0_5 a0_6 a0_7 _ _ l0_8 a0_9 t534 t535 t538 t541 t542 t543 t544 t545 t546 t549 _ (ck_ HR0_1 HB) HC0_1.out (ck_ HR0_2 HB) HC0_2.out (ck_ HR0_8 HB) HC0_8.out A11.out) ?_; rintro e w26 ⟨v536, v539, v547, rfl, ho0, ho1, ho2, hb⟩; refine ⟨_, rfl, sh5_ (Kd.R_lower ho0 (below_size (bl1_ HB GE532))) (Kd.R_lower ho1 (below_size (bl1_ HB GE532))) (Kd.R_lower ho2 (below_size (bl1_ HB GE532))) (blk_below (bk_ BK532) hb) (below_step (bl1_ HB GE532) hb) ?_⟩; clear BK532 HB hb ho0 ho1 ho2; intro HO537 HO540 HO548 BK532 HB; obtain ⟨Ao27, co27, eo27⟩ := Kd.R_slice HO537.out; subst eo27; obtain ⟨Ao28, co28, eo28⟩ := Kd.R_slice HO540.out; subst eo28; obtain ⟨Ao29, co29, eo29⟩ := Kd.R_slice HO548.out; subst eo29) | ((with_reducible refine gate_callee (f := 10) rfl ?_); refine gl_ 30 Try.func10 (spec_SpeakingSpans.calls k t534 _ _ t535 _ _ t538 t541 t542 t543 t544 t545 _ _ t546 t549 a1 a2 a3 a4 t550 _ (cr_ HO537) (rl_ HO537) (cr_ HO540) (rl_ HO540) (cr_ HO548) (rl_ HO548) A12.out) ?_; rintro e w30 ⟨v551, rfl, ho0, hb⟩; refine ⟨_, rfl, sh6_ (Kd.R_below (ra_ HO537) hb) (Kd.R_below (ra_ HO540) hb) (Kd.R_below (ra_ HO548) hb) (Kd.R_lower ho0 (below_size (bl1_ HB GE532))) (blk_below (bk_ BK532) hb) (below_step (bl1_ HB GE532) hb) ?_⟩; clear HO537 HO540 HO548 BK532 HB hb ho0; intro HO537 HO540 HO548 HO552 BK532 HB; have hcz31 := cf10_ BK532) | ((with_reducible refine gate_callee (f := 11) rfl ?_); refine gl_ 32 Try.func11 (laws_toSky.calls k a0_0 _ _ l0_1 _ _ l0_2 a0_3 a0_4 a0_5 a0_6 a0_7 _ _ l0_8 a0_9 t553 t554 t557 t560 t561 t562 t563 t564 t565 t568 _ (ck_ HR0_1 HB) HC0_1.out (ck_ HR0_2 HB) HC0_2.out (ck_ HR0_8 HB) HC0_8.out A13.out) ?_; rintro e w32 ⟨v555, v558, v566, rfl, ho0, ho1, ho2, hb⟩; refine ⟨_, rfl, sh9_ (Kd.R_elder' (ra_ HO537) (Kd.R_base ho0) hb) (Kd.R_elder' (ra_ HO540) (Kd.R_base ho1) hb) (Kd.R_elder' (ra_ HO548) (Kd.R_base ho2) hb) (Kd.R_below (ra_ HO552) hb) (Kd.R_lower (Kd.R_new' ho0 (Kd.R_lt (ra_ HO537))) (below_size (bl1_ HB GE532))) (Kd.R_lower (Kd.R_new' ho1 (Kd.R_lt (ra_ HO540))) (below_size (bl1_ HB GE532))) (Kd.R_lower (Kd.R_new' ho2 (Kd.R_lt (ra_ HO548))) (below_size (bl1_ HB GE532))) (blk_below (bk_ BK532) hb) (below_step (bl1_ HB GE532) hb) ?_⟩; clear HO537 HO540 HO548 HO552 BK532 HB hb ho0 ho1 ho2; intro HO537 HO540 HO548 HO552 HO556 HO559 HO567 BK532 HB) | ((with_reducible refine gd_ 13 ?_); refine bx_ 13 34 #[.int .i64 0, .slice none 0 0, .slice none 0 0, .int .i64 0, .int .i64 0, .int .i64 0, .int .i64 0, .int .i64 0, .slice none 0 0, .int .i64 0] ?_; intro gb569 hg w33 hbox hb; refine sh13_ (Kd.R_below (ra_ HO537) hb) (Kd.R_below (ra_ HO540) hb) (Kd.R_below (ra_ HO548) hb) (Kd.R_below (ra_ HO552) hb) (Kd.R_below (ra_ HO556) hb) (Kd.R_below (ra_ HO559) hb) (Kd.R_below (ra_ HO567) hb) (blk_below (bk_ BK532) hb) (below_step (bl1_ HB GE532) hb) hbox (ge_ hg (bl1_ HB GE532)) (nl_ hg (bk_ BK532)) (ng_ hg (bk_ BK532)) ?_; clear HO537 HO540 HO548 HO552 HO556 HO559 HO567 BK532 HB hb hbox hg; intro HO537 HO540 HO548 HO552 HO556 HO559 HO567 BK532 HB BK569 GE569 NB532_569 NB569_532; have hnb34 := NB569_532.out; have hnc34 := NB532_569.out; have hcz35 := cf10_ BK569; obtain ⟨Ao36, co36, eo36⟩ := Kd.R_slice HO556.out; subst eo36; obtain ⟨Ao37, co37, eo37⟩ := Kd.R_slice HO559.out; subst eo37; obtain ⟨Ao38, co38, eo38⟩ := Kd.R_slice HO567.out; subst eo38) | ((with_reducible refine gate_callee (f := 12) rfl ?_); refine goesL_ (some 38) rfl rfl Try.func12 (by kernel_rfl) rfl #[.agg #[.int .i64 t553, .slice Ao36 t554.length co36, .slice Ao37 t557.length co37, .int .i64 t560, .int .i64 t561, .int .i64 t562, .int .i64 t563, .int .i64 t564, .slice Ao38 t565.length co38, .int .i64 t568], .int .i64 a1, .int .i64 a2, .int .i64 a3, .int .i64 a4] rfl mp_ ?_; (with_reducible refine (impl_SpeakingSpans.calls k t553 _ _ t554 _ _ t557 t560 t561 t562 t563 t564 _ _ t565 t568 a1 a2 a3 a4 t570 _ ?side1 ?side2 ?side3 ?side4 ?side5 ?side6 A14.out).mono ?_); (case side1 => refine (Kd.R_reads' (e := 105) (base := w.heap.size) (ok := fun k_ => (True ∧ some k_ ≠ (.slice Ao27 t535.length co27 : Value).ownBlock)) (n := t554.length) (c := co36) ?_).2.2; exact (by (with_reducible repeat (first | apply Kd.R_alloc | apply Kd.R_drewN | apply Kd.R_drew)); exact (Kd.R_mono (Kd.R_far (p := ⟨gb569, 9, none⟩) (Kd.R_far (p := ⟨gb569, 8, none⟩) (Kd.R_far (p := ⟨gb569, 7, none⟩) (Kd.R_far (p := ⟨gb569, 6, none⟩) (Kd.R_far (p := ⟨gb569, 5, none⟩) (Kd.R_far (p := ⟨gb569, 4, none⟩) (Kd.R_far (p := ⟨gb569, 3, none⟩) (Kd.R_far (p := ⟨gb569, 2, none⟩) (Kd.R_far (p := ⟨gb569, 1, none⟩) (Kd.R_far (p := ⟨gb569, 0, none⟩) (Kd.R_types HO556.out BK569.out (by decide)) (fun _ hk => hk.2) (.int .i64 t553)) (fun _ hk => hk.2) (.slice Ao36 t554.length co36)) (fun _ hk => hk.2) (.slice Ao37 t557.length co37)) (fun _ hk => hk.2) (.int .i64 t560)) (fun _ hk => hk.2) (.int .i64 t561)) (fun _ hk => hk.2) (.int .i64 t562)) (fun _ hk => hk.2) (.int .i64 t563)) (fun _ hk => hk.2) (.int .i64 t564)) (fun _ hk => hk.2) (.slice Ao38 t565.length co38)) (fun _ hk => hk.2) (.int .i64 t568)) (fun _ h_ => h_.1)))); (case side2 => exact (Kd.R_reads' HO556.out).2.1); (case side3 => refine (Kd.R_reads' (e := 109) (base := w.heap.size) (ok := fun k_ => (True ∧ some k_ ≠ (.slice Ao28 t538.length co28 : Value).ownBlock)) (n := t557.length) (c := co37) ?_).2.2; exact (by (with_reducible repeat (first | apply Kd.R_alloc | apply Kd.R_drewN | apply Kd.R_drew)); exact (Kd.R_mono (Kd.R_far (p := ⟨gb569, 9, none⟩) (Kd.R_far (p := ⟨gb569, 8, none⟩) (Kd.R_far (p := ⟨gb569, 7, none⟩) (Kd.R_far (p := ⟨gb569, 6, none⟩) (Kd.R_far (p := ⟨gb569, 5, none⟩) (Kd.R_far (p := ⟨gb569, 4, none⟩) (Kd.R_far (p := ⟨gb569, 3, none⟩) (Kd.R_far (p := ⟨gb569, 2, none⟩) (Kd.R_far (p := ⟨gb569, 1, none⟩) (Kd.R_far (p := ⟨gb569, 0, none⟩) (Kd.R_types HO559.out BK569.out (by decide)) (fun _ hk => hk.2) (.int .i64 t553)) (fun _ hk => hk.2) (.slice Ao36 t554.length co36)) (fun _ hk => hk.2) (.slice Ao37 t557.length co37)) (fun _ hk => hk.2) (.int .i64 t560)) (fun _ hk => hk.2) (.int .i64 t561)) (fun _ hk => hk.2) (.int .i64 t562)) (fun _ hk => hk.2) (.int .i64 t563)) (fun _ hk => hk.2) (.int .i64 t564)) (fun _ hk => hk.2) (.slice Ao38 t565.length co38)) (fun _ hk => hk.2) (.int .i64 t568)) (fun _ h_ => h_.1)))); (case side4 => exact (Kd.R_reads' HO559.out).2.1); (case side5 => refine (Kd.R_reads' (e := 115) (base := w.heap.size) (ok := fun k_ => (True ∧ some k_ ≠ (.slice Ao29 t546.length co29 : Value).ownBlock)) (n := t565.length) (c := co38) ?_).2.2; exact (by (with_reducible repeat (first | apply Kd.R_alloc | apply Kd.R_drewN | apply Kd.R_drew)); exact (Kd.R_mono (Kd.R_far (p := ⟨gb569, 9, none⟩) (Kd.R_far (p := ⟨gb569, 8, none⟩) (Kd.R_far (p := ⟨gb569, 7, none⟩) (Kd.R_far (p := ⟨gb569, 6, none⟩) (Kd.R_far (p := ⟨gb569, 5, none⟩) (Kd.R_far (p := ⟨gb569, 4, none⟩) (Kd.R_far (p := ⟨gb569, 3, none⟩) (Kd.R_far (p := ⟨gb569, 2, none⟩) (Kd.R_far (p := ⟨gb569, 1, none⟩) (Kd.R_far (p := ⟨gb569, 0, none⟩) (Kd.R_types HO567.out BK569.out (by decide)) (fun _ hk => hk.2) (.int .i64 t553)) (fun _ hk => hk.2) (.slice Ao36 t554.length co36)) (fun _ hk => hk.2) (.slice Ao37 t557.length co37)) (fun _ hk => hk.2) (.int .i64 t560)) (fun _ hk => hk.2) (.int .i64 t561)) (fun _ hk => hk.2) (.int .i64 t562)) (fun _ hk => hk.2) (.int .i64 t563)) (fun _ hk => hk.2) (.int .i64 t564)) (fun _ hk => hk.2) (.slice Ao38 t565.length co38)) (fun _ hk => hk.2) (.int .i64 t568)) (fun _ h_ => h_.1)))); (case side6 => exact (Kd.R_reads' HO567.out).2.1); rintro e w39 ⟨v571, rfl, ho0, hb⟩; refine ⟨_, rfl, sh11_ (Kd.R_below (by (with_reducible repeat (first | apply Kd.R_alloc | apply Kd.R_drewN | apply Kd.R_drew)); exact (Kd.R_mono (Kd.R_far (p := ⟨gb569, 9, none⟩) (Kd.R_far (p := ⟨gb569, 8, none⟩) (Kd.R_far (p := ⟨gb569, 7, none⟩) (Kd.R_far (p := ⟨gb569, 6, none⟩) (Kd.R_far (p := ⟨gb569, 5, none⟩) (Kd.R_far (p := ⟨gb569, 4, none⟩) (Kd.R_far (p := ⟨gb569, 3, none⟩) (Kd.R_far (p := ⟨gb569, 2, none⟩) (Kd.R_far (p := ⟨gb569, 1, none⟩) (Kd.R_far (p := ⟨gb569, 0, none⟩) (Kd.R_types HO537.out BK569.out (by decide)) (fun _ hk => hk.2) (.int .i64 t553)) (fun _ hk => hk.2) (.slice Ao36 t554.length co36)) (fun _ hk => hk.2) (.slice Ao37 t557.length co37)) (fun _ hk => hk.2) (.int .i64 t560)) (fun _ hk => hk.2) (.int .i64 t561)) (fun _ hk => hk.2) (.int .i64 t562)) (fun _ hk => hk.2) (.int .i64 t563)) (fun _ hk => hk.2) (.int .i64 t564)) (fun _ hk => hk.2) (.slice Ao38 t565.length co38)) (fun _ hk => hk.2) (.int .i64 t568)) (fun _ h_ => h_.1))) hb) (Kd.R_below (by (with_reducible repeat (first | apply Kd.R_alloc | apply Kd.R_drewN | apply Kd.R_drew)); exact (Kd.R_mono (Kd.R_far (p := ⟨gb569, 9, none⟩) (Kd.R_far (p := ⟨gb569, 8, none⟩) (Kd.R_far (p := ⟨gb569, 7, none⟩) (Kd.R_far (p := ⟨gb569, 6, none⟩) (Kd.R_far (p := ⟨gb569, 5, none⟩) (Kd.R_far (p := ⟨gb569, 4, none⟩) (Kd.R_far (p := ⟨gb569, 3, none⟩) (Kd.R_far (p := ⟨gb569, 2, none⟩) (Kd.R_far (p := ⟨gb569, 1, none⟩) (Kd.R_far (p := ⟨gb569, 0, none⟩) (Kd.R_types HO540.out BK569.out (by decide)) (fun _ hk => hk.2) (.int .i64 t553)) (fun _ hk => hk.2) (.slice Ao36 t554.length co36)) (fun _ hk => hk.2) (.slice Ao37 t557.length co37)) (fun _ hk => hk.2) (.int .i64 t560)) (fun _ hk => hk.2) (.int .i64 t561)) (fun _ hk => hk.2) (.int .i64 t562)) (fun _ hk => hk.2) (.int .i64 t563)) (fun _ hk => hk.2) (.int .i64 t564)) (fun _ hk => hk.2) (.slice Ao38 t565.length co38)) (fun _ hk => hk.2) (.int .i64 t568)) (fun _ h_ => h_.1))) hb) (Kd.R_below (by (with_reducible repeat (first | apply Kd.R_alloc | apply Kd.R_drewN | apply Kd.R_drew)); exact (Kd.R_mono (Kd.R_far (p := ⟨gb569, 9, none⟩) (Kd.R_far (p := ⟨gb569, 8, none⟩) (Kd.R_far (p := ⟨gb569, 7, none⟩) (Kd.R_far (p := ⟨gb569, 6, none⟩) (Kd.R_far (p := ⟨gb569, 5, none⟩) (Kd.R_far (p := ⟨gb569, 4, none⟩) (Kd.R_far (p := ⟨gb569, 3, none⟩) (Kd.R_far (p := ⟨gb569, 2, none⟩) (Kd.R_far (p := ⟨gb569, 1, none⟩) (Kd.R_far (p := ⟨gb569, 0, none⟩) (Kd.R_types HO548.out BK569.out (by decide)) (fun _ hk => hk.2) (.int .i64 t553)) (fun _ hk => hk.2) (.slice Ao36 t554.length co36)) (fun _ hk => hk.2) (.slice Ao37 t557.length co37)) (fun _ hk => hk.2) (.int .i64 t560)) (fun _ hk => hk.2) (.int .i64 t561)) (fun _ hk => hk.2) (.int .i64 t562)) (fun _ hk => hk.2) (.int .i64 t563)) (fun _ hk => hk.2) (.int .i64 t564)) (fun _ hk => hk.2) (.slice Ao38 t565.length co38)) (fun _ hk => hk.2) (.int .i64 t568)) (fun _ h_ => h_.1))) hb) (Kd.R_elder' (by (with_reducible repeat (first | apply Kd.R_alloc | apply Kd.R_drewN | apply Kd.R_drew)); exact (Kd.R_mono (Kd.R_far (p := ⟨gb569, 9, none⟩) (Kd.R_far (p := ⟨gb569, 8, none⟩) (Kd.R_far (p := ⟨gb569, 7, none⟩) (Kd.R_far (p := ⟨gb569, 6, none⟩) (Kd.R_far (p := ⟨gb569, 5, none⟩) (Kd.R_far (p := ⟨gb569, 4, none⟩) (Kd.R_far (p := ⟨gb569, 3, none⟩) (Kd.R_far (p := ⟨gb569, 2, none⟩) (Kd.R_far (p := ⟨gb569, 1, none⟩) (Kd.R_far (p := ⟨gb569, 0, none⟩) (Kd.R_types HO552.out BK569.out (by decide)) (fun _ hk => hk.2) (.int .i64 t553)) (fun _ hk => hk.2) (.slice Ao36 t554.length co36)) (fun _ hk => hk.2) (.slice Ao37 t557.length co37)) (fun _ hk => hk.2) (.int .i64 t560)) (fun _ hk => hk.2) (.int .i64 t561)) (fun _ hk => hk.2) (.int .i64 t562)) (fun _ hk => hk.2) (.int .i64 t563)) (fun _ hk => hk.2) (.int .i64 t564)) (fun _ hk => hk.2) (.slice Ao38 t565.length co38)) (fun _ hk => hk.2) (.int .i64 t568)) (fun _ h_ => h_.1))) (Kd.R_base ho0) hb) (Kd.R_below (by (with_reducible repeat (first | apply Kd.R_alloc | apply Kd.R_drewN | apply Kd.R_drew)); exact (Kd.R_mono (Kd.R_far (p := ⟨gb569, 9, none⟩) (Kd.R_far (p := ⟨gb569, 8, none⟩) (Kd.R_far (p := ⟨gb569, 7, none⟩) (Kd.R_far (p := ⟨gb569, 6, none⟩) (Kd.R_far (p := ⟨gb569, 5, none⟩) (Kd.R_far (p := ⟨gb569, 4, none⟩) (Kd.R_far (p := ⟨gb569, 3, none⟩) (Kd.R_far (p := ⟨gb569, 2, none⟩) (Kd.R_far (p := ⟨gb569, 1, none⟩) (Kd.R_far (p := ⟨gb569, 0, none⟩) (Kd.R_types HO556.out BK569.out (by decide)) (fun _ hk => hk.2) (.int .i64 t553)) (fun _ hk => hk.2) (.slice Ao36 t554.length co36)) (fun _ hk => hk.2) (.slice Ao37 t557.length co37)) (fun _ hk => hk.2) (.int .i64 t560)) (fun _ hk => hk.2) (.int .i64 t561)) (fun _ hk => hk.2) (.int .i64 t562)) (fun _ hk => hk.2) (.int .i64 t563)) (fun _ hk => hk.2) (.int .i64 t564)) (fun _ hk => hk.2) (.slice Ao38 t565.length co38)) (fun _ hk => hk.2) (.int .i64 t568)) (fun _ h_ => h_.1))) hb) (Kd.R_below (by (with_reducible repeat (first | apply Kd.R_alloc | apply Kd.R_drewN | apply Kd.R_drew)); exact (Kd.R_mono (Kd.R_far (p := ⟨gb569, 9, none⟩) (Kd.R_far (p := ⟨gb569, 8, none⟩) (Kd.R_far (p := ⟨gb569, 7, none⟩) (Kd.R_far (p := ⟨gb569, 6, none⟩) (Kd.R_far (p := ⟨gb569, 5, none⟩) (Kd.R_far (p := ⟨gb569, 4, none⟩) (Kd.R_far (p := ⟨gb569, 3, none⟩) (Kd.R_far (p := ⟨gb569, 2, none⟩) (Kd.R_far (p := ⟨gb569, 1, none⟩) (Kd.R_far (p := ⟨gb569, 0, none⟩) (Kd.R_types HO559.out BK569.out (by decide)) (fun _ hk => hk.2) (.int .i64 t553)) (fun _ hk => hk.2) (.slice Ao36 t554.length co36)) (fun _ hk => hk.2) (.slice Ao37 t557.length co37)) (fun _ hk => hk.2) (.int .i64 t560)) (fun _ hk => hk.2) (.int .i64 t561)) (fun _ hk => hk.2) (.int .i64 t562)) (fun _ hk => hk.2) (.int .i64 t563)) (fun _ hk => hk.2) (.int .i64 t564)) (fun _ hk => hk.2) (.slice Ao38 t565.length co38)) (fun _ hk => hk.2) (.int .i64 t568)) (fun _ h_ => h_.1))) hb) (Kd.R_below (by (with_reducible repeat (first | apply Kd.R_alloc | apply Kd.R_drewN | apply Kd.R_drew)); exact (Kd.R_mono (Kd.R_far (p := ⟨gb569, 9, none⟩) (Kd.R_far (p := ⟨gb569, 8, none⟩) (Kd.R_far (p := ⟨gb569, 7, none⟩) (Kd.R_far (p := ⟨gb569, 6, none⟩) (Kd.R_far (p := ⟨gb569, 5, none⟩) (Kd.R_far (p := ⟨gb569, 4, none⟩) (Kd.R_far (p := ⟨gb569, 3, none⟩) (Kd.R_far (p := ⟨gb569, 2, none⟩) (Kd.R_far (p := ⟨gb569, 1, none⟩) (Kd.R_far (p := ⟨gb569, 0, none⟩) (Kd.R_types HO567.out BK569.out (by decide)) (fun _ hk => hk.2) (.int .i64 t553)) (fun _ hk => hk.2) (.slice Ao36 t554.length co36)) (fun _ hk => hk.2) (.slice Ao37 t557.length co37)) (fun _ hk => hk.2) (.int .i64 t560)) (fun _ hk => hk.2) (.int .i64 t561)) (fun _ hk => hk.2) (.int .i64 t562)) (fun _ hk => hk.2) (.int .i64 t563)) (fun _ hk => hk.2) (.int .i64 t564)) (fun _ hk => hk.2) (.slice Ao38 t565.length co38)) (fun _ hk => hk.2) (.int .i64 t568)) (fun _ h_ => h_.1))) hb) (Kd.R_lower (Kd.R_new' ho0 (Kd.R_lt (by (with_reducible repeat (first | apply Kd.R_alloc | apply Kd.R_drewN | apply Kd.R_drew)); exact (Kd.R_mono (Kd.R_far (p := ⟨gb569, 9, none⟩) (Kd.R_far (p := ⟨gb569, 8, none⟩) (Kd.R_far (p := ⟨gb569, 7, none⟩) (Kd.R_far (p := ⟨gb569, 6, none⟩) (Kd.R_far (p := ⟨gb569, 5, none⟩) (Kd.R_far (p := ⟨gb569, 4, none⟩) (Kd.R_far (p := ⟨gb569, 3, none⟩) (Kd.R_far (p := ⟨gb569, 2, none⟩) (Kd.R_far (p := ⟨gb569, 1, none⟩) (Kd.R_far (p := ⟨gb569, 0, none⟩) (Kd.R_types HO552.out BK569.out (by decide)) (fun _ hk => hk.2) (.int .i64 t553)) (fun _ hk => hk.2) (.slice Ao36 t554.length co36)) (fun _ hk => hk.2) (.slice Ao37 t557.length co37)) (fun _ hk => hk.2) (.int .i64 t560)) (fun _ hk => hk.2) (.int .i64 t561)) (fun _ hk => hk.2) (.int .i64 t562)) (fun _ hk => hk.2) (.int .i64 t563)) (fun _ hk => hk.2) (.int .i64 t564)) (fun _ hk => hk.2) (.slice Ao38 t565.length co38)) (fun _ hk => hk.2) (.int .i64 t568)) (fun _ h_ => h_.1))))) (below_size (bl2_ HB GE532 GE569))) (blk_below (g := gb532) (o := .cells #[.int .i64 a0_0, .slice A0_1 l0_1.length c0_1, .slice A0_2 l0_2.length c0_2, .int .i64 a0_3, .int .i64 a0_4, .int .i64 a0_5, .int .i64 a0_6, .int .i64 a0_7, .slice A0_8 l0_8.length c0_8, .int .i64 a0_9] 26 (0, 0)) (bp_ BK532) hb) (blk_below (g := gb569) (o := .cells #[.int .i64 t553, .slice Ao36 t554.length co36, .slice Ao37 t557.length co37, .int .i64 t560, .int .i64 t561, .int .i64 t562, .int .i64 t563, .int .i64 t564, .slice Ao38 t565.length co38, .int .i64 t568] 34 (0, 0)) (bp_ BK569) hb) (below_step (bl2_ HB GE532 GE569) hb) ?_⟩; clear HO537 HO540 HO548 HO552 HO556 HO559 HO567 BK532 BK569 HB hb ho0; intro HO537 HO540 HO548 HO552 HO556 HO559 HO567 HO572 BK532 BK569 HB; obtain ⟨Ao40, co40, eo40⟩ := Kd.R_slice HO572.out; subst eo40; obtain ⟨Ao41, co41, eo41⟩ := Kd.R_slice HO552.out; subst eo41) | ((with_reducible refine gate_callee (f := 13) rfl ?_); refine gl_ 41 Try.func13 (laws_eqSpanS.calls k _ _ t570 _ _ t550 true _ (cr_ HO572) (rl_ HO572) (cr_ HO552) (rl_ HO552) A15.out) ?_; rintro e w42 ⟨rfl, hb⟩; refine ⟨_, rfl, sh11_ (Kd.R_below (ra_ HO537) hb) (Kd.R_below (ra_ HO540) hb) (Kd.R_below (ra_ HO548) hb) (Kd.R_below (ra_ HO552) hb) (Kd.R_below (ra_ HO556) hb) (Kd.R_below (ra_ HO559) hb) (Kd.R_below (ra_ HO567) hb) (Kd.R_below (ra_ HO572) hb) (blk_below (bk_ BK532) hb) (blk_below (bk_ BK569) hb) (below_step (bl2_ HB GE532 GE569) hb) ?_⟩; clear HO537 HO540 HO548 HO552 HO556 HO559 HO567 HO572 BK532 BK569 HB hb; intro HO537 HO540 HO548 HO552 HO556 HO559 HO567 HO572 BK532 BK569 HB))
    refine sh11_ (Kd.R_drew HO537.out) (Kd.R_drew HO540.out) (Kd.R_drew HO548.out) (Kd.R_drew HO552.out) (Kd.R_drew HO556.out) (Kd.R_drew HO559.out) (Kd.R_drew HO567.out) (Kd.R_drew HO572.out) (blk_drew BK532.out) (blk_drew BK569.out) (below_drew1 HB.out) ?_
    clear HO537 HO540 HO548 HO552 HO556 HO559 HO567 HO572 BK532 BK569 HB
    intro HO537 HO540 HO548 HO552 HO556 HO559 HO567 HO572 BK532 BK569 HB
    refine start_ (n := 5) (S := fun w' => Ck10 w' gb569 (.int .i64 t553) (.slice Ao36 t554.length co36) (.slice Ao37 t557.length co37) (.int .i64 t560) (.int .i64 t561) (.int .i64 t562) (.int .i64 t563) (.int .i64 t564) (.slice Ao38 t565.length co38) (.int .i64 t568) (Cz10 w' gb532 (.int .i64 a0_0) (.slice A0_1 l0_1.length c0_1) (.slice A0_2 l0_2.length c0_2) (.int .i64 a0_3) (.int .i64 a0_4) (.int .i64 a0_5) (.int .i64 a0_6) (.int .i64 a0_7) (.slice A0_8 l0_8.length c0_8) (.int .i64 a0_9))) (ds := []) #[false, false, false, false, false] (by kernel_rfl) rfl rfl ⟨(bc_ BK569 0 rfl), (bc_ BK569 1 rfl), (bc_ BK569 2 rfl), (bc_ BK569 3 rfl), (bc_ BK569 4 rfl), (bc_ BK569 5 rfl), (bc_ BK569 6 rfl), (bc_ BK569 7 rfl), (bc_ BK569 8 rfl), (bc_ BK569 9 rfl), cz10_ BK532⟩ (fun hHeld => ?_)
    generalize w42.drew = w43 at HO537 HO540 HO548 HO552 HO556 HO559 HO567 HO572 BK532 BK569 HB hHeld ⊢
    refine take_ (i := 0) (N := some 43) (v := ?_) (a' := ?_) #[true, false, false, false, false] rfl rfl (by kernel_rfl) (fun _ _ _ h => h) (Or.inl ⟨by rfl, ?_⟩) hHeld ?_ ?_
    rotate_left
    ·rintro w' ⟨s0, s1, s2, s3, s4, s5, s6, s7, s8, s9, s10, s11, s12, s13, s14, s15, s16, s17, s18, s19⟩
     go_simp
     with_reducible rfl
    rotate_left
    ·simp only [Act.put, List.setIfInBounds_toArray, List.set_cons_zero, List.set_cons_succ, i64_w, i32_w]
     rfl
    refine take_ (i := 1) (N := some 44) (v := ?_) (a' := ?_) #[true, true, false, false, false] rfl rfl (by kernel_rfl) (fun _ _ _ h => h) (Or.inl ⟨by rfl, ?_⟩) hHeld ?_ ?_
    rotate_left
    ·rintro w' ⟨s0, s1, s2, s3, s4, s5, s6, s7, s8, s9, s10, s11, s12, s13, s14, s15, s16, s17, s18, s19⟩
     go_simp
     with_reducible rfl
    rotate_left
    ·simp only [Act.put, List.setIfInBounds_toArray, List.set_cons_zero, List.set_cons_succ, i64_w, i32_w]
     rfl
    refine one_ (i := 2) (N := some 45) #[true, true, true, false, false] rfl rfl (by kernel_rfl) (by decide) (fun K hK => ?_)
    refine goes_ Try.func11 (by kernel_rfl) rfl #[.agg #[.int .i64 a0_0, .slice A0_1 l0_1.length c0_1, .slice A0_2 l0_2.length c0_2, .int .i64 a0_3, .int .i64 a0_4, .int .i64 a0_5, .int .i64 a0_6, .int .i64 a0_7, .slice A0_8 l0_8.length c0_8, .int .i64 a0_9]] (by rfl) rfl rfl mp_ ?_
    with_reducible refine (laws_toSky.calls k a0_0 _ _ l0_1 _ _ l0_2 a0_3 a0_4 a0_5 a0_6 a0_7 _ _ l0_8 a0_9 t574 t575 t578 t581 t582 t583 t584 t585 t586 t589 _ ?side1 ?side2 ?side3 ?side4 ?side5 ?side6 A17.out).mono ?_
    (case side1 => exact ck_ HR0_1 HB)
    (case side2 => exact HC0_1.out)
    (case side3 => exact ck_ HR0_2 HB)
    (case side4 => exact HC0_2.out)
    (case side5 => exact ck_ HR0_8 HB)
    (case side6 => exact HC0_8.out)
    rintro e w44 ⟨v576, v579, v587, rfl, ho0, ho1, ho2, hb⟩
    refine ⟨_, rfl, sh14_ (Kd.R_elder' (ra_ HO537) (Kd.R_base ho0) hb) (Kd.R_elder' (ra_ HO540) (Kd.R_base ho1) hb) (Kd.R_elder' (ra_ HO548) (Kd.R_base ho2) hb) (Kd.R_below (ra_ HO552) hb) (Kd.R_elder' (ra_ HO556) (Kd.R_base ho0) hb) (Kd.R_elder' (ra_ HO559) (Kd.R_base ho1) hb) (Kd.R_elder' (ra_ HO567) (Kd.R_base ho2) hb) (Kd.R_below (ra_ HO572) hb) (Kd.R_lower (Kd.R_new' (Kd.R_new' ho0 (Kd.R_lt (ra_ HO537))) (Kd.R_lt (ra_ HO556))) (below_size (bl2_ HB GE532 GE569))) (Kd.R_lower (Kd.R_new' (Kd.R_new' ho1 (Kd.R_lt (ra_ HO540))) (Kd.R_lt (ra_ HO559))) (below_size (bl2_ HB GE532 GE569))) (Kd.R_lower (Kd.R_new' (Kd.R_new' ho2 (Kd.R_lt (ra_ HO548))) (Kd.R_lt (ra_ HO567))) (below_size (bl2_ HB GE532 GE569))) (blk_below (bk_ BK532) hb) (blk_below (bk_ BK569) hb) (below_step (bl2_ HB GE532 GE569) hb) ?_⟩
    clear HO537 HO540 HO548 HO552 HO556 HO559 HO567 HO572 BK532 BK569 HB hb ho0 ho1 ho2
    intro HO537 HO540 HO548 HO552 HO556 HO559 HO567 HO572 HO577 HO580 HO588 BK532 BK569 HB
    obtain ⟨Ao45, co45, eo45⟩ := Kd.R_slice HO577.out
    (first | subst eo45 | (injection eo45 with f1_ f2_ f3_; have f4_ := f1_.symm; have f5_ := f3_.symm; clear f1_ f2_ f3_; subst f4_; subst f5_))
    obtain ⟨Ao46, co46, eo46⟩ := Kd.R_slice HO580.out
    (first | subst eo46 | (injection eo46 with f1_ f2_ f3_; have f4_ := f1_.symm; have f5_ := f3_.symm; clear f1_ f2_ f3_; subst f4_; subst f5_))
    obtain ⟨Ao47, co47, eo47⟩ := Kd.R_slice HO588.out
    (first | subst eo47 | (injection eo47 with f1_ f2_ f3_; have f4_ := f1_.symm; have f5_ := f3_.symm; clear f1_ f2_ f3_; subst f4_; subst f5_))
    refine hK.out _ _ ⟨(bc_ BK569 0 rfl), (bc_ BK569 1 rfl), (bc_ BK569 2 rfl), (bc_ BK569 3 rfl), (bc_ BK569 4 rfl), (bc_ BK569 5 rfl), (bc_ BK569 6 rfl), (bc_ BK569 7 rfl), (bc_ BK569 8 rfl), (bc_ BK569 9 rfl), cz10_ BK532⟩ (fun hHeld => ?_)
    clear hK K
    refine norm_ (show Act.put _ (some 45) _ = _ from pt_) ?_
    refine one_ (i := 3) (N := some 46) #[true, true, true, true, false] rfl rfl (by kernel_rfl) (by decide) (fun K hK => ?_)
    refine goes_ Try.func14 (by kernel_rfl) rfl #[.agg #[.int .i64 t553, .slice Ao36 t554.length co36, .slice Ao37 t557.length co37, .int .i64 t560, .int .i64 t561, .int .i64 t562, .int .i64 t563, .int .i64 t564, .slice Ao38 t565.length co38, .int .i64 t568], .agg #[.int .i64 t574, .slice Ao45 t575.length co45, .slice Ao46 t578.length co46, .int .i64 t581, .int .i64 t582, .int .i64 t583, .int .i64 t584, .int .i64 t585, .slice Ao47 t586.length co47, .int .i64 t589]] (by rfl) rfl rfl mp_ ?_
    with_reducible refine (laws_eqSky.calls k t553 _ _ t554 _ _ t557 t560 t561 t562 t563 t564 _ _ t565 t568 t574 _ _ t575 _ _ t578 t581 t582 t583 t584 t585 _ _ t586 t589 true _ ?side1 ?side2 ?side3 ?side4 ?side5 ?side6 ?side7 ?side8 ?side9 ?side10 ?side11 ?side12 A18.out).mono ?_
    (case side1 => repeat (first | exact (Kd.R_reads' HO556.out).2.2 | (with_reducible refine Kd.C_alloc ?_ _) | (with_reducible refine Kd.C_drewN ?_ _) | (with_reducible refine Kd.C_drew ?_)))
    (case side2 => exact (Kd.R_reads' HO556.out).2.1)
    (case side3 => repeat (first | exact (Kd.R_reads' HO559.out).2.2 | (with_reducible refine Kd.C_alloc ?_ _) | (with_reducible refine Kd.C_drewN ?_ _) | (with_reducible refine Kd.C_drew ?_)))
    (case side4 => exact (Kd.R_reads' HO559.out).2.1)
    (case side5 => repeat (first | exact (Kd.R_reads' HO567.out).2.2 | (with_reducible refine Kd.C_alloc ?_ _) | (with_reducible refine Kd.C_drewN ?_ _) | (with_reducible refine Kd.C_drew ?_)))
    (case side6 => exact (Kd.R_reads' HO567.out).2.1)
    (case side7 => repeat (first | exact (Kd.R_reads' HO577.out).2.2 | (with_reducible refine Kd.C_alloc ?_ _) | (with_reducible refine Kd.C_drewN ?_ _) | (with_reducible refine Kd.C_drew ?_)))
    (case side8 => exact (Kd.R_reads' HO577.out).2.1)
    (case side9 => repeat (first | exact (Kd.R_reads' HO580.out).2.2 | (with_reducible refine Kd.C_alloc ?_ _) | (with_reducible refine Kd.C_drewN ?_ _) | (with_reducible refine Kd.C_drew ?_)))
    (case side10 => exact (Kd.R_reads' HO580.out).2.1)
    (case side11 => repeat (first | exact (Kd.R_reads' HO588.out).2.2 | (with_reducible refine Kd.C_alloc ?_ _) | (with_reducible refine Kd.C_drewN ?_ _) | (with_reducible refine Kd.C_drew ?_)))
    (case side12 => exact (Kd.R_reads' HO588.out).2.1)
    rintro e w48 ⟨rfl, hb⟩
    refine ⟨_, rfl, sh14_ (Kd.R_below (ra_ HO537) hb) (Kd.R_below (ra_ HO540) hb) (Kd.R_below (ra_ HO548) hb) (Kd.R_below (ra_ HO552) hb) (Kd.R_below (ra_ HO556) hb) (Kd.R_below (ra_ HO559) hb) (Kd.R_below (ra_ HO567) hb) (Kd.R_below (ra_ HO572) hb) (Kd.R_below (ra_ HO577) hb) (Kd.R_below (ra_ HO580) hb) (Kd.R_below (ra_ HO588) hb) (blk_below (bk_ BK532) hb) (blk_below (bk_ BK569) hb) (below_step (bl2_ HB GE532 GE569) hb) ?_⟩
    clear HO537 HO540 HO548 HO552 HO556 HO559 HO567 HO572 HO577 HO580 HO588 BK532 BK569 HB hb
    intro HO537 HO540 HO548 HO552 HO556 HO559 HO567 HO572 HO577 HO580 HO588 BK532 BK569 HB
    refine hK.out _ _ ⟨(bc_ BK569 0 rfl), (bc_ BK569 1 rfl), (bc_ BK569 2 rfl), (bc_ BK569 3 rfl), (bc_ BK569 4 rfl), (bc_ BK569 5 rfl), (bc_ BK569 6 rfl), (bc_ BK569 7 rfl), (bc_ BK569 8 rfl), (bc_ BK569 9 rfl), cz10_ BK532⟩ (fun hHeld => ?_)
    clear hK K
    refine norm_ (show Act.put _ (some 46) _ = _ from pt_) ?_
    refine pu0_ 4 #[true, true, true, true, true] (some 47) ?_
    refine done_ (by kernel_rfl) ?_
    have hcz49 := cf10_ BK569
    go_upto_region 14 with (first | ((with_reducible refine gate_callee (f := 15) rfl ?_); refine goesL_ (some 50) rfl rfl Try.func15 (by kernel_rfl) rfl #[.agg #[.int .i64 t553, .slice Ao36 t554.length co36, .slice Ao37 t557.length co37, .int .i64 t560, .int .i64 t561, .int .i64 t562, .int .i64 t563, .int .i64 t564, .slice Ao38 t565.length co38, .int .i64 t568], .int .i64 1] rfl mp_ ?_; (with_reducible refine (laws_markSky.calls k t553 (fun k_ => some k_ = (.slice Ao36 t554.length co36 : Value).ownBlock) (.slice Ao36 t554.length co36) t554 (fun k_ => some k_ = (.slice Ao37 t557.length co37 : Value).ownBlock) (.slice Ao37 t557.length co37) t557 t560 t561 t562 t563 t564 (fun k_ => some k_ = (.slice Ao38 t565.length co38 : Value).ownBlock) (.slice Ao38 t565.length co38) t565 t568 1 t591 t592 t593 t594 w _ ?side1 ?side2 ?side3 ?side4 A20.out).mono ?_); (case side1 => repeat (first | (with_reducible first | exact HB.out | apply below_alloc | apply pw_below_drewN | apply below_drew1 | refine below_set ?_ GE532.out | refine below_set ?_ GE569.out) | exact HB.out)); (case side2 => exact Kd.R_tight rfl HO556.out); (case side3 => exact Kd.R_tight rfl HO559.out); (case side4 => exact Kd.R_tight rfl HO567.out); rintro e w50 ⟨rfl, hy0, hy1, hy2, hb, hkp⟩; refine ⟨_, rfl, sh14_ (blk_kept (bk_ BK532) hkp (fun hs_ => Or.elim hs_ (fun e_ => (fun e_ => (Kd.R_ne HO556.out BK532.out (by decide)) e_) e_) (fun e_ => Or.elim e_ (fun e_ => (fun e_ => (Kd.R_ne HO559.out BK532.out (by decide)) e_) e_) (fun e_ => (fun e_ => (Kd.R_ne HO567.out BK532.out (by decide)) e_) e_)))) (Kd.R_mono (ok' := fun k_ => some k_ ≠ (.slice Ao36 t554.length co36 : Value).ownBlock ∧ some k_ ≠ (.slice Ao45 t575.length co45 : Value).ownBlock) (Kd.R_keptB ((Kd.R_apart' (Kd.R_apart' HO537.out (Kd.R_typed HO559.out) (by decide)) (Kd.R_typed HO567.out) (by decide))) hkp (fun k_ hk_ hs_ => Or.elim hs_ (fun e_ => absurd e_ (hx_ hk_)) (fun e_ => Or.elim e_ (fun e_ => absurd e_ (hx_ hk_)) (fun e_ => absurd e_ (hx_ hk_))))) (fun k_ hk_ => ⟨hx_ hk_, hx_ hk_⟩)) (Kd.R_mono (ok' := fun k_ => some k_ ≠ (.slice Ao37 t557.length co37 : Value).ownBlock ∧ some k_ ≠ (.slice Ao46 t578.length co46 : Value).ownBlock) (Kd.R_keptB ((Kd.R_apart' (Kd.R_apart' HO540.out (Kd.R_typed HO556.out) (by decide)) (Kd.R_typed HO567.out) (by decide))) hkp (fun k_ hk_ hs_ => Or.elim hs_ (fun e_ => absurd e_ (hx_ hk_)) (fun e_ => Or.elim e_ (fun e_ => absurd e_ (hx_ hk_)) (fun e_ => absurd e_ (hx_ hk_))))) (fun k_ hk_ => ⟨hx_ hk_, hx_ hk_⟩)) (Kd.R_mono (ok' := fun k_ => some k_ ≠ (.slice Ao38 t565.length co38 : Value).ownBlock ∧ some k_ ≠ (.slice Ao47 t586.length co47 : Value).ownBlock) (Kd.R_keptB ((Kd.R_apart' (Kd.R_apart' HO548.out (Kd.R_typed HO556.out) (by decide)) (Kd.R_typed HO559.out) (by decide))) hkp (fun k_ hk_ hs_ => Or.elim hs_ (fun e_ => absurd e_ (hx_ hk_)) (fun e_ => Or.elim e_ (fun e_ => absurd e_ (hx_ hk_)) (fun e_ => absurd e_ (hx_ hk_))))) (fun k_ hk_ => ⟨hx_ hk_, hx_ hk_⟩)) (Kd.R_mono (ok' := fun k_ => some k_ ≠ (.slice Ao40 t570.length co40 : Value).ownBlock) (Kd.R_keptB ((Kd.R_apart' (Kd.R_apart' (Kd.R_apart' HO552.out (Kd.R_typed HO556.out) (by decide)) (Kd.R_typed HO559.out) (by decide)) (Kd.R_typed HO567.out) (by decide))) hkp (fun k_ hk_ hs_ => Or.elim hs_ (fun e_ => absurd e_ (hx_ hk_)) (fun e_ => Or.elim e_ (fun e_ => absurd e_ (hx_ hk_)) (fun e_ => absurd e_ (hx_ hk_))))) (fun k_ hk_ => hx_ hk_)) (Kd.R_reok rfl hy0 (fun k_ e_ => HO556.out.1 k_ e_)) (Kd.R_reok rfl hy1 (fun k_ e_ => HO559.out.1 k_ e_)) (Kd.R_reok rfl hy2 (fun k_ e_ => HO567.out.1 k_ e_)) (blk_kept (bk_ BK569) hkp (fun hs_ => Or.elim hs_ (fun e_ => (fun e_ => (Kd.R_ne HO556.out BK569.out (by decide)) e_) e_) (fun e_ => Or.elim e_ (fun e_ => (fun e_ => (Kd.R_ne HO559.out BK569.out (by decide)) e_) e_) (fun e_ => (fun e_ => (Kd.R_ne HO567.out BK569.out (by decide)) e_) e_)))) (Kd.R_mono (ok' := fun k_ => some k_ ≠ (.slice Ao41 t550.length co41 : Value).ownBlock) (Kd.R_keptB ((Kd.R_apart' (Kd.R_apart' (Kd.R_apart' HO572.out (Kd.R_typed HO556.out) (by decide)) (Kd.R_typed HO559.out) (by decide)) (Kd.R_typed HO567.out) (by decide))) hkp (fun k_ hk_ hs_ => Or.elim hs_ (fun e_ => absurd e_ (hx_ hk_)) (fun e_ => Or.elim e_ (fun e_ => absurd e_ (hx_ hk_)) (fun e_ => absurd e_ (hx_ hk_))))) (fun k_ hk_ => hx_ hk_)) (Kd.R_mono (ok' := fun k_ => some k_ ≠ (.slice Ao27 t535.length co27 : Value).ownBlock ∧ some k_ ≠ (.slice Ao36 t554.length co36 : Value).ownBlock) (Kd.R_keptB ((Kd.R_apart' (Kd.R_apart' HO577.out (Kd.R_typed HO559.out) (by decide)) (Kd.R_typed HO567.out) (by decide))) hkp (fun k_ hk_ hs_ => Or.elim hs_ (fun e_ => absurd e_ (hx_ hk_)) (fun e_ => Or.elim e_ (fun e_ => absurd e_ (hx_ hk_)) (fun e_ => absurd e_ (hx_ hk_))))) (fun k_ hk_ => ⟨hx_ hk_, hx_ hk_⟩)) (Kd.R_mono (ok' := fun k_ => some k_ ≠ (.slice Ao28 t538.length co28 : Value).ownBlock ∧ some k_ ≠ (.slice Ao37 t557.length co37 : Value).ownBlock) (Kd.R_keptB ((Kd.R_apart' (Kd.R_apart' HO580.out (Kd.R_typed HO556.out) (by decide)) (Kd.R_typed HO567.out) (by decide))) hkp (fun k_ hk_ hs_ => Or.elim hs_ (fun e_ => absurd e_ (hx_ hk_)) (fun e_ => Or.elim e_ (fun e_ => absurd e_ (hx_ hk_)) (fun e_ => absurd e_ (hx_ hk_))))) (fun k_ hk_ => ⟨hx_ hk_, hx_ hk_⟩)) (Kd.R_mono (ok' := fun k_ => some k_ ≠ (.slice Ao29 t546.length co29 : Value).ownBlock ∧ some k_ ≠ (.slice Ao38 t565.length co38 : Value).ownBlock) (Kd.R_keptB ((Kd.R_apart' (Kd.R_apart' HO588.out (Kd.R_typed HO556.out) (by decide)) (Kd.R_typed HO559.out) (by decide))) hkp (fun k_ hk_ hs_ => Or.elim hs_ (fun e_ => absurd e_ (hx_ hk_)) (fun e_ => Or.elim e_ (fun e_ => absurd e_ (hx_ hk_)) (fun e_ => absurd e_ (hx_ hk_))))) (fun k_ hk_ => ⟨hx_ hk_, hx_ hk_⟩)) hb ?_⟩; clear BK532 HO537 HO540 HO548 HO552 HO556 HO559 HO567 BK569 HO572 HO577 HO580 HO588 HB hb hkp hy0 hy1 hy2; intro BK532 HO537 HO540 HO548 HO552 HO556 HO559 HO567 BK569 HO572 HO577 HO580 HO588 HB))
    (try simp only [Act.put, List.setIfInBounds_toArray, List.set_cons_zero, List.set_cons_succ])
    go_cut [58] (fun v58 wc => ∃ (kq : Nat) (x58_20 : Bool), v58 = .bool x58_20 ∧ Aside0 (laws_FnExactSpeakingSpans.j0 kq a1 a2 a3 a4 t550 t570 x58_20 a0_0 l0_1 l0_2 a0_3 a0_4 a0_5 a0_6 a0_7 l0_8 a0_9 = some true) ∧ Aside0 (kq ≤ k) ∧ Aside0 (Kd.R k73 73 wc w.heap.size (fun k_ => some k_ ≠ ((.slice Ao40 t570.length co40) : Value).ownBlock) (.slice Ao41 t550.length co41) t550) ∧ Aside0 (Kd.R k73 73 wc w.heap.size (fun k_ => some k_ ≠ ((.slice Ao41 t550.length co41) : Value).ownBlock) (.slice Ao40 t570.length co40) t570) ∧ Aside0 (Kd.R k105 105 wc w.heap.size (fun _ => True) (.slice Ao36 t554.length co36) t592) ∧ Aside0 (Kd.R k109 109 wc w.heap.size (fun _ => True) (.slice Ao37 t557.length co37) t593) ∧ Aside0 (Kd.R k115 115 wc w.heap.size (fun _ => True) (.slice Ao38 t565.length co38) t594) ∧ Aside0 (wc.heap[gb532]? = some (.cells #[.int .i64 a0_0, (.slice A0_1 l0_1.length c0_1), (.slice A0_2 l0_2.length c0_2), .int .i64 a0_3, .int .i64 a0_4, .int .i64 a0_5, .int .i64 a0_6, .int .i64 a0_7, (.slice A0_8 l0_8.length c0_8), .int .i64 a0_9] 26 (0, 0))) ∧ Aside0 (wc.heap[gb569]? = some (.cells #[.int .i64 t553, (.slice Ao36 t554.length co36), (.slice Ao37 t557.length co37), .int .i64 t560, .int .i64 t561, .int .i64 t562, .int .i64 t563, .int .i64 t564, (.slice Ao38 t565.length co38), .int .i64 t568] 34 (0, 0))) ∧ Aside0 (Below w.heap.size w wc))
    case first =>
     have H := HC21.out
     clear HC21
     by_cases c51 : t591 < 0
     ·rw [if_pos c51] at H
      have c51b0 := decide_eq_true c51
      clear c51
      (first | rw [c51b0] | (simp only [i64_w, i32_w]; rw [c51b0]) | skip)
      have H' := Aside0.mk H
      clear H
      go_wp2
      go_meet
      case rel => exact ⟨_, (true), (by first | rfl | (simp; done) | (simp [*]; done)), H', ⟨by first | omega | exact Nat.le_refl _⟩, ⟨ra_ HO552⟩, ⟨ra_ HO572⟩, ⟨by (with_reducible repeat (first | apply Kd.R_alloc | apply Kd.R_drewN | apply Kd.R_drew)); exact Kd.R_mono HO556.out (fun _ hk => trivial)⟩, ⟨by (with_reducible repeat (first | apply Kd.R_alloc | apply Kd.R_drewN | apply Kd.R_drew)); exact Kd.R_mono HO559.out (fun _ hk => trivial)⟩, ⟨by (with_reducible repeat (first | apply Kd.R_alloc | apply Kd.R_drewN | apply Kd.R_drew)); exact Kd.R_mono HO567.out (fun _ hk => trivial)⟩, ⟨by (with_reducible repeat (first | refine blk_drewN ?_ _ | refine blk_drew ?_ | refine blk_alloc ?_ _)); exact BK532.out⟩, ⟨by (with_reducible repeat (first | refine blk_drewN ?_ _ | refine blk_drew ?_ | refine blk_alloc ?_ _)); exact BK569.out⟩, ⟨bl2_ HB GE532 GE569⟩⟩
     ·rw [if_neg c51] at H
      have c51b0 := decide_eq_false c51
      clear c51
      (first | rw [c51b0] | (simp only [i64_w, i32_w]; rw [c51b0]) | skip)
      replace H := bs_ H
      obtain ⟨t595, A52, H⟩ := H
      have H' := Aside0.mk H
      clear H
      go_wp2_with (first | (go_at_call 13; (with_reducible refine (laws_eqSpanS.calls k _ _ t570 _ _ t550 t595 _ ?side1 ?side2 ?side3 ?side4 A52.out).mono ?_); (case side1 => repeat (first | exact (Kd.R_reads' HO572.out).2.2 | (with_reducible refine Kd.C_alloc ?_ _) | (with_reducible refine Kd.C_drewN ?_ _) | (with_reducible refine Kd.C_drew ?_))); (case side2 => exact (Kd.R_reads' HO572.out).2.1); (case side3 => repeat (first | exact (Kd.R_reads' HO552.out).2.2 | (with_reducible refine Kd.C_alloc ?_ _) | (with_reducible refine Kd.C_drewN ?_ _) | (with_reducible refine Kd.C_drew ?_))); (case side4 => exact (Kd.R_reads' HO552.out).2.1); rintro e w53 ⟨rfl, hb⟩; refine sh14_ (Kd.R_below (ra_ HO537) hb) (Kd.R_below (ra_ HO540) hb) (Kd.R_below (ra_ HO548) hb) (Kd.R_below (ra_ HO552) hb) (Kd.R_below (ra_ HO556) hb) (Kd.R_below (ra_ HO559) hb) (Kd.R_below (ra_ HO567) hb) (Kd.R_below (ra_ HO572) hb) (Kd.R_below (ra_ HO577) hb) (Kd.R_below (ra_ HO580) hb) (Kd.R_below (ra_ HO588) hb) (blk_below (bk_ BK532) hb) (blk_below (bk_ BK569) hb) (below_step (bl2_ HB GE532 GE569) hb) ?_; clear HO537 HO540 HO548 HO552 HO556 HO559 HO567 HO572 HO577 HO580 HO588 BK532 BK569 HB hb; intro HO537 HO540 HO548 HO552 HO556 HO559 HO567 HO572 HO577 HO580 HO588 BK532 BK569 HB))
      go_meet
      case rel => exact ⟨_, (!t595), (by first | rfl | (simp; done) | (simp [*]; done)), H', ⟨by first | omega | exact Nat.le_refl _⟩, ⟨ra_ HO552⟩, ⟨ra_ HO572⟩, ⟨by (with_reducible repeat (first | apply Kd.R_alloc | apply Kd.R_drewN | apply Kd.R_drew)); exact Kd.R_mono HO556.out (fun _ hk => trivial)⟩, ⟨by (with_reducible repeat (first | apply Kd.R_alloc | apply Kd.R_drewN | apply Kd.R_drew)); exact Kd.R_mono HO559.out (fun _ hk => trivial)⟩, ⟨by (with_reducible repeat (first | apply Kd.R_alloc | apply Kd.R_drewN | apply Kd.R_drew)); exact Kd.R_mono HO567.out (fun _ hk => trivial)⟩, ⟨by (with_reducible repeat (first | refine blk_drewN ?_ _ | refine blk_drew ?_ | refine blk_alloc ?_ _)); exact BK532.out⟩, ⟨by (with_reducible repeat (first | refine blk_drewN ?_ _ | refine blk_drew ?_ | refine blk_alloc ?_ _)); exact BK569.out⟩, ⟨bl2_ HB GE532 GE569⟩⟩
    case rest =>
     clear HC21
     try clear c1
     try clear p2
     try clear c3
     try clear c5
     try clear c7
     try clear c7b0
     try clear c9
     try clear c10
     try clear c11
     try clear c12
     try clear c13
     try clear c14
     try clear c15
     try clear c16
     try clear c19
     try clear c34
     try clear c51
     try clear c51b0
     try clear hcz23
     try clear hcz25
     try clear hcz31
     try clear hcz35
     try clear hcz49
     try clear hcz9
     obtain ⟨kq, x58_20, rfl, HA, HJ20, HO_12, HO_14, HO_570001, HO_570002, HO_570008, BK532, BK569, HB⟩ := hcut
     have hl570001_20 := (Kd.R_reads' HO_570001.out).1
     rw [hl570001_20] at HO_570001
     (try simp only [hl570001_20])
     (try simp only [hl570001_20] at BK532)
     (try simp only [hl570001_20] at BK569)
     (try simp only [hl570001_20] at HO_12)
     (try simp only [hl570001_20] at HO_14)
     (try simp only [hl570001_20] at HO_570002)
     (try simp only [hl570001_20] at HO_570008)
     have hl570002_20 := (Kd.R_reads' HO_570002.out).1
     rw [hl570002_20] at HO_570002
     (try simp only [hl570002_20])
     (try simp only [hl570002_20] at BK532)
     (try simp only [hl570002_20] at BK569)
     (try simp only [hl570002_20] at HO_12)
     (try simp only [hl570002_20] at HO_14)
     (try simp only [hl570002_20] at HO_570001)
     (try simp only [hl570002_20] at HO_570008)
     have hl570008_20 := (Kd.R_reads' HO_570008.out).1
     rw [hl570008_20] at HO_570008
     (try simp only [hl570008_20])
     (try simp only [hl570008_20] at BK532)
     (try simp only [hl570008_20] at BK569)
     (try simp only [hl570008_20] at HO_12)
     (try simp only [hl570008_20] at HO_14)
     (try simp only [hl570008_20] at HO_570001)
     (try simp only [hl570008_20] at HO_570002)
     cases kq with
     | zero => exact absurd HA.out (by simp [laws_FnExactSpeakingSpans.j0])
     | succ kj20 =>
      have H := HA.out
      clear HA
      simp only [laws_FnExactSpeakingSpans.j0] at H
      by_cases c54 : x58_20 = true
      ·subst c54
       try rw [if_pos rfl] at H
       exact absurd H (by simp)
      ·replace c54 := Bool.eq_false_iff.mpr c54
       subst c54
       have H1 : ((laws_markSpanS.f kj20 t570 1).bind fun bt596 => ((laws_heldSpanS.f kj20 bt596.2 1).bind fun t598 => (if t598 < 0 then (some false) else (if t598 = bt596.1 then ((laws_toSky.f kj20 a0_0 l0_1 l0_2 a0_3 a0_4 a0_5 a0_6 a0_7 l0_8 a0_9).bind fun bt599 => ((impl_SpeakingSpans.f kj20 bt599.1 bt599.2.1 bt599.2.2.1 bt599.2.2.2.1 bt599.2.2.2.2.1 bt599.2.2.2.2.2.1 bt599.2.2.2.2.2.2.1 bt599.2.2.2.2.2.2.2.1 bt599.2.2.2.2.2.2.2.2.1 bt599.2.2.2.2.2.2.2.2.2 a1 a2 a3 a4).bind fun t615 => ((laws_eqSpanS.f kj20 t615 t550).bind fun t618 => (if t618 = true then ((laws_heldSpanS.f kj20 bt596.2 1).bind fun t619 => (if t619 < 0 then (some false) else (if t619 = bt596.1 then (some true) else (some false)))) else (some false))))) else (some false))))) = some true := by first | (rw [if_neg (show ¬ (false = true) by decide)] at H; exact H) | rfl
       clear H
       have H := H1
       clear H1
       replace H := bs_ H
       obtain ⟨⟨t596, t597⟩, A55, H⟩ := H
       dsimp only at H
       replace H := bs_ H
       obtain ⟨t598, A56, H⟩ := H
       by_cases c57 : t598 < 0
       ·rw [if_pos c57] at H
        have c57b0 := decide_eq_true c57
        clear c57
        exact absurd H (by simp)
       ·rw [if_neg c57] at H
        have c57b0 := decide_eq_false c57
        clear c57
        by_cases c58 : t598 = t596
        ·rw [if_pos c58] at H
         obtain ⟨c58b0, c58b1⟩ := bt_ c58
         clear c58
         replace H := bs_ H
         obtain ⟨⟨t599, t600, t603, t606, t607, t608, t609, t610, t611, t614⟩, A59, H⟩ := H
         dsimp only at H
         replace H := bs_ H
         obtain ⟨t615, A60, H⟩ := H
         replace H := bs_ H
         obtain ⟨t618, A61, H⟩ := H
         by_cases c62 : t618 = true
         ·subst c62
          try rw [if_pos rfl] at H
          replace H := bs_ H
          obtain ⟨t619, A63, H⟩ := H
          by_cases c64 : t619 < 0
          ·rw [if_pos c64] at H
           have c64b0 := decide_eq_true c64
           clear c64
           exact absurd H (by simp)
          ·rw [if_neg c64] at H
           have c64b0 := decide_eq_false c64
           clear c64
           by_cases c65 : t619 = t596
           ·rw [if_pos c65] at H
            obtain ⟨c65b0, c65b1⟩ := bt_ c65
            clear c65
            clear H
            go_wp2_with (first | ((with_reducible refine gate_callee (f := 16) rfl ?_); refine goesL_ (some 61) rfl rfl Try.func16 (by kernel_rfl) rfl #[.slice Ao40 t570.length co40, .int .i64 1] rfl mp_ ?_; (with_reducible refine (laws_markSpanS.calls kj20 (fun k_ => some k_ = (.slice Ao40 t570.length co40 : Value).ownBlock) (.slice Ao40 t570.length co40) t570 1 t596 t597 w _ ?side1 ?side2 A55.out).mono ?_); (case side1 => repeat (first | (with_reducible first | exact HB.out | apply below_alloc | apply pw_below_drewN | apply below_drew1 | refine below_set ?_ GE532.out | refine below_set ?_ GE569.out) | exact HB.out)); (case side2 => exact Kd.R_tight rfl HO_14.out); rintro e w66 ⟨rfl, hy0, hb, hkp⟩; refine ⟨_, rfl, sh8_ (Kd.R_mono (ok' := fun k_ => some k_ ≠ (.slice Ao40 t570.length co40 : Value).ownBlock) (Kd.R_keptB (HO_12.out) hkp (fun k_ hk_ hs_ => (hk_) hs_)) (fun k_ hk_ => hx_ hk_)) (Kd.R_reok rfl hy0 (fun k_ e_ => HO_14.out.1 k_ e_)) (Kd.R_mono (ok' := fun k_ => True) (Kd.R_keptB ((Kd.R_apart' HO_570001.out (Kd.R_typed HO_14.out) (by decide))) hkp (fun k_ hk_ hs_ => (hk_.2) hs_)) (fun k_ hk_ => trivial)) (Kd.R_mono (ok' := fun k_ => True) (Kd.R_keptB ((Kd.R_apart' HO_570002.out (Kd.R_typed HO_14.out) (by decide))) hkp (fun k_ hk_ hs_ => (hk_.2) hs_)) (fun k_ hk_ => trivial)) (Kd.R_mono (ok' := fun k_ => True) (Kd.R_keptB ((Kd.R_apart' HO_570008.out (Kd.R_typed HO_14.out) (by decide))) hkp (fun k_ hk_ hs_ => (hk_.2) hs_)) (fun k_ hk_ => trivial)) (blk_kept (bk_ BK532) hkp (fun hs_ => (fun e_ => (Kd.R_ne HO_14.out BK532.out (by decide)) e_) hs_)) (blk_kept (bk_ BK569) hkp (fun hs_ => (fun e_ => (Kd.R_ne HO_14.out BK569.out (by decide)) e_) hs_)) hb ?_⟩; clear HO_12 HO_14 HO_570001 HO_570002 HO_570008 BK532 BK569 HB hb hkp hy0; intro HO_12 HO_14 HO_570001 HO_570002 HO_570008 BK532 BK569 HB) | ((with_reducible refine gate_callee (f := 17) rfl ?_); refine goesL_ (some 64) rfl rfl Try.func17 (by kernel_rfl) rfl #[.slice Ao40 t597.length co40, .int .i64 1] rfl (by (try simp only [List.map_toArray, List.map_cons, List.map_nil]); first | done | (rw [show t597.length = t570.length from (Kd.R_reads' HO_14.out).1.symm] <;> rfl) | rfl | (simp only [List.length_drop, List.length_take]; rfl)) ?_; (with_reducible refine (laws_heldSpanS.calls kj20 _ _ t597 1 t598 _ ?side1 ?side2 A56.out).mono ?_); (case side1 => repeat (first | exact (Kd.R_reads' HO_14.out).2.2 | (with_reducible refine Kd.C_alloc ?_ _) | (with_reducible refine Kd.C_drewN ?_ _) | (with_reducible refine Kd.C_drew ?_))); (case side2 => rw [show t597.length = t570.length from (Kd.R_reads' HO_14.out).1.symm]; exact (Kd.R_reads' HO_14.out).2.1); rintro e w' ⟨rfl, ⟨nd, rfl⟩⟩; refine ⟨_, rfl, ?_⟩; have hnb67 := NB532_569.out; have hnc67 := NB569_532.out; have hcz68 := cf10_ BK532) | ((with_reducible refine gate_callee (f := 11) rfl ?_); refine goesL_ (some 71) rfl rfl Try.func11 (by kernel_rfl) rfl #[.agg #[.int .i64 a0_0, .slice A0_1 l0_1.length c0_1, .slice A0_2 l0_2.length c0_2, .int .i64 a0_3, .int .i64 a0_4, .int .i64 a0_5, .int .i64 a0_6, .int .i64 a0_7, .slice A0_8 l0_8.length c0_8, .int .i64 a0_9]] rfl mp_ ?_; (with_reducible refine (laws_toSky.calls kj20 a0_0 _ _ l0_1 _ _ l0_2 a0_3 a0_4 a0_5 a0_6 a0_7 _ _ l0_8 a0_9 t599 t600 t603 t606 t607 t608 t609 t610 t611 t614 _ ?side1 ?side2 ?side3 ?side4 ?side5 ?side6 A59.out).mono ?_); (case side1 => repeat (first | exact (Kd.C_below HR0_1.out (bl2_ HB GE532 GE569)) | (with_reducible refine Kd.C_alloc ?_ _) | (with_reducible refine Kd.C_drewN ?_ _) | (with_reducible refine Kd.C_drew ?_))); (case side2 => exact HC0_1.out); (case side3 => repeat (first | exact (Kd.C_below HR0_2.out (bl2_ HB GE532 GE569)) | (with_reducible refine Kd.C_alloc ?_ _) | (with_reducible refine Kd.C_drewN ?_ _) | (with_reducible refine Kd.C_drew ?_))); (case side4 => exact HC0_2.out); (case side5 => repeat (first | exact (Kd.C_below HR0_8.out (bl2_ HB GE532 GE569)) | (with_reducible refine Kd.C_alloc ?_ _) | (with_reducible refine Kd.C_drewN ?_ _) | (with_reducible refine Kd.C_drew ?_))); (case side6 => exact HC0_8.out); rintro e w69 ⟨v601, v604, v612, rfl, ho0, ho1, ho2, hb⟩; refine ⟨_, rfl, sh11_ (Kd.R_below (ra_ HO_12) hb) (Kd.R_below (ra_ HO_14) hb) (Kd.R_elder' (ra_ HO_570001) (Kd.R_base ho0) hb) (Kd.R_elder' (ra_ HO_570002) (Kd.R_base ho1) hb) (Kd.R_elder' (ra_ HO_570008) (Kd.R_base ho2) hb) (Kd.R_lower (Kd.R_new' ho0 (Kd.R_lt (ra_ HO_570001))) (below_size (bl2_ HB GE532 GE569))) (Kd.R_lower (Kd.R_new' ho1 (Kd.R_lt (ra_ HO_570002))) (below_size (bl2_ HB GE532 GE569))) (Kd.R_lower (Kd.R_new' ho2 (Kd.R_lt (ra_ HO_570008))) (below_size (bl2_ HB GE532 GE569))) (blk_below (bk_ BK532) hb) (blk_below (bk_ BK569) hb) (below_step (bl2_ HB GE532 GE569) hb) ?_⟩; clear HO_12 HO_14 HO_570001 HO_570002 HO_570008 BK532 BK569 HB hb ho0 ho1 ho2; intro HO_12 HO_14 HO_570001 HO_570002 HO_570008 HO602 HO605 HO613 BK532 BK569 HB; obtain ⟨Ao70, co70, eo70⟩ := Kd.R_slice HO602.out; subst eo70; obtain ⟨Ao71, co71, eo71⟩ := Kd.R_slice HO605.out; subst eo71; obtain ⟨Ao72, co72, eo72⟩ := Kd.R_slice HO613.out; subst eo72) | ((with_reducible refine gate_callee (f := 12) rfl ?_); refine gl_ 76 Try.func12 (impl_SpeakingSpans.calls kj20 t599 _ _ t600 _ _ t603 t606 t607 t608 t609 t610 _ _ t611 t614 a1 a2 a3 a4 t615 _ (cr_ HO602) (rl_ HO602) (cr_ HO605) (rl_ HO605) (cr_ HO613) (rl_ HO613) A60.out) ?_; rintro e w73 ⟨v616, rfl, ho0, hb⟩; refine ⟨_, rfl, sh12_ (Kd.R_elder' (ra_ HO_12) (Kd.R_base ho0) hb) (Kd.R_elder' (ra_ HO_14) (Kd.R_base ho0) hb) (Kd.R_below (ra_ HO_570001) hb) (Kd.R_below (ra_ HO_570002) hb) (Kd.R_below (ra_ HO_570008) hb) (Kd.R_below (ra_ HO602) hb) (Kd.R_below (ra_ HO605) hb) (Kd.R_below (ra_ HO613) hb) (Kd.R_lower (Kd.R_new' (Kd.R_new' ho0 (Kd.R_lt (ra_ HO_12))) (Kd.R_lt (ra_ HO_14))) (below_size (bl2_ HB GE532 GE569))) (blk_below (bk_ BK532) hb) (blk_below (bk_ BK569) hb) (below_step (bl2_ HB GE532 GE569) hb) ?_⟩; clear HO_12 HO_14 HO_570001 HO_570002 HO_570008 HO602 HO605 HO613 BK532 BK569 HB hb ho0; intro HO_12 HO_14 HO_570001 HO_570002 HO_570008 HO602 HO605 HO613 HO617 BK532 BK569 HB; obtain ⟨Ao74, co74, eo74⟩ := Kd.R_slice HO617.out; subst eo74) | ((with_reducible refine gate_callee (f := 13) rfl ?_); refine gl_ 79 Try.func13 (laws_eqSpanS.calls kj20 _ _ t615 _ _ t550 true _ (cr_ HO617) (rl_ HO617) (cr_ HO_12) (rl_ HO_12) A61.out) ?_; rintro e w75 ⟨rfl, hb⟩; refine ⟨_, rfl, sh12_ (Kd.R_below (ra_ HO_12) hb) (Kd.R_below (ra_ HO_14) hb) (Kd.R_below (ra_ HO_570001) hb) (Kd.R_below (ra_ HO_570002) hb) (Kd.R_below (ra_ HO_570008) hb) (Kd.R_below (ra_ HO602) hb) (Kd.R_below (ra_ HO605) hb) (Kd.R_below (ra_ HO613) hb) (Kd.R_below (ra_ HO617) hb) (blk_below (bk_ BK532) hb) (blk_below (bk_ BK569) hb) (below_step (bl2_ HB GE532 GE569) hb) ?_⟩; clear HO_12 HO_14 HO_570001 HO_570002 HO_570008 HO602 HO605 HO613 HO617 BK532 BK569 HB hb; intro HO_12 HO_14 HO_570001 HO_570002 HO_570008 HO602 HO605 HO613 HO617 BK532 BK569 HB) | ((with_reducible refine gate_callee (f := 17) rfl ?_); refine goesL_ (some 83) rfl rfl Try.func17 (by kernel_rfl) rfl #[.slice Ao40 t597.length co40, .int .i64 1] rfl (by (try simp only [List.map_toArray, List.map_cons, List.map_nil]); first | done | (rw [show t597.length = t570.length from (Kd.R_reads' HO_14.out).1.symm] <;> rfl) | rfl | (simp only [List.length_drop, List.length_take]; rfl)) ?_; (with_reducible refine (laws_heldSpanS.calls kj20 _ _ t597 1 t619 _ ?side1 ?side2 A63.out).mono ?_); (case side1 => repeat (first | exact (Kd.R_reads' HO_14.out).2.2 | (with_reducible refine Kd.C_alloc ?_ _) | (with_reducible refine Kd.C_drewN ?_ _) | (with_reducible refine Kd.C_drew ?_))); (case side2 => rw [show t597.length = t570.length from (Kd.R_reads' HO_14.out).1.symm]; exact (Kd.R_reads' HO_14.out).2.1); rintro e w' ⟨rfl, ⟨nd, rfl⟩⟩; refine ⟨_, rfl, ?_⟩))
            go_ret
            exact ⟨er_, bl2_ HB GE532 GE569⟩
           ·rw [if_neg c65] at H
            obtain ⟨c65b0, c65b1⟩ := bn_ c65
            exact absurd H (by simp)
         ·replace c62 := Bool.eq_false_iff.mpr c62
          subst c62
          have H1 : (some false) = some true := by first | (rw [if_neg (show ¬ (false = true) by decide)] at H; exact H) | rfl
          clear H
          have H := H1
          clear H1
          exact absurd H (by simp)
        ·rw [if_neg c58] at H
         obtain ⟨c58b0, c58b1⟩ := bn_ c58
         exact absurd H (by simp)
   ·replace c19 := Bool.eq_false_iff.mpr c19
    subst c19
    have H1 : (some false) = some true := by first | (rw [if_neg (show ¬ (false = true) by decide)] at H; exact H) | rfl
    clear H
    have H := H1
    clear H1
    exact absurd H (by simp)
  ·replace c16 := Bool.eq_false_iff.mpr c16
   subst c16
   have H1 : (some false) = some true := by first | (rw [if_neg (show ¬ (false = true) by decide)] at H; exact H) | rfl
   clear H
   have H := H1
   clear H1
   exact absurd H (by simp)

end Go.Proofs.Ytcjfalmhohcifaa.PFnExactSpeakingSpans
