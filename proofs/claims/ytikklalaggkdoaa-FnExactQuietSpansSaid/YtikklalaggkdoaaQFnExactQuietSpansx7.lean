-- Written by a program of this session for this claim (the kit's printer with changes).
import Derived.Test.YtikklalaggkdoaaQFnExactQuietSpansx0
import Derived.Test.YtikklalaggkdoaaQFnExactQuietSpansx1
import Derived.Test.YtikklalaggkdoaaQFnExactQuietSpansx2
import Derived.Test.YtikklalaggkdoaaQFnExactQuietSpansx4
import Derived.Test.YtikklalaggkdoaaQFnExactQuietSpansx5
import Derived.Test.YtikklalaggkdoaaQFnExactQuietSpansx6
namespace Go.Proofs.Ytikklalaggkdoaa.PFnExactQuietSpans
open Go.RowKit Go.Proofs.YtikklalaggkdoaaW.PrintWords Go.Proofs.YtikklalaggkdoaaW.PrintLast Go.Proofs.YtikklalaggkdoaaW.PrintMore
attribute [local go_sem] max2_int min2_int max_two min_two max_three min_three max_four min_four   -- for this text's walks alone
set_option linter.unusedVariables false
set_option linter.unusedSimpArgs false

/-! ### laws_FnExactQuietSpans: function 4 -/
def laws_FnExactQuietSpans.j0 : Nat → Int → Int → Int → List (S51) → List (S51) → Bool → Int → List (S73) → List (S77) → Int → Int → Int → Int → Int → List (S85) → Int → Option (Bool)
 | 0, _, _, _, _, _, _, _, _, _, _, _, _, _, _, _, _ => none
 | k + 1, x1, x2, x3, x10, x12, x54, x356000, x356001, x356002, x356003, x356004, x356005, x356006, x356007, x356008, x356009 => if x54 = true then (some false) else ((laws_markSpanS.f k x12 1).bind fun bt419 => ((laws_heldSpanS.f k bt419.2 1).bind fun t421 => (if t421 < 0 then (some false) else (if t421 = bt419.1 then ((laws_toSky.f k x356000 x356001 x356002 x356003 x356004 x356005 x356006 x356007 x356008 x356009).bind fun bt422 => ((impl_QuietSpans.f k bt422.1 bt422.2.1 bt422.2.2.1 bt422.2.2.2.1 bt422.2.2.2.2.1 bt422.2.2.2.2.2.1 bt422.2.2.2.2.2.2.1 bt422.2.2.2.2.2.2.2.1 bt422.2.2.2.2.2.2.2.2.1 bt422.2.2.2.2.2.2.2.2.2 x1 x2 x3).bind fun t438 => ((laws_eqSpanS.f k t438 x10).bind fun t441 => (if t441 = true then ((laws_heldSpanS.f k bt419.2 1).bind fun t442 => (if t442 < 0 then (some false) else (if t442 = bt419.1 then (some true) else (some false)))) else (some false))))) else (some false)))))
def laws_FnExactQuietSpans.f (k : Nat) (a0_0 : Int) (l0_1 : List (S73)) (l0_2 : List (S77)) (a0_3 : Int) (a0_4 : Int) (a0_5 : Int) (a0_6 : Int) (a0_7 : Int) (l0_8 : List (S85)) (a0_9 : Int) (a1 : Int) (a2 : Int) (a3 : Int) : Option (Bool) := (laws_szSky.f a0_0 l0_1 l0_2 a0_3 a0_4 a0_5 a0_6 a0_7 l0_8 a0_9 1048576).bind fun t356 => (if t356 < 0 then (some true) else ((laws_toSky.f k a0_0 l0_1 l0_2 a0_3 a0_4 a0_5 a0_6 a0_7 l0_8 a0_9).bind fun bt357 => ((spec_QuietSpans.f k bt357.1 bt357.2.1 bt357.2.2.1 bt357.2.2.2.1 bt357.2.2.2.2.1 bt357.2.2.2.2.2.1 bt357.2.2.2.2.2.2.1 bt357.2.2.2.2.2.2.2.1 bt357.2.2.2.2.2.2.2.2.1 bt357.2.2.2.2.2.2.2.2.2 a1 a2 a3).bind fun t373 => ((laws_toSky.f k a0_0 l0_1 l0_2 a0_3 a0_4 a0_5 a0_6 a0_7 l0_8 a0_9).bind fun bt376 => ((impl_QuietSpans.f k bt376.1 bt376.2.1 bt376.2.2.1 bt376.2.2.2.1 bt376.2.2.2.2.1 bt376.2.2.2.2.2.1 bt376.2.2.2.2.2.2.1 bt376.2.2.2.2.2.2.2.1 bt376.2.2.2.2.2.2.2.2.1 bt376.2.2.2.2.2.2.2.2.2 a1 a2 a3).bind fun t393 => ((laws_eqSpanS.f k t393 t373).bind fun t396 => (if t396 = true then ((laws_toSky.f k a0_0 l0_1 l0_2 a0_3 a0_4 a0_5 a0_6 a0_7 l0_8 a0_9).bind fun bt397 => ((laws_eqSky.f k bt376.1 bt376.2.1 bt376.2.2.1 bt376.2.2.2.1 bt376.2.2.2.2.1 bt376.2.2.2.2.2.1 bt376.2.2.2.2.2.2.1 bt376.2.2.2.2.2.2.2.1 bt376.2.2.2.2.2.2.2.2.1 bt376.2.2.2.2.2.2.2.2.2 bt397.1 bt397.2.1 bt397.2.2.1 bt397.2.2.2.1 bt397.2.2.2.2.1 bt397.2.2.2.2.2.1 bt397.2.2.2.2.2.2.1 bt397.2.2.2.2.2.2.2.1 bt397.2.2.2.2.2.2.2.2.1 bt397.2.2.2.2.2.2.2.2.2).bind fun t413 => (if t413 = true then ((laws_markSky.f k bt376.1 bt376.2.1 bt376.2.2.1 bt376.2.2.2.1 bt376.2.2.2.2.1 bt376.2.2.2.2.2.1 bt376.2.2.2.2.2.2.1 bt376.2.2.2.2.2.2.2.1 bt376.2.2.2.2.2.2.2.2.1 bt376.2.2.2.2.2.2.2.2.2 1).bind fun bt414 => (if bt414.1 < 0 then (laws_FnExactQuietSpans.j0 k a1 a2 a3 t373 t393 true a0_0 l0_1 l0_2 a0_3 a0_4 a0_5 a0_6 a0_7 l0_8 a0_9) else ((laws_eqSpanS.f k t393 t373).bind fun t418 => (laws_FnExactQuietSpans.j0 k a1 a2 a3 t373 t393 (!t418) a0_0 l0_1 l0_2 a0_3 a0_4 a0_5 a0_6 a0_7 l0_8 a0_9)))) else (some false)))) else (some false))))))))
theorem laws_FnExactQuietSpans.mono_l : ∀ k, (∀ y0 y1 y2 y3 y4 y5 y6 y7 y8 y9 y10 y11 y12 y13 y14 y15, LeO (laws_FnExactQuietSpans.j0 k y0 y1 y2 y3 y4 y5 y6 y7 y8 y9 y10 y11 y12 y13 y14 y15) (laws_FnExactQuietSpans.j0 (k + 1) y0 y1 y2 y3 y4 y5 y6 y7 y8 y9 y10 y11 y12 y13 y14 y15))
 | 0 => fun _ _ _ _ _ _ _ _ _ _ _ _ _ _ _ _ r h => by simp [laws_FnExactQuietSpans.j0] at h
 | k + 1 => by
  have ih0 := laws_FnExactQuietSpans.mono_l k
  ·intro y0 y1 y2 y3 y4 y5 y6 y7 y8 y9 y10 y11 y12 y13 y14 y15
   unfold laws_FnExactQuietSpans.j0
   repeat' first
   | (with_reducible exact ih0 _ _ _ _ _ _ _ _ _ _ _ _ _ _ _ _)
   | (with_reducible exact impl_QuietSpans.mono _ _ _ _ _ _ _ _ _ _ _ _ _ _)
   | (with_reducible exact laws_eqSky.mono _ _ _ _ _ _ _ _ _ _ _ _ _ _ _ _ _ _ _ _ _)
   | (with_reducible exact laws_eqSpanS.mono _ _ _)
   | (with_reducible exact laws_heldSpanS.mono _ _ _)
   | (with_reducible exact laws_markSky.mono _ _ _ _ _ _ _ _ _ _ _ _)
   | (with_reducible exact laws_markSpanS.mono _ _ _)
   | (with_reducible exact laws_toSky.mono _ _ _ _ _ _ _ _ _ _ _)
   | (with_reducible exact spec_QuietSpans.mono _ _ _ _ _ _ _ _ _ _ _ _ _ _)
   | (with_reducible exact LeO.refl _)
   | (with_reducible exact LeO.none _)
   | (with_reducible refine LeO.ite ?_ ?_)
   | (with_reducible refine LeO.bind ?_ (fun _ => ?_))
   | exact ih0 _ _ _ _ _ _ _ _ _ _ _ _ _ _ _ _
   | exact impl_QuietSpans.mono _ _ _ _ _ _ _ _ _ _ _ _ _ _
   | exact laws_eqSky.mono _ _ _ _ _ _ _ _ _ _ _ _ _ _ _ _ _ _ _ _ _
   | exact laws_eqSpanS.mono _ _ _
   | exact laws_heldSpanS.mono _ _ _
   | exact laws_markSky.mono _ _ _ _ _ _ _ _ _ _ _ _
   | exact laws_markSpanS.mono _ _ _
   | exact laws_toSky.mono _ _ _ _ _ _ _ _ _ _ _
   | exact spec_QuietSpans.mono _ _ _ _ _ _ _ _ _ _ _ _ _ _
   | exact LeO.none _
   | refine LeO.ite ?_ ?_
   | refine LeO.bind ?_ (fun _ => ?_)
theorem laws_FnExactQuietSpans.mono : ∀ a0 a1 a2 a3 a4 a5 a6 a7 a8 a9 a10 a11 a12 k, LeO (laws_FnExactQuietSpans.f k a0 a1 a2 a3 a4 a5 a6 a7 a8 a9 a10 a11 a12) (laws_FnExactQuietSpans.f (k + 1) a0 a1 a2 a3 a4 a5 a6 a7 a8 a9 a10 a11 a12) := by
 intro a0 a1 a2 a3 a4 a5 a6 a7 a8 a9 a10 a11 a12 k
 have ih0 := laws_FnExactQuietSpans.mono_l k
 unfold laws_FnExactQuietSpans.f
 repeat' first
   | (with_reducible exact ih0 _ _ _ _ _ _ _ _ _ _ _ _ _ _ _ _)
   | (with_reducible exact impl_QuietSpans.mono _ _ _ _ _ _ _ _ _ _ _ _ _ _)
   | (with_reducible exact laws_eqSky.mono _ _ _ _ _ _ _ _ _ _ _ _ _ _ _ _ _ _ _ _ _)
   | (with_reducible exact laws_eqSpanS.mono _ _ _)
   | (with_reducible exact laws_heldSpanS.mono _ _ _)
   | (with_reducible exact laws_markSky.mono _ _ _ _ _ _ _ _ _ _ _ _)
   | (with_reducible exact laws_markSpanS.mono _ _ _)
   | (with_reducible exact laws_toSky.mono _ _ _ _ _ _ _ _ _ _ _)
   | (with_reducible exact spec_QuietSpans.mono _ _ _ _ _ _ _ _ _ _ _ _ _ _)
   | (with_reducible exact LeO.refl _)
   | (with_reducible exact LeO.none _)
   | (with_reducible refine LeO.ite ?_ ?_)
   | (with_reducible refine LeO.bind ?_ (fun _ => ?_))
   | exact ih0 _ _ _ _ _ _ _ _ _ _ _ _ _ _ _ _
   | exact impl_QuietSpans.mono _ _ _ _ _ _ _ _ _ _ _ _ _ _
   | exact laws_eqSky.mono _ _ _ _ _ _ _ _ _ _ _ _ _ _ _ _ _ _ _ _ _
   | exact laws_eqSpanS.mono _ _ _
   | exact laws_heldSpanS.mono _ _ _
   | exact laws_markSky.mono _ _ _ _ _ _ _ _ _ _ _ _
   | exact laws_markSpanS.mono _ _ _
   | exact laws_toSky.mono _ _ _ _ _ _ _ _ _ _ _
   | exact spec_QuietSpans.mono _ _ _ _ _ _ _ _ _ _ _ _ _ _
   | exact LeO.none _
   | refine LeO.ite ?_ ?_
   | refine LeO.bind ?_ (fun _ => ?_)
set_option maxHeartbeats 8000000 in
set_option maxRecDepth 100000 in
theorem laws_FnExactQuietSpans.calls (k : Nat) (a0_0 : Int) (A0_1 : Option Addr) (c0_1 : Nat) (l0_1 : List (S73)) (A0_2 : Option Addr) (c0_2 : Nat) (l0_2 : List (S77)) (a0_3 : Int) (a0_4 : Int) (a0_5 : Int) (a0_6 : Int) (a0_7 : Int) (A0_8 : Option Addr) (c0_8 : Nat) (l0_8 : List (S85)) (a0_9 : Int) (a1 : Int) (a2 : Int) (a3 : Int) (r : Bool) (w : World) (hr0_1 : Kd.C k73 w A0_1 l0_1.length l0_1) (hc0_1 : l0_1.length ≤ c0_1) (hr0_2 : Kd.C k77 w A0_2 l0_2.length l0_2) (hc0_2 : l0_2.length ≤ c0_2) (hr0_8 : Kd.C k85 w A0_8 l0_8.length l0_8) (hc0_8 : l0_8.length ≤ c0_8) (h : laws_FnExactQuietSpans.f k a0_0 l0_1 l0_2 a0_3 a0_4 a0_5 a0_6 a0_7 l0_8 a0_9 a1 a2 a3 = some r) (hT_ : r = true := by rfl) :
  Calls Try.prog 4 #[.agg #[.int .i64 a0_0, .slice A0_1 l0_1.length c0_1, .slice A0_2 l0_2.length c0_2, .int .i64 a0_3, .int .i64 a0_4, .int .i64 a0_5, .int .i64 a0_6, .int .i64 a0_7, .slice A0_8 l0_8.length c0_8, .int .i64 a0_9], .int .i64 a1, .int .i64 a2, .int .i64 a3] w fun e w' => e = .returned (.bool r) ∧ Below w.heap.size w w' := by
 have hu26 := Try.underlying26
 have hu33 := Try.underlying33
 have HR0_1 := Aside0.mk hr0_1
 have HC0_1 := Aside0.mk hc0_1
 clear hr0_1 hc0_1
 have HR0_2 := Aside0.mk hr0_2
 have HC0_2 := Aside0.mk hc0_2
 clear hr0_2 hc0_2
 have HR0_8 := Aside0.mk hr0_8
 have HC0_8 := Aside0.mk hc0_8
 clear hr0_8 hc0_8
 have HB := Aside0.mk (Below.refl w.heap.size w)
 subst hT_
 have H := h
 clear h
 unfold laws_FnExactQuietSpans.f at H
 replace H := Option.bind_eq_some_iff.mp H
 obtain ⟨t356, A50, H⟩ := H
 have A5 := Aside0.mk A50
 clear A50
 by_cases c6 : t356 < 0
 ·rw [if_pos c6] at H
  have c6b0 : decide (t356 < 0) = true := decide_eq_true c6
  clear c6
  clear H
  go_enter Try.func4, Try.ntmps4
  go_wp2_with (first | ((with_reducible refine gate_dst (N := 4) rfl ?_); refine box_event ?hg (N := 4) ?hd (cs := #[.int .i64 a0_0, .slice A0_1 l0_1.length c0_1, .slice A0_2 l0_2.length c0_2, .int .i64 a0_3, .int .i64 a0_4, .int .i64 a0_5, .int .i64 a0_6, .int .i64 a0_7, .slice A0_8 l0_8.length c0_8, .int .i64 a0_9]) (t := 26) ?hr ?_; (case hd => rfl); (case hg => rfl); (case hr => first | (go_simp; done) | (go_simp; rfl)); intro gb355 hg w7 hbox hb; have n0_ := Aside0.mk (below_step (bl_ HB) hb); have n1_ := Aside0.mk (hbox); have n2_ := Aside0.mk ((by rw [hg]; exact (below_size (bl_ HB)) : w.heap.size ≤ gb355)); have n3_ := Aside0.mk ((by rw [hg]; exact (below_size (bl_ HB)) : w.heap.size ≤ gb355)); clear HB; have HB := n0_; have BK355 := n1_; have GW355 := n2_; have GE355 := n3_; clear n0_ n1_ n2_ n3_; clear hb hbox hg; have hcz8_0 : w7.cell? ⟨gb355, 0, none⟩ = some (.int .i64 a0_0) := bc_ BK355 0 rfl; have hcz8_1 : w7.cell? ⟨gb355, 1, none⟩ = some (.slice A0_1 l0_1.length c0_1) := bc_ BK355 1 rfl; have hcz8_2 : w7.cell? ⟨gb355, 2, none⟩ = some (.slice A0_2 l0_2.length c0_2) := bc_ BK355 2 rfl; have hcz8_3 : w7.cell? ⟨gb355, 3, none⟩ = some (.int .i64 a0_3) := bc_ BK355 3 rfl; have hcz8_4 : w7.cell? ⟨gb355, 4, none⟩ = some (.int .i64 a0_4) := bc_ BK355 4 rfl; have hcz8_5 : w7.cell? ⟨gb355, 5, none⟩ = some (.int .i64 a0_5) := bc_ BK355 5 rfl; have hcz8_6 : w7.cell? ⟨gb355, 6, none⟩ = some (.int .i64 a0_6) := bc_ BK355 6 rfl; have hcz8_7 : w7.cell? ⟨gb355, 7, none⟩ = some (.int .i64 a0_7) := bc_ BK355 7 rfl; have hcz8_8 : w7.cell? ⟨gb355, 8, none⟩ = some (.slice A0_8 l0_8.length c0_8) := bc_ BK355 8 rfl; have hcz8_9 : w7.cell? ⟨gb355, 9, none⟩ = some (.int .i64 a0_9) := bc_ BK355 9 rfl; have hfz8_0 := bf_ BK355 0; have hfz8_1 := bf_ BK355 1; have hfz8_2 := bf_ BK355 2; have hfz8_3 := bf_ BK355 3; have hfz8_4 := bf_ BK355 4; have hfz8_5 := bf_ BK355 5; have hfz8_6 := bf_ BK355 6; have hfz8_7 := bf_ BK355 7; have hfz8_8 := bf_ BK355 8; have hfz8_9 := bf_ BK355 9) | ((with_reducible refine gate_callee (f := 9) rfl ?_); refine goesL_ (some 19) rfl rfl Try.func9 (by kernel_rfl) rfl #[.agg #[.int .i64 a0_0, .slice A0_1 l0_1.length c0_1, .slice A0_2 l0_2.length c0_2, .int .i64 a0_3, .int .i64 a0_4, .int .i64 a0_5, .int .i64 a0_6, .int .i64 a0_7, .slice A0_8 l0_8.length c0_8, .int .i64 a0_9], .int .i64 1048576] rfl mp_ ?_; (with_reducible refine (laws_szSky.calls a0_0 _ _ l0_1 _ _ l0_2 a0_3 a0_4 a0_5 a0_6 a0_7 _ _ l0_8 a0_9 1048576 t356 _ ?side1 ?side2 ?side3 ?side4 ?side5 ?side6 A5.out).mono ?_); (case side1 => exact ck_ HR0_1 HB); (case side2 => exact HC0_1.out); (case side3 => exact ck_ HR0_2 HB); (case side4 => exact HC0_2.out); (case side5 => exact ck_ HR0_8 HB); (case side6 => exact HC0_8.out); rintro e w9 ⟨rfl, hb⟩; refine ⟨_, rfl, ?_⟩; have n0_ := Aside0.mk (blk_below (bk_ BK355) hb); have n1_ := Aside0.mk (below_step (bl1_ HB GE355) hb); clear BK355; clear HB; have BK355 := n0_; have HB := n1_; clear n0_ n1_; (try clear hb); (try clear hb2); (try clear hk); (try clear hi)))
  go_ret
  exact ⟨by first | rfl | (simp [errW_none, errW_some] <;> rfl) | (simp [*, errW_none, errW_some] <;> rfl), by repeat (first | (with_reducible first | exact HB.out | apply below_alloc | apply pw_below_drewN | apply below_drew1 | refine below_set ?_ GE355.out) | exact HB.out)⟩
 ·rw [if_neg c6] at H
  have c6b0 : decide (t356 < 0) = false := decide_eq_false c6
  clear c6
  replace H := Option.bind_eq_some_iff.mp H
  obtain ⟨⟨t357, t358, t361, t364, t365, t366, t367, t368, t369, t372⟩, A100, H⟩ := H
  replace H : ((spec_QuietSpans.f k t357 t358 t361 t364 t365 t366 t367 t368 t369 t372 a1 a2 a3).bind fun t373 => ((laws_toSky.f k a0_0 l0_1 l0_2 a0_3 a0_4 a0_5 a0_6 a0_7 l0_8 a0_9).bind fun bt376 => ((impl_QuietSpans.f k bt376.1 bt376.2.1 bt376.2.2.1 bt376.2.2.2.1 bt376.2.2.2.2.1 bt376.2.2.2.2.2.1 bt376.2.2.2.2.2.2.1 bt376.2.2.2.2.2.2.2.1 bt376.2.2.2.2.2.2.2.2.1 bt376.2.2.2.2.2.2.2.2.2 a1 a2 a3).bind fun t393 => ((laws_eqSpanS.f k t393 t373).bind fun t396 => (if t396 = true then ((laws_toSky.f k a0_0 l0_1 l0_2 a0_3 a0_4 a0_5 a0_6 a0_7 l0_8 a0_9).bind fun bt397 => ((laws_eqSky.f k bt376.1 bt376.2.1 bt376.2.2.1 bt376.2.2.2.1 bt376.2.2.2.2.1 bt376.2.2.2.2.2.1 bt376.2.2.2.2.2.2.1 bt376.2.2.2.2.2.2.2.1 bt376.2.2.2.2.2.2.2.2.1 bt376.2.2.2.2.2.2.2.2.2 bt397.1 bt397.2.1 bt397.2.2.1 bt397.2.2.2.1 bt397.2.2.2.2.1 bt397.2.2.2.2.2.1 bt397.2.2.2.2.2.2.1 bt397.2.2.2.2.2.2.2.1 bt397.2.2.2.2.2.2.2.2.1 bt397.2.2.2.2.2.2.2.2.2).bind fun t413 => (if t413 = true then ((laws_markSky.f k bt376.1 bt376.2.1 bt376.2.2.1 bt376.2.2.2.1 bt376.2.2.2.2.1 bt376.2.2.2.2.2.1 bt376.2.2.2.2.2.2.1 bt376.2.2.2.2.2.2.2.1 bt376.2.2.2.2.2.2.2.2.1 bt376.2.2.2.2.2.2.2.2.2 1).bind fun bt414 => (if bt414.1 < 0 then (laws_FnExactQuietSpans.j0 k a1 a2 a3 t373 t393 true a0_0 l0_1 l0_2 a0_3 a0_4 a0_5 a0_6 a0_7 l0_8 a0_9) else ((laws_eqSpanS.f k t393 t373).bind fun t418 => (laws_FnExactQuietSpans.j0 k a1 a2 a3 t373 t393 (!t418) a0_0 l0_1 l0_2 a0_3 a0_4 a0_5 a0_6 a0_7 l0_8 a0_9)))) else (some false)))) else (some false)))))) = some true := H
  have A10 := Aside0.mk A100
  clear A100
  replace H := Option.bind_eq_some_iff.mp H
  obtain ⟨t373, A110, H⟩ := H
  have A11 := Aside0.mk A110
  clear A110
  replace H := Option.bind_eq_some_iff.mp H
  obtain ⟨⟨t376, t377, t380, t383, t384, t385, t386, t387, t388, t391⟩, A120, H⟩ := H
  replace H : ((impl_QuietSpans.f k t376 t377 t380 t383 t384 t385 t386 t387 t388 t391 a1 a2 a3).bind fun t393 => ((laws_eqSpanS.f k t393 t373).bind fun t396 => (if t396 = true then ((laws_toSky.f k a0_0 l0_1 l0_2 a0_3 a0_4 a0_5 a0_6 a0_7 l0_8 a0_9).bind fun bt397 => ((laws_eqSky.f k t376 t377 t380 t383 t384 t385 t386 t387 t388 t391 bt397.1 bt397.2.1 bt397.2.2.1 bt397.2.2.2.1 bt397.2.2.2.2.1 bt397.2.2.2.2.2.1 bt397.2.2.2.2.2.2.1 bt397.2.2.2.2.2.2.2.1 bt397.2.2.2.2.2.2.2.2.1 bt397.2.2.2.2.2.2.2.2.2).bind fun t413 => (if t413 = true then ((laws_markSky.f k t376 t377 t380 t383 t384 t385 t386 t387 t388 t391 1).bind fun bt414 => (if bt414.1 < 0 then (laws_FnExactQuietSpans.j0 k a1 a2 a3 t373 t393 true a0_0 l0_1 l0_2 a0_3 a0_4 a0_5 a0_6 a0_7 l0_8 a0_9) else ((laws_eqSpanS.f k t393 t373).bind fun t418 => (laws_FnExactQuietSpans.j0 k a1 a2 a3 t373 t393 (!t418) a0_0 l0_1 l0_2 a0_3 a0_4 a0_5 a0_6 a0_7 l0_8 a0_9)))) else (some false)))) else (some false)))) = some true := H
  have A12 := Aside0.mk A120
  clear A120
  replace H := Option.bind_eq_some_iff.mp H
  obtain ⟨t393, A130, H⟩ := H
  have A13 := Aside0.mk A130
  clear A130
  replace H := Option.bind_eq_some_iff.mp H
  obtain ⟨t396, A140, H⟩ := H
  have A14 := Aside0.mk A140
  clear A140
  by_cases c15 : t396 = true
  ·subst c15
   have H1 : ((laws_toSky.f k a0_0 l0_1 l0_2 a0_3 a0_4 a0_5 a0_6 a0_7 l0_8 a0_9).bind fun bt397 => ((laws_eqSky.f k t376 t377 t380 t383 t384 t385 t386 t387 t388 t391 bt397.1 bt397.2.1 bt397.2.2.1 bt397.2.2.2.1 bt397.2.2.2.2.1 bt397.2.2.2.2.2.1 bt397.2.2.2.2.2.2.1 bt397.2.2.2.2.2.2.2.1 bt397.2.2.2.2.2.2.2.2.1 bt397.2.2.2.2.2.2.2.2.2).bind fun t413 => (if t413 = true then ((laws_markSky.f k t376 t377 t380 t383 t384 t385 t386 t387 t388 t391 1).bind fun bt414 => (if bt414.1 < 0 then (laws_FnExactQuietSpans.j0 k a1 a2 a3 t373 t393 true a0_0 l0_1 l0_2 a0_3 a0_4 a0_5 a0_6 a0_7 l0_8 a0_9) else ((laws_eqSpanS.f k t393 t373).bind fun t418 => (laws_FnExactQuietSpans.j0 k a1 a2 a3 t373 t393 (!t418) a0_0 l0_1 l0_2 a0_3 a0_4 a0_5 a0_6 a0_7 l0_8 a0_9)))) else (some false)))) = some true := by first | (rw [if_pos rfl] at H; exact H) | rfl
   clear H
   have H := H1
   clear H1
   replace H := Option.bind_eq_some_iff.mp H
   obtain ⟨⟨t397, t398, t401, t404, t405, t406, t407, t408, t409, t412⟩, A160, H⟩ := H
   replace H : ((laws_eqSky.f k t376 t377 t380 t383 t384 t385 t386 t387 t388 t391 t397 t398 t401 t404 t405 t406 t407 t408 t409 t412).bind fun t413 => (if t413 = true then ((laws_markSky.f k t376 t377 t380 t383 t384 t385 t386 t387 t388 t391 1).bind fun bt414 => (if bt414.1 < 0 then (laws_FnExactQuietSpans.j0 k a1 a2 a3 t373 t393 true a0_0 l0_1 l0_2 a0_3 a0_4 a0_5 a0_6 a0_7 l0_8 a0_9) else ((laws_eqSpanS.f k t393 t373).bind fun t418 => (laws_FnExactQuietSpans.j0 k a1 a2 a3 t373 t393 (!t418) a0_0 l0_1 l0_2 a0_3 a0_4 a0_5 a0_6 a0_7 l0_8 a0_9)))) else (some false))) = some true := H
   have A16 := Aside0.mk A160
   clear A160
   replace H := Option.bind_eq_some_iff.mp H
   obtain ⟨t413, A170, H⟩ := H
   have A17 := Aside0.mk A170
   clear A170
   by_cases c18 : t413 = true
   ·subst c18
    have H1 : ((laws_markSky.f k t376 t377 t380 t383 t384 t385 t386 t387 t388 t391 1).bind fun bt414 => (if bt414.1 < 0 then (laws_FnExactQuietSpans.j0 k a1 a2 a3 t373 t393 true a0_0 l0_1 l0_2 a0_3 a0_4 a0_5 a0_6 a0_7 l0_8 a0_9) else ((laws_eqSpanS.f k t393 t373).bind fun t418 => (laws_FnExactQuietSpans.j0 k a1 a2 a3 t373 t393 (!t418) a0_0 l0_1 l0_2 a0_3 a0_4 a0_5 a0_6 a0_7 l0_8 a0_9)))) = some true := by first | (rw [if_pos rfl] at H; exact H) | rfl
    clear H
    have H := H1
    clear H1
    replace H := Option.bind_eq_some_iff.mp H
    obtain ⟨⟨t414, t415, t416, t417⟩, A190, H⟩ := H
    replace H : (if t414 < 0 then (laws_FnExactQuietSpans.j0 k a1 a2 a3 t373 t393 true a0_0 l0_1 l0_2 a0_3 a0_4 a0_5 a0_6 a0_7 l0_8 a0_9) else ((laws_eqSpanS.f k t393 t373).bind fun t418 => (laws_FnExactQuietSpans.j0 k a1 a2 a3 t373 t393 (!t418) a0_0 l0_1 l0_2 a0_3 a0_4 a0_5 a0_6 a0_7 l0_8 a0_9))) = some true := H
    have A19 := Aside0.mk A190
    clear A190
    have HC20 := Aside0.mk H
    clear H
    go_enter Try.func4, Try.ntmps4
    try go_wp2_with (first | ((with_reducible refine gate_dst (N := 4) rfl ?_); refine box_event ?hg (N := 4) ?hd (cs := #[.int .i64 a0_0, .slice A0_1 l0_1.length c0_1, .slice A0_2 l0_2.length c0_2, .int .i64 a0_3, .int .i64 a0_4, .int .i64 a0_5, .int .i64 a0_6, .int .i64 a0_7, .slice A0_8 l0_8.length c0_8, .int .i64 a0_9]) (t := 26) ?hr ?_; (case hd => rfl); (case hg => rfl); (case hr => first | (go_simp; done) | (go_simp; rfl)); intro gb355 hg w21 hbox hb; have n0_ := Aside0.mk (below_step (bl_ HB) hb); have n1_ := Aside0.mk (hbox); have n2_ := Aside0.mk ((by rw [hg]; exact (below_size (bl_ HB)) : w.heap.size ≤ gb355)); have n3_ := Aside0.mk ((by rw [hg]; exact (below_size (bl_ HB)) : w.heap.size ≤ gb355)); clear HB; have HB := n0_; have BK355 := n1_; have GW355 := n2_; have GE355 := n3_; clear n0_ n1_ n2_ n3_; clear hb hbox hg; have hcz22_0 : w21.cell? ⟨gb355, 0, none⟩ = some (.int .i64 a0_0) := bc_ BK355 0 rfl; have hcz22_1 : w21.cell? ⟨gb355, 1, none⟩ = some (.slice A0_1 l0_1.length c0_1) := bc_ BK355 1 rfl; have hcz22_2 : w21.cell? ⟨gb355, 2, none⟩ = some (.slice A0_2 l0_2.length c0_2) := bc_ BK355 2 rfl; have hcz22_3 : w21.cell? ⟨gb355, 3, none⟩ = some (.int .i64 a0_3) := bc_ BK355 3 rfl; have hcz22_4 : w21.cell? ⟨gb355, 4, none⟩ = some (.int .i64 a0_4) := bc_ BK355 4 rfl; have hcz22_5 : w21.cell? ⟨gb355, 5, none⟩ = some (.int .i64 a0_5) := bc_ BK355 5 rfl; have hcz22_6 : w21.cell? ⟨gb355, 6, none⟩ = some (.int .i64 a0_6) := bc_ BK355 6 rfl; have hcz22_7 : w21.cell? ⟨gb355, 7, none⟩ = some (.int .i64 a0_7) := bc_ BK355 7 rfl; have hcz22_8 : w21.cell? ⟨gb355, 8, none⟩ = some (.slice A0_8 l0_8.length c0_8) := bc_ BK355 8 rfl; have hcz22_9 : w21.cell? ⟨gb355, 9, none⟩ = some (.int .i64 a0_9) := bc_ BK355 9 rfl; have hfz22_0 := bf_ BK355 0; have hfz22_1 := bf_ BK355 1; have hfz22_2 := bf_ BK355 2; have hfz22_3 := bf_ BK355 3; have hfz22_4 := bf_ BK355 4; have hfz22_5 := bf_ BK355 5; have hfz22_6 := bf_ BK355 6; have hfz22_7 := bf_ BK355 7; have hfz22_8 := bf_ BK355 8; have hfz22_9 := bf_ BK355 9) | ((with_reducible refine gate_callee (f := 9) rfl ?_); refine goesL_ (some 19) rfl rfl Try.func9 (by kernel_rfl) rfl #[.agg #[.int .i64 a0_0, .slice A0_1 l0_1.length c0_1, .slice A0_2 l0_2.length c0_2, .int .i64 a0_3, .int .i64 a0_4, .int .i64 a0_5, .int .i64 a0_6, .int .i64 a0_7, .slice A0_8 l0_8.length c0_8, .int .i64 a0_9], .int .i64 1048576] rfl mp_ ?_; (with_reducible refine (laws_szSky.calls a0_0 _ _ l0_1 _ _ l0_2 a0_3 a0_4 a0_5 a0_6 a0_7 _ _ l0_8 a0_9 1048576 t356 _ ?side1 ?side2 ?side3 ?side4 ?side5 ?side6 A5.out).mono ?_); (case side1 => exact ck_ HR0_1 HB); (case side2 => exact HC0_1.out); (case side3 => exact ck_ HR0_2 HB); (case side4 => exact HC0_2.out); (case side5 => exact ck_ HR0_8 HB); (case side6 => exact HC0_8.out); rintro e w23 ⟨rfl, hb⟩; refine ⟨_, rfl, ?_⟩; have n0_ := Aside0.mk (blk_below (bk_ BK355) hb); have n1_ := Aside0.mk (below_step (bl1_ HB GE355) hb); clear BK355; clear HB; have BK355 := n0_; have HB := n1_; clear n0_ n1_; (try clear hb); (try clear hb2); (try clear hk); (try clear hi); have hcz24_0 : w23.cell? ⟨gb355, 0, none⟩ = some (.int .i64 a0_0) := bc_ BK355 0 rfl; have hcz24_1 : w23.cell? ⟨gb355, 1, none⟩ = some (.slice A0_1 l0_1.length c0_1) := bc_ BK355 1 rfl; have hcz24_2 : w23.cell? ⟨gb355, 2, none⟩ = some (.slice A0_2 l0_2.length c0_2) := bc_ BK355 2 rfl; have hcz24_3 : w23.cell? ⟨gb355, 3, none⟩ = some (.int .i64 a0_3) := bc_ BK355 3 rfl; have hcz24_4 : w23.cell? ⟨gb355, 4, none⟩ = some (.int .i64 a0_4) := bc_ BK355 4 rfl; have hcz24_5 : w23.cell? ⟨gb355, 5, none⟩ = some (.int .i64 a0_5) := bc_ BK355 5 rfl; have hcz24_6 : w23.cell? ⟨gb355, 6, none⟩ = some (.int .i64 a0_6) := bc_ BK355 6 rfl; have hcz24_7 : w23.cell? ⟨gb355, 7, none⟩ = some (.int .i64 a0_7) := bc_ BK355 7 rfl; have hcz24_8 : w23.cell? ⟨gb355, 8, none⟩ = some (.slice A0_8 l0_8.length c0_8) := bc_ BK355 8 rfl; have hcz24_9 : w23.cell? ⟨gb355, 9, none⟩ = some (.int .i64 a0_9) := bc_ BK355 9 rfl; have hfz24_0 := bf_ BK355 0; have hfz24_1 := bf_ BK355 1; have hfz24_2 := bf_ BK355 2; have hfz24_3 := bf_ BK355 3; have hfz24_4 := bf_ BK355 4; have hfz24_5 := bf_ BK355 5; have hfz24_6 := bf_ BK355 6; have hfz24_7 := bf_ BK355 7; have hfz24_8 := bf_ BK355 8; have hfz24_9 := bf_ BK355 9) | ((with_reducible refine gate_callee (f := 11) rfl ?_); refine goesL_ (some 23) rfl rfl Try.func11 (by kernel_rfl) rfl #[.agg #[.int .i64 a0_0, .slice A0_1 l0_1.length c0_1, .slice A0_2 l0_2.length c0_2, .int .i64 a0_3, .int .i64 a0_4, .int .i64 a0_5, .int .i64 a0_6, .int .i64 a0_7, .slice A0_8 l0_8.length c0_8, .int .i64 a0_9]] rfl mp_ ?_; (with_reducible refine (laws_toSky.calls k a0_0 _ _ l0_1 _ _ l0_2 a0_3 a0_4 a0_5 a0_6 a0_7 _ _ l0_8 a0_9 t357 t358 t361 t364 t365 t366 t367 t368 t369 t372 _ ?side1 ?side2 ?side3 ?side4 ?side5 ?side6 A10.out).mono ?_); (case side1 => exact ck_ HR0_1 HB); (case side2 => exact HC0_1.out); (case side3 => exact ck_ HR0_2 HB); (case side4 => exact HC0_2.out); (case side5 => exact ck_ HR0_8 HB); (case side6 => exact HC0_8.out); rintro e w25 ⟨v359, v362, v370, rfl, ho0, ho1, ho2, hb⟩; refine ⟨_, rfl, ?_⟩; have n0_ := Aside0.mk (Kd.R_lower ho0 (below_size (bl1_ HB GE355))); have n1_ := Aside0.mk (Kd.R_lower ho1 (below_size (bl1_ HB GE355))); have n2_ := Aside0.mk (Kd.R_lower ho2 (below_size (bl1_ HB GE355))); have n3_ := Aside0.mk (blk_below (bk_ BK355) hb); have n4_ := Aside0.mk (below_step (bl1_ HB GE355) hb); clear BK355; clear HB; have HO360 := n0_; have HO363 := n1_; have HO371 := n2_; have BK355 := n3_; have HB := n4_; clear n0_ n1_ n2_ n3_ n4_; (try clear hb); (try clear hb2); (try clear hk); (try clear hi); (try clear ho0); (try clear ho1); (try clear ho2); obtain ⟨Ao26, co26, eo26⟩ := Kd.R_slice HO360.out; subst eo26; obtain ⟨Ao27, co27, eo27⟩ := Kd.R_slice HO363.out; subst eo27; obtain ⟨Ao28, co28, eo28⟩ := Kd.R_slice HO371.out; subst eo28) | ((with_reducible refine gate_callee (f := 14) rfl ?_); refine goesL_ (some 27) rfl rfl Try.func14 (by kernel_rfl) rfl #[.agg #[.int .i64 t357, .slice Ao26 t358.length co26, .slice Ao27 t361.length co27, .int .i64 t364, .int .i64 t365, .int .i64 t366, .int .i64 t367, .int .i64 t368, .slice Ao28 t369.length co28, .int .i64 t372], .int .i64 a1, .int .i64 a2, .int .i64 a3] rfl mp_ ?_; (with_reducible refine (spec_QuietSpans.calls k t357 _ _ t358 _ _ t361 t364 t365 t366 t367 t368 _ _ t369 t372 a1 a2 a3 t373 _ ?side1 ?side2 ?side3 ?side4 ?side5 ?side6 A11.out).mono ?_); (case side1 => repeat (first | exact (Kd.R_reads' HO360.out).2.2 | (with_reducible refine Kd.C_alloc ?_ _) | (with_reducible refine Kd.C_drewN ?_ _) | (with_reducible refine Kd.C_drew ?_))); (case side2 => exact (Kd.R_reads' HO360.out).2.1); (case side3 => repeat (first | exact (Kd.R_reads' HO363.out).2.2 | (with_reducible refine Kd.C_alloc ?_ _) | (with_reducible refine Kd.C_drewN ?_ _) | (with_reducible refine Kd.C_drew ?_))); (case side4 => exact (Kd.R_reads' HO363.out).2.1); (case side5 => repeat (first | exact (Kd.R_reads' HO371.out).2.2 | (with_reducible refine Kd.C_alloc ?_ _) | (with_reducible refine Kd.C_drewN ?_ _) | (with_reducible refine Kd.C_drew ?_))); (case side6 => exact (Kd.R_reads' HO371.out).2.1); rintro e w29 ⟨v374, rfl, ho0, hb⟩; refine ⟨_, rfl, ?_⟩; have n0_ := Aside0.mk (Kd.R_below (by (with_reducible repeat (first | apply Kd.R_alloc | apply Kd.R_drewN | apply Kd.R_drew)); exact HO360.out) hb); have n1_ := Aside0.mk (Kd.R_below (by (with_reducible repeat (first | apply Kd.R_alloc | apply Kd.R_drewN | apply Kd.R_drew)); exact HO363.out) hb); have n2_ := Aside0.mk (Kd.R_below (by (with_reducible repeat (first | apply Kd.R_alloc | apply Kd.R_drewN | apply Kd.R_drew)); exact HO371.out) hb); have n3_ := Aside0.mk (Kd.R_lower ho0 (below_size (bl1_ HB GE355))); have n4_ := Aside0.mk (blk_below (bk_ BK355) hb); have n5_ := Aside0.mk (below_step (bl1_ HB GE355) hb); clear HO360; clear HO363; clear HO371; clear BK355; clear HB; have HO360 := n0_; have HO363 := n1_; have HO371 := n2_; have HO375 := n3_; have BK355 := n4_; have HB := n5_; clear n0_ n1_ n2_ n3_ n4_ n5_; (try clear hb); (try clear hb2); (try clear hk); (try clear hi); (try clear ho0); have hcz30_0 : w29.cell? ⟨gb355, 0, none⟩ = some (.int .i64 a0_0) := bc_ BK355 0 rfl; have hcz30_1 : w29.cell? ⟨gb355, 1, none⟩ = some (.slice A0_1 l0_1.length c0_1) := bc_ BK355 1 rfl; have hcz30_2 : w29.cell? ⟨gb355, 2, none⟩ = some (.slice A0_2 l0_2.length c0_2) := bc_ BK355 2 rfl; have hcz30_3 : w29.cell? ⟨gb355, 3, none⟩ = some (.int .i64 a0_3) := bc_ BK355 3 rfl; have hcz30_4 : w29.cell? ⟨gb355, 4, none⟩ = some (.int .i64 a0_4) := bc_ BK355 4 rfl; have hcz30_5 : w29.cell? ⟨gb355, 5, none⟩ = some (.int .i64 a0_5) := bc_ BK355 5 rfl; have hcz30_6 : w29.cell? ⟨gb355, 6, none⟩ = some (.int .i64 a0_6) := bc_ BK355 6 rfl; have hcz30_7 : w29.cell? ⟨gb355, 7, none⟩ = some (.int .i64 a0_7) := bc_ BK355 7 rfl; have hcz30_8 : w29.cell? ⟨gb355, 8, none⟩ = some (.slice A0_8 l0_8.length c0_8) := bc_ BK355 8 rfl; have hcz30_9 : w29.cell? ⟨gb355, 9, none⟩ = some (.int .i64 a0_9) := bc_ BK355 9 rfl; have hfz30_0 := bf_ BK355 0; have hfz30_1 := bf_ BK355 1; have hfz30_2 := bf_ BK355 2; have hfz30_3 := bf_ BK355 3; have hfz30_4 := bf_ BK355 4; have hfz30_5 := bf_ BK355 5; have hfz30_6 := bf_ BK355 6; have hfz30_7 := bf_ BK355 7; have hfz30_8 := bf_ BK355 8; have hfz30_9 := bf_ BK355 9) | ((with_reducible refine gate_callee (f := 11) rfl ?_); refine goesL_ (some 29) rfl rfl Try.func11 (by kernel_rfl) rfl #[.agg #[.int .i64 a0_0, .slice A0_1 l0_1.length c0_1, .slice A0_2 l0_2.length c0_2, .int .i64 a0_3, .int .i64 a0_4, .int .i64 a0_5, .int .i64 a0_6, .int .i64 a0_7, .slice A0_8 l0_8.length c0_8, .int .i64 a0_9]] rfl mp_ ?_; (with_reducible refine (laws_toSky.calls k a0_0 _ _ l0_1 _ _ l0_2 a0_3 a0_4 a0_5 a0_6 a0_7 _ _ l0_8 a0_9 t376 t377 t380 t383 t384 t385 t386 t387 t388 t391 _ ?side1 ?side2 ?side3 ?side4 ?side5 ?side6 A12.out).mono ?_); (case side1 => exact ck_ HR0_1 HB); (case side2 => exact HC0_1.out); (case side3 => exact ck_ HR0_2 HB); (case side4 => exact HC0_2.out); (case side5 => exact ck_ HR0_8 HB); (case side6 => exact HC0_8.out); rintro e w31 ⟨v378, v381, v389, rfl, ho0, ho1, ho2, hb⟩; refine ⟨_, rfl, ?_⟩; have n0_ := Aside0.mk (Kd.R_elder' (by (with_reducible repeat (first | apply Kd.R_alloc | apply Kd.R_drewN | apply Kd.R_drew)); exact HO360.out) (Kd.R_base ho0) hb); have n1_ := Aside0.mk (Kd.R_elder' (by (with_reducible repeat (first | apply Kd.R_alloc | apply Kd.R_drewN | apply Kd.R_drew)); exact HO363.out) (Kd.R_base ho1) hb); have n2_ := Aside0.mk (Kd.R_elder' (by (with_reducible repeat (first | apply Kd.R_alloc | apply Kd.R_drewN | apply Kd.R_drew)); exact HO371.out) (Kd.R_base ho2) hb); have n3_ := Aside0.mk (Kd.R_below (by (with_reducible repeat (first | apply Kd.R_alloc | apply Kd.R_drewN | apply Kd.R_drew)); exact HO375.out) hb); have n4_ := Aside0.mk (Kd.R_lower (Kd.R_new' ho0 (Kd.R_lt (by (with_reducible repeat (first | apply Kd.R_alloc | apply Kd.R_drewN | apply Kd.R_drew)); exact HO360.out))) (below_size (bl1_ HB GE355))); have n5_ := Aside0.mk (Kd.R_lower (Kd.R_new' ho1 (Kd.R_lt (by (with_reducible repeat (first | apply Kd.R_alloc | apply Kd.R_drewN | apply Kd.R_drew)); exact HO363.out))) (below_size (bl1_ HB GE355))); have n6_ := Aside0.mk (Kd.R_lower (Kd.R_new' ho2 (Kd.R_lt (by (with_reducible repeat (first | apply Kd.R_alloc | apply Kd.R_drewN | apply Kd.R_drew)); exact HO371.out))) (below_size (bl1_ HB GE355))); have n7_ := Aside0.mk (blk_below (bk_ BK355) hb); have n8_ := Aside0.mk (below_step (bl1_ HB GE355) hb); clear HO360; clear HO363; clear HO371; clear HO375; clear BK355; clear HB; have HO360 := n0_; have HO363 := n1_; have HO371 := n2_; have HO375 := n3_; have HO379 := n4_; have HO382 := n5_; have HO390 := n6_; have BK355 := n7_; have HB := n8_; clear n0_ n1_ n2_ n3_ n4_ n5_ n6_ n7_ n8_; (try clear hb); (try clear hb2); (try clear hk); (try clear hi); (try clear ho0); (try clear ho1); (try clear ho2)) | ((with_reducible refine gate_dst (N := 11) rfl ?_); refine box_event ?hg (N := 11) ?hd (cs := #[.int .i64 0, .slice none 0 0, .slice none 0 0, .int .i64 0, .int .i64 0, .int .i64 0, .int .i64 0, .int .i64 0, .slice none 0 0, .int .i64 0]) (t := 33) ?hr ?_; (case hd => rfl); (case hg => rfl); (case hr => first | (go_simp; done) | (go_simp; rfl)); intro gb392 hg w32 hbox hb; have n0_ := Aside0.mk (Kd.R_below (by (with_reducible repeat (first | apply Kd.R_alloc | apply Kd.R_drewN | apply Kd.R_drew)); exact HO360.out) hb); have n1_ := Aside0.mk (Kd.R_below (by (with_reducible repeat (first | apply Kd.R_alloc | apply Kd.R_drewN | apply Kd.R_drew)); exact HO363.out) hb); have n2_ := Aside0.mk (Kd.R_below (by (with_reducible repeat (first | apply Kd.R_alloc | apply Kd.R_drewN | apply Kd.R_drew)); exact HO371.out) hb); have n3_ := Aside0.mk (Kd.R_below (by (with_reducible repeat (first | apply Kd.R_alloc | apply Kd.R_drewN | apply Kd.R_drew)); exact HO375.out) hb); have n4_ := Aside0.mk (Kd.R_below (by (with_reducible repeat (first | apply Kd.R_alloc | apply Kd.R_drewN | apply Kd.R_drew)); exact HO379.out) hb); have n5_ := Aside0.mk (Kd.R_below (by (with_reducible repeat (first | apply Kd.R_alloc | apply Kd.R_drewN | apply Kd.R_drew)); exact HO382.out) hb); have n6_ := Aside0.mk (Kd.R_below (by (with_reducible repeat (first | apply Kd.R_alloc | apply Kd.R_drewN | apply Kd.R_drew)); exact HO390.out) hb); have n7_ := Aside0.mk (blk_below (bk_ BK355) hb); have n8_ := Aside0.mk (below_step (bl1_ HB GE355) hb); have n9_ := Aside0.mk (hbox); have n10_ := Aside0.mk ((by rw [hg]; exact (below_size (bl1_ HB GE355)) : w.heap.size ≤ gb392)); have n11_ := Aside0.mk ((by rw [hg]; exact (below_size (bl1_ HB GE355)) : w.heap.size ≤ gb392)); have n12_ := Aside0.mk ((by rw [hg]; exact Nat.ne_of_lt (blk_lt (bk_ BK355)) : gb355 ≠ gb392)); have n13_ := Aside0.mk ((by rw [hg]; exact Nat.ne_of_gt (blk_lt (bk_ BK355)) : gb392 ≠ gb355)); clear HO360; clear HO363; clear HO371; clear HO375; clear HO379; clear HO382; clear HO390; clear BK355; clear HB; have HO360 := n0_; have HO363 := n1_; have HO371 := n2_; have HO375 := n3_; have HO379 := n4_; have HO382 := n5_; have HO390 := n6_; have BK355 := n7_; have HB := n8_; have BK392 := n9_; have GW392 := n10_; have GE392 := n11_; have NB355_392 := n12_; have NB392_355 := n13_; clear n0_ n1_ n2_ n3_ n4_ n5_ n6_ n7_ n8_ n9_ n10_ n11_ n12_ n13_; clear hb hbox hg; have hnb33 := NB392_355.out; have hnc33 := NB355_392.out; have hcz34_0 : w32.cell? ⟨gb392, 0, none⟩ = some (.int .i64 0) := bc_ BK392 0 rfl; have hcz34_1 : w32.cell? ⟨gb392, 1, none⟩ = some (.slice none 0 0) := bc_ BK392 1 rfl; have hcz34_2 : w32.cell? ⟨gb392, 2, none⟩ = some (.slice none 0 0) := bc_ BK392 2 rfl; have hcz34_3 : w32.cell? ⟨gb392, 3, none⟩ = some (.int .i64 0) := bc_ BK392 3 rfl; have hcz34_4 : w32.cell? ⟨gb392, 4, none⟩ = some (.int .i64 0) := bc_ BK392 4 rfl; have hcz34_5 : w32.cell? ⟨gb392, 5, none⟩ = some (.int .i64 0) := bc_ BK392 5 rfl; have hcz34_6 : w32.cell? ⟨gb392, 6, none⟩ = some (.int .i64 0) := bc_ BK392 6 rfl; have hcz34_7 : w32.cell? ⟨gb392, 7, none⟩ = some (.int .i64 0) := bc_ BK392 7 rfl; have hcz34_8 : w32.cell? ⟨gb392, 8, none⟩ = some (.slice none 0 0) := bc_ BK392 8 rfl; have hcz34_9 : w32.cell? ⟨gb392, 9, none⟩ = some (.int .i64 0) := bc_ BK392 9 rfl; have hfz34_0 := bf_ BK392 0; have hfz34_1 := bf_ BK392 1; have hfz34_2 := bf_ BK392 2; have hfz34_3 := bf_ BK392 3; have hfz34_4 := bf_ BK392 4; have hfz34_5 := bf_ BK392 5; have hfz34_6 := bf_ BK392 6; have hfz34_7 := bf_ BK392 7; have hfz34_8 := bf_ BK392 8; have hfz34_9 := bf_ BK392 9; obtain ⟨Ao35, co35, eo35⟩ := Kd.R_slice HO379.out; subst eo35; obtain ⟨Ao36, co36, eo36⟩ := Kd.R_slice HO382.out; subst eo36; obtain ⟨Ao37, co37, eo37⟩ := Kd.R_slice HO390.out; subst eo37) | ((with_reducible refine gate_callee (f := 15) rfl ?_); refine goesL_ (some 34) rfl rfl Try.func15 (by kernel_rfl) rfl #[.agg #[.int .i64 t376, .slice Ao35 t377.length co35, .slice Ao36 t380.length co36, .int .i64 t383, .int .i64 t384, .int .i64 t385, .int .i64 t386, .int .i64 t387, .slice Ao37 t388.length co37, .int .i64 t391], .int .i64 a1, .int .i64 a2, .int .i64 a3] rfl mp_ ?_; (with_reducible refine (impl_QuietSpans.calls k t376 _ _ t377 _ _ t380 t383 t384 t385 t386 t387 _ _ t388 t391 a1 a2 a3 t393 _ ?side1 ?side2 ?side3 ?side4 ?side5 ?side6 A13.out).mono ?_); (case side1 => refine (Kd.R_reads' (e := 71) (base := w.heap.size) (ok := fun k_ => (True ∧ some k_ ≠ (.slice Ao26 t358.length co26 : Value).ownBlock)) (n := t377.length) (c := co35) ?_).2.2; exact (by (with_reducible repeat (first | apply Kd.R_alloc | apply Kd.R_drewN | apply Kd.R_drew)); exact (Kd.R_mono (Kd.R_far (p := ⟨gb392, 9, none⟩) (Kd.R_far (p := ⟨gb392, 8, none⟩) (Kd.R_far (p := ⟨gb392, 7, none⟩) (Kd.R_far (p := ⟨gb392, 6, none⟩) (Kd.R_far (p := ⟨gb392, 5, none⟩) (Kd.R_far (p := ⟨gb392, 4, none⟩) (Kd.R_far (p := ⟨gb392, 3, none⟩) (Kd.R_far (p := ⟨gb392, 2, none⟩) (Kd.R_far (p := ⟨gb392, 1, none⟩) (Kd.R_far (p := ⟨gb392, 0, none⟩) (Kd.R_types HO379.out BK392.out (by decide)) (fun _ hk => hk.2) (.int .i64 t376)) (fun _ hk => hk.2) (.slice Ao35 t377.length co35)) (fun _ hk => hk.2) (.slice Ao36 t380.length co36)) (fun _ hk => hk.2) (.int .i64 t383)) (fun _ hk => hk.2) (.int .i64 t384)) (fun _ hk => hk.2) (.int .i64 t385)) (fun _ hk => hk.2) (.int .i64 t386)) (fun _ hk => hk.2) (.int .i64 t387)) (fun _ hk => hk.2) (.slice Ao37 t388.length co37)) (fun _ hk => hk.2) (.int .i64 t391)) (fun _ h_ => h_.1)))); (case side2 => exact (Kd.R_reads' HO379.out).2.1); (case side3 => refine (Kd.R_reads' (e := 75) (base := w.heap.size) (ok := fun k_ => (True ∧ some k_ ≠ (.slice Ao27 t361.length co27 : Value).ownBlock)) (n := t380.length) (c := co36) ?_).2.2; exact (by (with_reducible repeat (first | apply Kd.R_alloc | apply Kd.R_drewN | apply Kd.R_drew)); exact (Kd.R_mono (Kd.R_far (p := ⟨gb392, 9, none⟩) (Kd.R_far (p := ⟨gb392, 8, none⟩) (Kd.R_far (p := ⟨gb392, 7, none⟩) (Kd.R_far (p := ⟨gb392, 6, none⟩) (Kd.R_far (p := ⟨gb392, 5, none⟩) (Kd.R_far (p := ⟨gb392, 4, none⟩) (Kd.R_far (p := ⟨gb392, 3, none⟩) (Kd.R_far (p := ⟨gb392, 2, none⟩) (Kd.R_far (p := ⟨gb392, 1, none⟩) (Kd.R_far (p := ⟨gb392, 0, none⟩) (Kd.R_types HO382.out BK392.out (by decide)) (fun _ hk => hk.2) (.int .i64 t376)) (fun _ hk => hk.2) (.slice Ao35 t377.length co35)) (fun _ hk => hk.2) (.slice Ao36 t380.length co36)) (fun _ hk => hk.2) (.int .i64 t383)) (fun _ hk => hk.2) (.int .i64 t384)) (fun _ hk => hk.2) (.int .i64 t385)) (fun _ hk => hk.2) (.int .i64 t386)) (fun _ hk => hk.2) (.int .i64 t387)) (fun _ hk => hk.2) (.slice Ao37 t388.length co37)) (fun _ hk => hk.2) (.int .i64 t391)) (fun _ h_ => h_.1)))); (case side4 => exact (Kd.R_reads' HO382.out).2.1); (case side5 => refine (Kd.R_reads' (e := 81) (base := w.heap.size) (ok := fun k_ => (True ∧ some k_ ≠ (.slice Ao28 t369.length co28 : Value).ownBlock)) (n := t388.length) (c := co37) ?_).2.2; exact (by (with_reducible repeat (first | apply Kd.R_alloc | apply Kd.R_drewN | apply Kd.R_drew)); exact (Kd.R_mono (Kd.R_far (p := ⟨gb392, 9, none⟩) (Kd.R_far (p := ⟨gb392, 8, none⟩) (Kd.R_far (p := ⟨gb392, 7, none⟩) (Kd.R_far (p := ⟨gb392, 6, none⟩) (Kd.R_far (p := ⟨gb392, 5, none⟩) (Kd.R_far (p := ⟨gb392, 4, none⟩) (Kd.R_far (p := ⟨gb392, 3, none⟩) (Kd.R_far (p := ⟨gb392, 2, none⟩) (Kd.R_far (p := ⟨gb392, 1, none⟩) (Kd.R_far (p := ⟨gb392, 0, none⟩) (Kd.R_types HO390.out BK392.out (by decide)) (fun _ hk => hk.2) (.int .i64 t376)) (fun _ hk => hk.2) (.slice Ao35 t377.length co35)) (fun _ hk => hk.2) (.slice Ao36 t380.length co36)) (fun _ hk => hk.2) (.int .i64 t383)) (fun _ hk => hk.2) (.int .i64 t384)) (fun _ hk => hk.2) (.int .i64 t385)) (fun _ hk => hk.2) (.int .i64 t386)) (fun _ hk => hk.2) (.int .i64 t387)) (fun _ hk => hk.2) (.slice Ao37 t388.length co37)) (fun _ hk => hk.2) (.int .i64 t391)) (fun _ h_ => h_.1)))); (case side6 => exact (Kd.R_reads' HO390.out).2.1); rintro e w38 ⟨v394, rfl, ho0, hb⟩; refine ⟨_, rfl, ?_⟩; have n0_ := Aside0.mk (Kd.R_below (by (with_reducible repeat (first | apply Kd.R_alloc | apply Kd.R_drewN | apply Kd.R_drew)); exact (Kd.R_mono (Kd.R_far (p := ⟨gb392, 9, none⟩) (Kd.R_far (p := ⟨gb392, 8, none⟩) (Kd.R_far (p := ⟨gb392, 7, none⟩) (Kd.R_far (p := ⟨gb392, 6, none⟩) (Kd.R_far (p := ⟨gb392, 5, none⟩) (Kd.R_far (p := ⟨gb392, 4, none⟩) (Kd.R_far (p := ⟨gb392, 3, none⟩) (Kd.R_far (p := ⟨gb392, 2, none⟩) (Kd.R_far (p := ⟨gb392, 1, none⟩) (Kd.R_far (p := ⟨gb392, 0, none⟩) (Kd.R_types HO360.out BK392.out (by decide)) (fun _ hk => hk.2) (.int .i64 t376)) (fun _ hk => hk.2) (.slice Ao35 t377.length co35)) (fun _ hk => hk.2) (.slice Ao36 t380.length co36)) (fun _ hk => hk.2) (.int .i64 t383)) (fun _ hk => hk.2) (.int .i64 t384)) (fun _ hk => hk.2) (.int .i64 t385)) (fun _ hk => hk.2) (.int .i64 t386)) (fun _ hk => hk.2) (.int .i64 t387)) (fun _ hk => hk.2) (.slice Ao37 t388.length co37)) (fun _ hk => hk.2) (.int .i64 t391)) (fun _ h_ => h_.1))) hb); have n1_ := Aside0.mk (Kd.R_below (by (with_reducible repeat (first | apply Kd.R_alloc | apply Kd.R_drewN | apply Kd.R_drew)); exact (Kd.R_mono (Kd.R_far (p := ⟨gb392, 9, none⟩) (Kd.R_far (p := ⟨gb392, 8, none⟩) (Kd.R_far (p := ⟨gb392, 7, none⟩) (Kd.R_far (p := ⟨gb392, 6, none⟩) (Kd.R_far (p := ⟨gb392, 5, none⟩) (Kd.R_far (p := ⟨gb392, 4, none⟩) (Kd.R_far (p := ⟨gb392, 3, none⟩) (Kd.R_far (p := ⟨gb392, 2, none⟩) (Kd.R_far (p := ⟨gb392, 1, none⟩) (Kd.R_far (p := ⟨gb392, 0, none⟩) (Kd.R_types HO363.out BK392.out (by decide)) (fun _ hk => hk.2) (.int .i64 t376)) (fun _ hk => hk.2) (.slice Ao35 t377.length co35)) (fun _ hk => hk.2) (.slice Ao36 t380.length co36)) (fun _ hk => hk.2) (.int .i64 t383)) (fun _ hk => hk.2) (.int .i64 t384)) (fun _ hk => hk.2) (.int .i64 t385)) (fun _ hk => hk.2) (.int .i64 t386)) (fun _ hk => hk.2) (.int .i64 t387)) (fun _ hk => hk.2) (.slice Ao37 t388.length co37)) (fun _ hk => hk.2) (.int .i64 t391)) (fun _ h_ => h_.1))) hb); have n2_ := Aside0.mk (Kd.R_below (by (with_reducible repeat (first | apply Kd.R_alloc | apply Kd.R_drewN | apply Kd.R_drew)); exact (Kd.R_mono (Kd.R_far (p := ⟨gb392, 9, none⟩) (Kd.R_far (p := ⟨gb392, 8, none⟩) (Kd.R_far (p := ⟨gb392, 7, none⟩) (Kd.R_far (p := ⟨gb392, 6, none⟩) (Kd.R_far (p := ⟨gb392, 5, none⟩) (Kd.R_far (p := ⟨gb392, 4, none⟩) (Kd.R_far (p := ⟨gb392, 3, none⟩) (Kd.R_far (p := ⟨gb392, 2, none⟩) (Kd.R_far (p := ⟨gb392, 1, none⟩) (Kd.R_far (p := ⟨gb392, 0, none⟩) (Kd.R_types HO371.out BK392.out (by decide)) (fun _ hk => hk.2) (.int .i64 t376)) (fun _ hk => hk.2) (.slice Ao35 t377.length co35)) (fun _ hk => hk.2) (.slice Ao36 t380.length co36)) (fun _ hk => hk.2) (.int .i64 t383)) (fun _ hk => hk.2) (.int .i64 t384)) (fun _ hk => hk.2) (.int .i64 t385)) (fun _ hk => hk.2) (.int .i64 t386)) (fun _ hk => hk.2) (.int .i64 t387)) (fun _ hk => hk.2) (.slice Ao37 t388.length co37)) (fun _ hk => hk.2) (.int .i64 t391)) (fun _ h_ => h_.1))) hb); have n3_ := Aside0.mk (Kd.R_elder' (by (with_reducible repeat (first | apply Kd.R_alloc | apply Kd.R_drewN | apply Kd.R_drew)); exact (Kd.R_mono (Kd.R_far (p := ⟨gb392, 9, none⟩) (Kd.R_far (p := ⟨gb392, 8, none⟩) (Kd.R_far (p := ⟨gb392, 7, none⟩) (Kd.R_far (p := ⟨gb392, 6, none⟩) (Kd.R_far (p := ⟨gb392, 5, none⟩) (Kd.R_far (p := ⟨gb392, 4, none⟩) (Kd.R_far (p := ⟨gb392, 3, none⟩) (Kd.R_far (p := ⟨gb392, 2, none⟩) (Kd.R_far (p := ⟨gb392, 1, none⟩) (Kd.R_far (p := ⟨gb392, 0, none⟩) (Kd.R_types HO375.out BK392.out (by decide)) (fun _ hk => hk.2) (.int .i64 t376)) (fun _ hk => hk.2) (.slice Ao35 t377.length co35)) (fun _ hk => hk.2) (.slice Ao36 t380.length co36)) (fun _ hk => hk.2) (.int .i64 t383)) (fun _ hk => hk.2) (.int .i64 t384)) (fun _ hk => hk.2) (.int .i64 t385)) (fun _ hk => hk.2) (.int .i64 t386)) (fun _ hk => hk.2) (.int .i64 t387)) (fun _ hk => hk.2) (.slice Ao37 t388.length co37)) (fun _ hk => hk.2) (.int .i64 t391)) (fun _ h_ => h_.1))) (Kd.R_base ho0) hb); have n4_ := Aside0.mk (Kd.R_below (by (with_reducible repeat (first | apply Kd.R_alloc | apply Kd.R_drewN | apply Kd.R_drew)); exact (Kd.R_mono (Kd.R_far (p := ⟨gb392, 9, none⟩) (Kd.R_far (p := ⟨gb392, 8, none⟩) (Kd.R_far (p := ⟨gb392, 7, none⟩) (Kd.R_far (p := ⟨gb392, 6, none⟩) (Kd.R_far (p := ⟨gb392, 5, none⟩) (Kd.R_far (p := ⟨gb392, 4, none⟩) (Kd.R_far (p := ⟨gb392, 3, none⟩) (Kd.R_far (p := ⟨gb392, 2, none⟩) (Kd.R_far (p := ⟨gb392, 1, none⟩) (Kd.R_far (p := ⟨gb392, 0, none⟩) (Kd.R_types HO379.out BK392.out (by decide)) (fun _ hk => hk.2) (.int .i64 t376)) (fun _ hk => hk.2) (.slice Ao35 t377.length co35)) (fun _ hk => hk.2) (.slice Ao36 t380.length co36)) (fun _ hk => hk.2) (.int .i64 t383)) (fun _ hk => hk.2) (.int .i64 t384)) (fun _ hk => hk.2) (.int .i64 t385)) (fun _ hk => hk.2) (.int .i64 t386)) (fun _ hk => hk.2) (.int .i64 t387)) (fun _ hk => hk.2) (.slice Ao37 t388.length co37)) (fun _ hk => hk.2) (.int .i64 t391)) (fun _ h_ => h_.1))) hb); have n5_ := Aside0.mk (Kd.R_below (by (with_reducible repeat (first | apply Kd.R_alloc | apply Kd.R_drewN | apply Kd.R_drew)); exact (Kd.R_mono (Kd.R_far (p := ⟨gb392, 9, none⟩) (Kd.R_far (p := ⟨gb392, 8, none⟩) (Kd.R_far (p := ⟨gb392, 7, none⟩) (Kd.R_far (p := ⟨gb392, 6, none⟩) (Kd.R_far (p := ⟨gb392, 5, none⟩) (Kd.R_far (p := ⟨gb392, 4, none⟩) (Kd.R_far (p := ⟨gb392, 3, none⟩) (Kd.R_far (p := ⟨gb392, 2, none⟩) (Kd.R_far (p := ⟨gb392, 1, none⟩) (Kd.R_far (p := ⟨gb392, 0, none⟩) (Kd.R_types HO382.out BK392.out (by decide)) (fun _ hk => hk.2) (.int .i64 t376)) (fun _ hk => hk.2) (.slice Ao35 t377.length co35)) (fun _ hk => hk.2) (.slice Ao36 t380.length co36)) (fun _ hk => hk.2) (.int .i64 t383)) (fun _ hk => hk.2) (.int .i64 t384)) (fun _ hk => hk.2) (.int .i64 t385)) (fun _ hk => hk.2) (.int .i64 t386)) (fun _ hk => hk.2) (.int .i64 t387)) (fun _ hk => hk.2) (.slice Ao37 t388.length co37)) (fun _ hk => hk.2) (.int .i64 t391)) (fun _ h_ => h_.1))) hb); have n6_ := Aside0.mk (Kd.R_below (by (with_reducible repeat (first | apply Kd.R_alloc | apply Kd.R_drewN | apply Kd.R_drew)); exact (Kd.R_mono (Kd.R_far (p := ⟨gb392, 9, none⟩) (Kd.R_far (p := ⟨gb392, 8, none⟩) (Kd.R_far (p := ⟨gb392, 7, none⟩) (Kd.R_far (p := ⟨gb392, 6, none⟩) (Kd.R_far (p := ⟨gb392, 5, none⟩) (Kd.R_far (p := ⟨gb392, 4, none⟩) (Kd.R_far (p := ⟨gb392, 3, none⟩) (Kd.R_far (p := ⟨gb392, 2, none⟩) (Kd.R_far (p := ⟨gb392, 1, none⟩) (Kd.R_far (p := ⟨gb392, 0, none⟩) (Kd.R_types HO390.out BK392.out (by decide)) (fun _ hk => hk.2) (.int .i64 t376)) (fun _ hk => hk.2) (.slice Ao35 t377.length co35)) (fun _ hk => hk.2) (.slice Ao36 t380.length co36)) (fun _ hk => hk.2) (.int .i64 t383)) (fun _ hk => hk.2) (.int .i64 t384)) (fun _ hk => hk.2) (.int .i64 t385)) (fun _ hk => hk.2) (.int .i64 t386)) (fun _ hk => hk.2) (.int .i64 t387)) (fun _ hk => hk.2) (.slice Ao37 t388.length co37)) (fun _ hk => hk.2) (.int .i64 t391)) (fun _ h_ => h_.1))) hb); have n7_ := Aside0.mk (Kd.R_lower (Kd.R_new' ho0 (Kd.R_lt (by (with_reducible repeat (first | apply Kd.R_alloc | apply Kd.R_drewN | apply Kd.R_drew)); exact (Kd.R_mono (Kd.R_far (p := ⟨gb392, 9, none⟩) (Kd.R_far (p := ⟨gb392, 8, none⟩) (Kd.R_far (p := ⟨gb392, 7, none⟩) (Kd.R_far (p := ⟨gb392, 6, none⟩) (Kd.R_far (p := ⟨gb392, 5, none⟩) (Kd.R_far (p := ⟨gb392, 4, none⟩) (Kd.R_far (p := ⟨gb392, 3, none⟩) (Kd.R_far (p := ⟨gb392, 2, none⟩) (Kd.R_far (p := ⟨gb392, 1, none⟩) (Kd.R_far (p := ⟨gb392, 0, none⟩) (Kd.R_types HO375.out BK392.out (by decide)) (fun _ hk => hk.2) (.int .i64 t376)) (fun _ hk => hk.2) (.slice Ao35 t377.length co35)) (fun _ hk => hk.2) (.slice Ao36 t380.length co36)) (fun _ hk => hk.2) (.int .i64 t383)) (fun _ hk => hk.2) (.int .i64 t384)) (fun _ hk => hk.2) (.int .i64 t385)) (fun _ hk => hk.2) (.int .i64 t386)) (fun _ hk => hk.2) (.int .i64 t387)) (fun _ hk => hk.2) (.slice Ao37 t388.length co37)) (fun _ hk => hk.2) (.int .i64 t391)) (fun _ h_ => h_.1))))) (below_size (bl2_ HB GE355 GE392))); have n8_ := Aside0.mk (blk_below (g := gb355) (o := .cells #[.int .i64 a0_0, .slice A0_1 l0_1.length c0_1, .slice A0_2 l0_2.length c0_2, .int .i64 a0_3, .int .i64 a0_4, .int .i64 a0_5, .int .i64 a0_6, .int .i64 a0_7, .slice A0_8 l0_8.length c0_8, .int .i64 a0_9] 26 (0, 0)) (by (with_reducible repeat (first | refine blk_drewN ?_ _ | refine blk_drew ?_ | refine blk_alloc ?_ _)); refine blk_far ?_ NB355_392.out _; (with_reducible repeat (first | refine blk_drewN ?_ _ | refine blk_drew ?_ | refine blk_alloc ?_ _)); refine blk_far ?_ NB355_392.out _; (with_reducible repeat (first | refine blk_drewN ?_ _ | refine blk_drew ?_ | refine blk_alloc ?_ _)); refine blk_far ?_ NB355_392.out _; (with_reducible repeat (first | refine blk_drewN ?_ _ | refine blk_drew ?_ | refine blk_alloc ?_ _)); refine blk_far ?_ NB355_392.out _; (with_reducible repeat (first | refine blk_drewN ?_ _ | refine blk_drew ?_ | refine blk_alloc ?_ _)); refine blk_far ?_ NB355_392.out _; (with_reducible repeat (first | refine blk_drewN ?_ _ | refine blk_drew ?_ | refine blk_alloc ?_ _)); refine blk_far ?_ NB355_392.out _; (with_reducible repeat (first | refine blk_drewN ?_ _ | refine blk_drew ?_ | refine blk_alloc ?_ _)); refine blk_far ?_ NB355_392.out _; (with_reducible repeat (first | refine blk_drewN ?_ _ | refine blk_drew ?_ | refine blk_alloc ?_ _)); refine blk_far ?_ NB355_392.out _; (with_reducible repeat (first | refine blk_drewN ?_ _ | refine blk_drew ?_ | refine blk_alloc ?_ _)); refine blk_far ?_ NB355_392.out _; (with_reducible repeat (first | refine blk_drewN ?_ _ | refine blk_drew ?_ | refine blk_alloc ?_ _)); refine blk_far ?_ NB355_392.out _; (with_reducible repeat (first | refine blk_drewN ?_ _ | refine blk_drew ?_ | refine blk_alloc ?_ _)); exact BK355.out) hb); have n9_ := Aside0.mk (blk_below (g := gb392) (o := .cells #[.int .i64 t376, .slice Ao35 t377.length co35, .slice Ao36 t380.length co36, .int .i64 t383, .int .i64 t384, .int .i64 t385, .int .i64 t386, .int .i64 t387, .slice Ao37 t388.length co37, .int .i64 t391] 33 (0, 0)) (by (with_reducible repeat (first | refine blk_drewN ?_ _ | refine blk_drew ?_ | refine blk_alloc ?_ _)); refine blk_put (cs := #[.int .i64 t376, .slice Ao35 t377.length co35, .slice Ao36 t380.length co36, .int .i64 t383, .int .i64 t384, .int .i64 t385, .int .i64 t386, .int .i64 t387, .slice Ao37 t388.length co37, .int .i64 0]) ?_ 9 _ rfl; (with_reducible repeat (first | refine blk_drewN ?_ _ | refine blk_drew ?_ | refine blk_alloc ?_ _)); refine blk_put (cs := #[.int .i64 t376, .slice Ao35 t377.length co35, .slice Ao36 t380.length co36, .int .i64 t383, .int .i64 t384, .int .i64 t385, .int .i64 t386, .int .i64 t387, .slice none 0 0, .int .i64 0]) ?_ 8 _ rfl; (with_reducible repeat (first | refine blk_drewN ?_ _ | refine blk_drew ?_ | refine blk_alloc ?_ _)); refine blk_put (cs := #[.int .i64 t376, .slice Ao35 t377.length co35, .slice Ao36 t380.length co36, .int .i64 t383, .int .i64 t384, .int .i64 t385, .int .i64 t386, .int .i64 0, .slice none 0 0, .int .i64 0]) ?_ 7 _ rfl; (with_reducible repeat (first | refine blk_drewN ?_ _ | refine blk_drew ?_ | refine blk_alloc ?_ _)); refine blk_put (cs := #[.int .i64 t376, .slice Ao35 t377.length co35, .slice Ao36 t380.length co36, .int .i64 t383, .int .i64 t384, .int .i64 t385, .int .i64 0, .int .i64 0, .slice none 0 0, .int .i64 0]) ?_ 6 _ rfl; (with_reducible repeat (first | refine blk_drewN ?_ _ | refine blk_drew ?_ | refine blk_alloc ?_ _)); refine blk_put (cs := #[.int .i64 t376, .slice Ao35 t377.length co35, .slice Ao36 t380.length co36, .int .i64 t383, .int .i64 t384, .int .i64 0, .int .i64 0, .int .i64 0, .slice none 0 0, .int .i64 0]) ?_ 5 _ rfl; (with_reducible repeat (first | refine blk_drewN ?_ _ | refine blk_drew ?_ | refine blk_alloc ?_ _)); refine blk_put (cs := #[.int .i64 t376, .slice Ao35 t377.length co35, .slice Ao36 t380.length co36, .int .i64 t383, .int .i64 0, .int .i64 0, .int .i64 0, .int .i64 0, .slice none 0 0, .int .i64 0]) ?_ 4 _ rfl; (with_reducible repeat (first | refine blk_drewN ?_ _ | refine blk_drew ?_ | refine blk_alloc ?_ _)); refine blk_put (cs := #[.int .i64 t376, .slice Ao35 t377.length co35, .slice Ao36 t380.length co36, .int .i64 0, .int .i64 0, .int .i64 0, .int .i64 0, .int .i64 0, .slice none 0 0, .int .i64 0]) ?_ 3 _ rfl; (with_reducible repeat (first | refine blk_drewN ?_ _ | refine blk_drew ?_ | refine blk_alloc ?_ _)); refine blk_put (cs := #[.int .i64 t376, .slice Ao35 t377.length co35, .slice none 0 0, .int .i64 0, .int .i64 0, .int .i64 0, .int .i64 0, .int .i64 0, .slice none 0 0, .int .i64 0]) ?_ 2 _ rfl; (with_reducible repeat (first | refine blk_drewN ?_ _ | refine blk_drew ?_ | refine blk_alloc ?_ _)); refine blk_put (cs := #[.int .i64 t376, .slice none 0 0, .slice none 0 0, .int .i64 0, .int .i64 0, .int .i64 0, .int .i64 0, .int .i64 0, .slice none 0 0, .int .i64 0]) ?_ 1 _ rfl; (with_reducible repeat (first | refine blk_drewN ?_ _ | refine blk_drew ?_ | refine blk_alloc ?_ _)); refine blk_put (cs := #[.int .i64 0, .slice none 0 0, .slice none 0 0, .int .i64 0, .int .i64 0, .int .i64 0, .int .i64 0, .int .i64 0, .slice none 0 0, .int .i64 0]) ?_ 0 _ rfl; (with_reducible repeat (first | refine blk_drewN ?_ _ | refine blk_drew ?_ | refine blk_alloc ?_ _)); exact BK392.out) hb); have n10_ := Aside0.mk (below_step (bl2_ HB GE355 GE392) hb); clear HO360; clear HO363; clear HO371; clear HO375; clear HO379; clear HO382; clear HO390; clear BK355; clear BK392; clear HB; have HO360 := n0_; have HO363 := n1_; have HO371 := n2_; have HO375 := n3_; have HO379 := n4_; have HO382 := n5_; have HO390 := n6_; have HO395 := n7_; have BK355 := n8_; have BK392 := n9_; have HB := n10_; clear n0_ n1_ n2_ n3_ n4_ n5_ n6_ n7_ n8_ n9_ n10_; (try clear hb); (try clear hb2); (try clear hk); (try clear hi); (try clear ho0); obtain ⟨Ao39, co39, eo39⟩ := Kd.R_slice HO395.out; subst eo39; obtain ⟨Ao40, co40, eo40⟩ := Kd.R_slice HO375.out; subst eo40) | ((with_reducible refine gate_callee (f := 16) rfl ?_); refine goesL_ (some 37) rfl rfl Try.func16 (by kernel_rfl) rfl #[.slice Ao39 t393.length co39, .slice Ao40 t373.length co40] rfl mp_ ?_; (with_reducible refine (laws_eqSpanS.calls k _ _ t393 _ _ t373 true _ ?side1 ?side2 ?side3 ?side4 A14.out).mono ?_); (case side1 => repeat (first | exact (Kd.R_reads' HO395.out).2.2 | (with_reducible refine Kd.C_alloc ?_ _) | (with_reducible refine Kd.C_drewN ?_ _) | (with_reducible refine Kd.C_drew ?_))); (case side2 => exact (Kd.R_reads' HO395.out).2.1); (case side3 => repeat (first | exact (Kd.R_reads' HO375.out).2.2 | (with_reducible refine Kd.C_alloc ?_ _) | (with_reducible refine Kd.C_drewN ?_ _) | (with_reducible refine Kd.C_drew ?_))); (case side4 => exact (Kd.R_reads' HO375.out).2.1); rintro e w41 ⟨rfl, hb⟩; refine ⟨_, rfl, ?_⟩; have n0_ := Aside0.mk (Kd.R_below (by (with_reducible repeat (first | apply Kd.R_alloc | apply Kd.R_drewN | apply Kd.R_drew)); exact HO360.out) hb); have n1_ := Aside0.mk (Kd.R_below (by (with_reducible repeat (first | apply Kd.R_alloc | apply Kd.R_drewN | apply Kd.R_drew)); exact HO363.out) hb); have n2_ := Aside0.mk (Kd.R_below (by (with_reducible repeat (first | apply Kd.R_alloc | apply Kd.R_drewN | apply Kd.R_drew)); exact HO371.out) hb); have n3_ := Aside0.mk (Kd.R_below (by (with_reducible repeat (first | apply Kd.R_alloc | apply Kd.R_drewN | apply Kd.R_drew)); exact HO375.out) hb); have n4_ := Aside0.mk (Kd.R_below (by (with_reducible repeat (first | apply Kd.R_alloc | apply Kd.R_drewN | apply Kd.R_drew)); exact HO379.out) hb); have n5_ := Aside0.mk (Kd.R_below (by (with_reducible repeat (first | apply Kd.R_alloc | apply Kd.R_drewN | apply Kd.R_drew)); exact HO382.out) hb); have n6_ := Aside0.mk (Kd.R_below (by (with_reducible repeat (first | apply Kd.R_alloc | apply Kd.R_drewN | apply Kd.R_drew)); exact HO390.out) hb); have n7_ := Aside0.mk (Kd.R_below (by (with_reducible repeat (first | apply Kd.R_alloc | apply Kd.R_drewN | apply Kd.R_drew)); exact HO395.out) hb); have n8_ := Aside0.mk (blk_below (bk_ BK355) hb); have n9_ := Aside0.mk (blk_below (bk_ BK392) hb); have n10_ := Aside0.mk (below_step (bl2_ HB GE355 GE392) hb); clear HO360; clear HO363; clear HO371; clear HO375; clear HO379; clear HO382; clear HO390; clear HO395; clear BK355; clear BK392; clear HB; have HO360 := n0_; have HO363 := n1_; have HO371 := n2_; have HO375 := n3_; have HO379 := n4_; have HO382 := n5_; have HO390 := n6_; have HO395 := n7_; have BK355 := n8_; have BK392 := n9_; have HB := n10_; clear n0_ n1_ n2_ n3_ n4_ n5_ n6_ n7_ n8_ n9_ n10_; (try clear hb); (try clear hb2); (try clear hk); (try clear hi)))
    have n0_ := Aside0.mk (Kd.R_drew HO360.out)
    have n1_ := Aside0.mk (Kd.R_drew HO363.out)
    have n2_ := Aside0.mk (Kd.R_drew HO371.out)
    have n3_ := Aside0.mk (Kd.R_drew HO375.out)
    have n4_ := Aside0.mk (Kd.R_drew HO379.out)
    have n5_ := Aside0.mk (Kd.R_drew HO382.out)
    have n6_ := Aside0.mk (Kd.R_drew HO390.out)
    have n7_ := Aside0.mk (Kd.R_drew HO395.out)
    have n8_ := Aside0.mk (blk_drew BK355.out)
    have n9_ := Aside0.mk (blk_drew BK392.out)
    have n10_ := Aside0.mk (below_drew1 HB.out)
    clear HO360
    clear HO363
    clear HO371
    clear HO375
    clear HO379
    clear HO382
    clear HO390
    clear HO395
    clear BK355
    clear BK392
    clear HB
    have HO360 := n0_
    have HO363 := n1_
    have HO371 := n2_
    have HO375 := n3_
    have HO379 := n4_
    have HO382 := n5_
    have HO390 := n6_
    have HO395 := n7_
    have BK355 := n8_
    have BK392 := n9_
    have HB := n10_
    clear n0_ n1_ n2_ n3_ n4_ n5_ n6_ n7_ n8_ n9_ n10_
    refine start_ (n := 5) (S := fun w' => w'.cell? ⟨gb392, 0, none⟩ = some (.int .i64 t376) ∧ w'.cell? ⟨gb392, 1, none⟩ = some (.slice Ao35 t377.length co35) ∧ w'.cell? ⟨gb392, 2, none⟩ = some (.slice Ao36 t380.length co36) ∧ w'.cell? ⟨gb392, 3, none⟩ = some (.int .i64 t383) ∧ w'.cell? ⟨gb392, 4, none⟩ = some (.int .i64 t384) ∧ w'.cell? ⟨gb392, 5, none⟩ = some (.int .i64 t385) ∧ w'.cell? ⟨gb392, 6, none⟩ = some (.int .i64 t386) ∧ w'.cell? ⟨gb392, 7, none⟩ = some (.int .i64 t387) ∧ w'.cell? ⟨gb392, 8, none⟩ = some (.slice Ao37 t388.length co37) ∧ w'.cell? ⟨gb392, 9, none⟩ = some (.int .i64 t391) ∧ w'.cell? ⟨gb355, 0, none⟩ = some (.int .i64 a0_0) ∧ w'.cell? ⟨gb355, 1, none⟩ = some (.slice A0_1 l0_1.length c0_1) ∧ w'.cell? ⟨gb355, 2, none⟩ = some (.slice A0_2 l0_2.length c0_2) ∧ w'.cell? ⟨gb355, 3, none⟩ = some (.int .i64 a0_3) ∧ w'.cell? ⟨gb355, 4, none⟩ = some (.int .i64 a0_4) ∧ w'.cell? ⟨gb355, 5, none⟩ = some (.int .i64 a0_5) ∧ w'.cell? ⟨gb355, 6, none⟩ = some (.int .i64 a0_6) ∧ w'.cell? ⟨gb355, 7, none⟩ = some (.int .i64 a0_7) ∧ w'.cell? ⟨gb355, 8, none⟩ = some (.slice A0_8 l0_8.length c0_8) ∧ w'.cell? ⟨gb355, 9, none⟩ = some (.int .i64 a0_9)) (ds := []) #[false, false, false, false, false] (by kernel_rfl) rfl rfl ⟨(bc_ BK392 0 rfl), (bc_ BK392 1 rfl), (bc_ BK392 2 rfl), (bc_ BK392 3 rfl), (bc_ BK392 4 rfl), (bc_ BK392 5 rfl), (bc_ BK392 6 rfl), (bc_ BK392 7 rfl), (bc_ BK392 8 rfl), (bc_ BK392 9 rfl), (bc_ BK355 0 rfl), (bc_ BK355 1 rfl), (bc_ BK355 2 rfl), (bc_ BK355 3 rfl), (bc_ BK355 4 rfl), (bc_ BK355 5 rfl), (bc_ BK355 6 rfl), (bc_ BK355 7 rfl), (bc_ BK355 8 rfl), (bc_ BK355 9 rfl)⟩ (fun hHeld => ?_)
    generalize w41.drew = w42 at HO360 HO363 HO371 HO375 HO379 HO382 HO390 HO395 BK355 BK392 HB hHeld ⊢
    refine take_ (i := 0) (N := some 39) (v := ?_) (a' := ?_) #[true, false, false, false, false] rfl rfl (by kernel_rfl) (fun _ _ _ h => h) (Or.inl ⟨by rfl, ?_⟩) hHeld ?_ ?_
    rotate_left
    ·rintro w' ⟨s0, s1, s2, s3, s4, s5, s6, s7, s8, s9, s10, s11, s12, s13, s14, s15, s16, s17, s18, s19⟩
     go_simp
     with_reducible rfl
    rotate_left
    ·simp only [Act.put, List.setIfInBounds_toArray, List.set_cons_zero, List.set_cons_succ, i64_w, i32_w]
     rfl
    refine take_ (i := 1) (N := some 40) (v := ?_) (a' := ?_) #[true, true, false, false, false] rfl rfl (by kernel_rfl) (fun _ _ _ h => h) (Or.inl ⟨by rfl, ?_⟩) hHeld ?_ ?_
    rotate_left
    ·rintro w' ⟨s0, s1, s2, s3, s4, s5, s6, s7, s8, s9, s10, s11, s12, s13, s14, s15, s16, s17, s18, s19⟩
     go_simp
     with_reducible rfl
    rotate_left
    ·simp only [Act.put, List.setIfInBounds_toArray, List.set_cons_zero, List.set_cons_succ, i64_w, i32_w]
     rfl
    refine one_ (i := 2) (N := some 41) #[true, true, true, false, false] rfl rfl (by kernel_rfl) (by decide) (fun K hK => ?_)
    refine goes_ Try.func11 (by kernel_rfl) rfl #[.agg #[.int .i64 a0_0, .slice A0_1 l0_1.length c0_1, .slice A0_2 l0_2.length c0_2, .int .i64 a0_3, .int .i64 a0_4, .int .i64 a0_5, .int .i64 a0_6, .int .i64 a0_7, .slice A0_8 l0_8.length c0_8, .int .i64 a0_9]] (by rfl) rfl rfl mp_ ?_
    with_reducible refine (laws_toSky.calls k a0_0 _ _ l0_1 _ _ l0_2 a0_3 a0_4 a0_5 a0_6 a0_7 _ _ l0_8 a0_9 t397 t398 t401 t404 t405 t406 t407 t408 t409 t412 _ ?side1 ?side2 ?side3 ?side4 ?side5 ?side6 A16.out).mono ?_
    (case side1 => exact ck_ HR0_1 HB)
    (case side2 => exact HC0_1.out)
    (case side3 => exact ck_ HR0_2 HB)
    (case side4 => exact HC0_2.out)
    (case side5 => exact ck_ HR0_8 HB)
    (case side6 => exact HC0_8.out)
    rintro e w43 ⟨v399, v402, v410, rfl, ho0, ho1, ho2, hb⟩
    refine ⟨_, rfl, ?_⟩
    have n0_ := Aside0.mk (Kd.R_elder' (by (with_reducible repeat (first | apply Kd.R_alloc | apply Kd.R_drewN | apply Kd.R_drew)); exact HO360.out) (Kd.R_base ho0) hb)
    have n1_ := Aside0.mk (Kd.R_elder' (by (with_reducible repeat (first | apply Kd.R_alloc | apply Kd.R_drewN | apply Kd.R_drew)); exact HO363.out) (Kd.R_base ho1) hb)
    have n2_ := Aside0.mk (Kd.R_elder' (by (with_reducible repeat (first | apply Kd.R_alloc | apply Kd.R_drewN | apply Kd.R_drew)); exact HO371.out) (Kd.R_base ho2) hb)
    have n3_ := Aside0.mk (Kd.R_below (by (with_reducible repeat (first | apply Kd.R_alloc | apply Kd.R_drewN | apply Kd.R_drew)); exact HO375.out) hb)
    have n4_ := Aside0.mk (Kd.R_elder' (by (with_reducible repeat (first | apply Kd.R_alloc | apply Kd.R_drewN | apply Kd.R_drew)); exact HO379.out) (Kd.R_base ho0) hb)
    have n5_ := Aside0.mk (Kd.R_elder' (by (with_reducible repeat (first | apply Kd.R_alloc | apply Kd.R_drewN | apply Kd.R_drew)); exact HO382.out) (Kd.R_base ho1) hb)
    have n6_ := Aside0.mk (Kd.R_elder' (by (with_reducible repeat (first | apply Kd.R_alloc | apply Kd.R_drewN | apply Kd.R_drew)); exact HO390.out) (Kd.R_base ho2) hb)
    have n7_ := Aside0.mk (Kd.R_below (by (with_reducible repeat (first | apply Kd.R_alloc | apply Kd.R_drewN | apply Kd.R_drew)); exact HO395.out) hb)
    have n8_ := Aside0.mk (Kd.R_lower (Kd.R_new' (Kd.R_new' ho0 (Kd.R_lt (by (with_reducible repeat (first | apply Kd.R_alloc | apply Kd.R_drewN | apply Kd.R_drew)); exact HO360.out))) (Kd.R_lt (by (with_reducible repeat (first | apply Kd.R_alloc | apply Kd.R_drewN | apply Kd.R_drew)); exact HO379.out))) (below_size (bl2_ HB GE355 GE392)))
    have n9_ := Aside0.mk (Kd.R_lower (Kd.R_new' (Kd.R_new' ho1 (Kd.R_lt (by (with_reducible repeat (first | apply Kd.R_alloc | apply Kd.R_drewN | apply Kd.R_drew)); exact HO363.out))) (Kd.R_lt (by (with_reducible repeat (first | apply Kd.R_alloc | apply Kd.R_drewN | apply Kd.R_drew)); exact HO382.out))) (below_size (bl2_ HB GE355 GE392)))
    have n10_ := Aside0.mk (Kd.R_lower (Kd.R_new' (Kd.R_new' ho2 (Kd.R_lt (by (with_reducible repeat (first | apply Kd.R_alloc | apply Kd.R_drewN | apply Kd.R_drew)); exact HO371.out))) (Kd.R_lt (by (with_reducible repeat (first | apply Kd.R_alloc | apply Kd.R_drewN | apply Kd.R_drew)); exact HO390.out))) (below_size (bl2_ HB GE355 GE392)))
    have n11_ := Aside0.mk (blk_below (bk_ BK355) hb)
    have n12_ := Aside0.mk (blk_below (bk_ BK392) hb)
    have n13_ := Aside0.mk (below_step (bl2_ HB GE355 GE392) hb)
    clear HO360
    clear HO363
    clear HO371
    clear HO375
    clear HO379
    clear HO382
    clear HO390
    clear HO395
    clear BK355
    clear BK392
    clear HB
    have HO360 := n0_
    have HO363 := n1_
    have HO371 := n2_
    have HO375 := n3_
    have HO379 := n4_
    have HO382 := n5_
    have HO390 := n6_
    have HO395 := n7_
    have HO400 := n8_
    have HO403 := n9_
    have HO411 := n10_
    have BK355 := n11_
    have BK392 := n12_
    have HB := n13_
    clear n0_ n1_ n2_ n3_ n4_ n5_ n6_ n7_ n8_ n9_ n10_ n11_ n12_ n13_
    (try clear hb)
    (try clear hb2)
    (try clear hk)
    (try clear hi)
    (try clear ho0)
    (try clear ho1)
    (try clear ho2)
    obtain ⟨Ao44, co44, eo44⟩ := Kd.R_slice HO400.out
    (first | subst eo44 | (injection eo44 with f1_ f2_ f3_; have f4_ := f1_.symm; have f5_ := f3_.symm; clear f1_ f2_ f3_; subst f4_; subst f5_))
    obtain ⟨Ao45, co45, eo45⟩ := Kd.R_slice HO403.out
    (first | subst eo45 | (injection eo45 with f1_ f2_ f3_; have f4_ := f1_.symm; have f5_ := f3_.symm; clear f1_ f2_ f3_; subst f4_; subst f5_))
    obtain ⟨Ao46, co46, eo46⟩ := Kd.R_slice HO411.out
    (first | subst eo46 | (injection eo46 with f1_ f2_ f3_; have f4_ := f1_.symm; have f5_ := f3_.symm; clear f1_ f2_ f3_; subst f4_; subst f5_))
    refine hK.out _ _ ⟨(bc_ BK392 0 rfl), (bc_ BK392 1 rfl), (bc_ BK392 2 rfl), (bc_ BK392 3 rfl), (bc_ BK392 4 rfl), (bc_ BK392 5 rfl), (bc_ BK392 6 rfl), (bc_ BK392 7 rfl), (bc_ BK392 8 rfl), (bc_ BK392 9 rfl), (bc_ BK355 0 rfl), (bc_ BK355 1 rfl), (bc_ BK355 2 rfl), (bc_ BK355 3 rfl), (bc_ BK355 4 rfl), (bc_ BK355 5 rfl), (bc_ BK355 6 rfl), (bc_ BK355 7 rfl), (bc_ BK355 8 rfl), (bc_ BK355 9 rfl)⟩ (fun hHeld => ?_)
    clear hK K
    refine norm_ (a' := ?_) ?_ ?_
    rotate_left
    ·show Act.put _ (some 41) _ = _
     simp only [Act.put, List.setIfInBounds_toArray, List.set_cons_zero, List.set_cons_succ, i64_w, i32_w]
     rfl
    refine one_ (i := 3) (N := some 42) #[true, true, true, true, false] rfl rfl (by kernel_rfl) (by decide) (fun K hK => ?_)
    refine goes_ Try.func13 (by kernel_rfl) rfl #[.agg #[.int .i64 t376, .slice Ao35 t377.length co35, .slice Ao36 t380.length co36, .int .i64 t383, .int .i64 t384, .int .i64 t385, .int .i64 t386, .int .i64 t387, .slice Ao37 t388.length co37, .int .i64 t391], .agg #[.int .i64 t397, .slice Ao44 t398.length co44, .slice Ao45 t401.length co45, .int .i64 t404, .int .i64 t405, .int .i64 t406, .int .i64 t407, .int .i64 t408, .slice Ao46 t409.length co46, .int .i64 t412]] (by rfl) rfl rfl mp_ ?_
    with_reducible refine (laws_eqSky.calls k t376 _ _ t377 _ _ t380 t383 t384 t385 t386 t387 _ _ t388 t391 t397 _ _ t398 _ _ t401 t404 t405 t406 t407 t408 _ _ t409 t412 true _ ?side1 ?side2 ?side3 ?side4 ?side5 ?side6 ?side7 ?side8 ?side9 ?side10 ?side11 ?side12 A17.out).mono ?_
    (case side1 => repeat (first | exact (Kd.R_reads' HO379.out).2.2 | (with_reducible refine Kd.C_alloc ?_ _) | (with_reducible refine Kd.C_drewN ?_ _) | (with_reducible refine Kd.C_drew ?_)))
    (case side2 => exact (Kd.R_reads' HO379.out).2.1)
    (case side3 => repeat (first | exact (Kd.R_reads' HO382.out).2.2 | (with_reducible refine Kd.C_alloc ?_ _) | (with_reducible refine Kd.C_drewN ?_ _) | (with_reducible refine Kd.C_drew ?_)))
    (case side4 => exact (Kd.R_reads' HO382.out).2.1)
    (case side5 => repeat (first | exact (Kd.R_reads' HO390.out).2.2 | (with_reducible refine Kd.C_alloc ?_ _) | (with_reducible refine Kd.C_drewN ?_ _) | (with_reducible refine Kd.C_drew ?_)))
    (case side6 => exact (Kd.R_reads' HO390.out).2.1)
    (case side7 => repeat (first | exact (Kd.R_reads' HO400.out).2.2 | (with_reducible refine Kd.C_alloc ?_ _) | (with_reducible refine Kd.C_drewN ?_ _) | (with_reducible refine Kd.C_drew ?_)))
    (case side8 => exact (Kd.R_reads' HO400.out).2.1)
    (case side9 => repeat (first | exact (Kd.R_reads' HO403.out).2.2 | (with_reducible refine Kd.C_alloc ?_ _) | (with_reducible refine Kd.C_drewN ?_ _) | (with_reducible refine Kd.C_drew ?_)))
    (case side10 => exact (Kd.R_reads' HO403.out).2.1)
    (case side11 => repeat (first | exact (Kd.R_reads' HO411.out).2.2 | (with_reducible refine Kd.C_alloc ?_ _) | (with_reducible refine Kd.C_drewN ?_ _) | (with_reducible refine Kd.C_drew ?_)))
    (case side12 => exact (Kd.R_reads' HO411.out).2.1)
    rintro e w47 ⟨rfl, hb⟩
    refine ⟨_, rfl, ?_⟩
    have n0_ := Aside0.mk (Kd.R_below (by (with_reducible repeat (first | apply Kd.R_alloc | apply Kd.R_drewN | apply Kd.R_drew)); exact HO360.out) hb)
    have n1_ := Aside0.mk (Kd.R_below (by (with_reducible repeat (first | apply Kd.R_alloc | apply Kd.R_drewN | apply Kd.R_drew)); exact HO363.out) hb)
    have n2_ := Aside0.mk (Kd.R_below (by (with_reducible repeat (first | apply Kd.R_alloc | apply Kd.R_drewN | apply Kd.R_drew)); exact HO371.out) hb)
    have n3_ := Aside0.mk (Kd.R_below (by (with_reducible repeat (first | apply Kd.R_alloc | apply Kd.R_drewN | apply Kd.R_drew)); exact HO375.out) hb)
    have n4_ := Aside0.mk (Kd.R_below (by (with_reducible repeat (first | apply Kd.R_alloc | apply Kd.R_drewN | apply Kd.R_drew)); exact HO379.out) hb)
    have n5_ := Aside0.mk (Kd.R_below (by (with_reducible repeat (first | apply Kd.R_alloc | apply Kd.R_drewN | apply Kd.R_drew)); exact HO382.out) hb)
    have n6_ := Aside0.mk (Kd.R_below (by (with_reducible repeat (first | apply Kd.R_alloc | apply Kd.R_drewN | apply Kd.R_drew)); exact HO390.out) hb)
    have n7_ := Aside0.mk (Kd.R_below (by (with_reducible repeat (first | apply Kd.R_alloc | apply Kd.R_drewN | apply Kd.R_drew)); exact HO395.out) hb)
    have n8_ := Aside0.mk (Kd.R_below (by (with_reducible repeat (first | apply Kd.R_alloc | apply Kd.R_drewN | apply Kd.R_drew)); exact HO400.out) hb)
    have n9_ := Aside0.mk (Kd.R_below (by (with_reducible repeat (first | apply Kd.R_alloc | apply Kd.R_drewN | apply Kd.R_drew)); exact HO403.out) hb)
    have n10_ := Aside0.mk (Kd.R_below (by (with_reducible repeat (first | apply Kd.R_alloc | apply Kd.R_drewN | apply Kd.R_drew)); exact HO411.out) hb)
    have n11_ := Aside0.mk (blk_below (bk_ BK355) hb)
    have n12_ := Aside0.mk (blk_below (bk_ BK392) hb)
    have n13_ := Aside0.mk (below_step (bl2_ HB GE355 GE392) hb)
    clear HO360
    clear HO363
    clear HO371
    clear HO375
    clear HO379
    clear HO382
    clear HO390
    clear HO395
    clear HO400
    clear HO403
    clear HO411
    clear BK355
    clear BK392
    clear HB
    have HO360 := n0_
    have HO363 := n1_
    have HO371 := n2_
    have HO375 := n3_
    have HO379 := n4_
    have HO382 := n5_
    have HO390 := n6_
    have HO395 := n7_
    have HO400 := n8_
    have HO403 := n9_
    have HO411 := n10_
    have BK355 := n11_
    have BK392 := n12_
    have HB := n13_
    clear n0_ n1_ n2_ n3_ n4_ n5_ n6_ n7_ n8_ n9_ n10_ n11_ n12_ n13_
    (try clear hb)
    (try clear hb2)
    (try clear hk)
    (try clear hi)
    refine hK.out _ _ ⟨(bc_ BK392 0 rfl), (bc_ BK392 1 rfl), (bc_ BK392 2 rfl), (bc_ BK392 3 rfl), (bc_ BK392 4 rfl), (bc_ BK392 5 rfl), (bc_ BK392 6 rfl), (bc_ BK392 7 rfl), (bc_ BK392 8 rfl), (bc_ BK392 9 rfl), (bc_ BK355 0 rfl), (bc_ BK355 1 rfl), (bc_ BK355 2 rfl), (bc_ BK355 3 rfl), (bc_ BK355 4 rfl), (bc_ BK355 5 rfl), (bc_ BK355 6 rfl), (bc_ BK355 7 rfl), (bc_ BK355 8 rfl), (bc_ BK355 9 rfl)⟩ (fun hHeld => ?_)
    clear hK K
    refine norm_ (a' := ?_) ?_ ?_
    rotate_left
    ·show Act.put _ (some 42) _ = _
     simp only [Act.put, List.setIfInBounds_toArray, List.set_cons_zero, List.set_cons_succ, i64_w, i32_w]
     rfl
    refine pure_ (i := 4) (N := some 43) (v := ?_) (a' := ?_) #[true, true, true, true, true] rfl rfl (by kernel_rfl) (fun _ _ _ h => h) (Or.inl ⟨by rfl, ?_⟩) ?_ ?_
    rotate_left
    ·intro w'
     go_simp
     with_reducible rfl
    rotate_left
    ·simp only [Act.put, List.setIfInBounds_toArray, List.set_cons_zero, List.set_cons_succ, i64_w, i32_w]
     rfl
    refine done_ (by kernel_rfl) ?_
    have hcz48_0 : w47.cell? ⟨gb392, 0, none⟩ = some (.int .i64 t376) := bc_ BK392 0 rfl
    have hcz48_1 : w47.cell? ⟨gb392, 1, none⟩ = some (.slice Ao35 t377.length co35) := bc_ BK392 1 rfl
    have hcz48_2 : w47.cell? ⟨gb392, 2, none⟩ = some (.slice Ao36 t380.length co36) := bc_ BK392 2 rfl
    have hcz48_3 : w47.cell? ⟨gb392, 3, none⟩ = some (.int .i64 t383) := bc_ BK392 3 rfl
    have hcz48_4 : w47.cell? ⟨gb392, 4, none⟩ = some (.int .i64 t384) := bc_ BK392 4 rfl
    have hcz48_5 : w47.cell? ⟨gb392, 5, none⟩ = some (.int .i64 t385) := bc_ BK392 5 rfl
    have hcz48_6 : w47.cell? ⟨gb392, 6, none⟩ = some (.int .i64 t386) := bc_ BK392 6 rfl
    have hcz48_7 : w47.cell? ⟨gb392, 7, none⟩ = some (.int .i64 t387) := bc_ BK392 7 rfl
    have hcz48_8 : w47.cell? ⟨gb392, 8, none⟩ = some (.slice Ao37 t388.length co37) := bc_ BK392 8 rfl
    have hcz48_9 : w47.cell? ⟨gb392, 9, none⟩ = some (.int .i64 t391) := bc_ BK392 9 rfl
    have hfz48_0 := bf_ BK392 0
    have hfz48_1 := bf_ BK392 1
    have hfz48_2 := bf_ BK392 2
    have hfz48_3 := bf_ BK392 3
    have hfz48_4 := bf_ BK392 4
    have hfz48_5 := bf_ BK392 5
    have hfz48_6 := bf_ BK392 6
    have hfz48_7 := bf_ BK392 7
    have hfz48_8 := bf_ BK392 8
    have hfz48_9 := bf_ BK392 9
    go_upto_region 14 with (first | ((with_reducible refine gate_callee (f := 17) rfl ?_); refine goesL_ (some 46) rfl rfl Try.func17 (by kernel_rfl) rfl #[.agg #[.int .i64 t376, .slice Ao35 t377.length co35, .slice Ao36 t380.length co36, .int .i64 t383, .int .i64 t384, .int .i64 t385, .int .i64 t386, .int .i64 t387, .slice Ao37 t388.length co37, .int .i64 t391], .int .i64 1] rfl mp_ ?_; (with_reducible refine (laws_markSky.calls k t376 (fun k_ => some k_ = (.slice Ao35 t377.length co35 : Value).ownBlock) (.slice Ao35 t377.length co35) t377 (fun k_ => some k_ = (.slice Ao36 t380.length co36 : Value).ownBlock) (.slice Ao36 t380.length co36) t380 t383 t384 t385 t386 t387 (fun k_ => some k_ = (.slice Ao37 t388.length co37 : Value).ownBlock) (.slice Ao37 t388.length co37) t388 t391 1 t414 t415 t416 t417 w _ ?side1 ?side2 ?side3 ?side4 A19.out).mono ?_); (case side1 => repeat (first | (with_reducible first | exact HB.out | apply below_alloc | apply pw_below_drewN | apply below_drew1 | refine below_set ?_ GE355.out | refine below_set ?_ GE392.out) | exact HB.out)); (case side2 => exact Kd.R_tight rfl HO379.out); (case side3 => exact Kd.R_tight rfl HO382.out); (case side4 => exact Kd.R_tight rfl HO390.out); rintro e w49 ⟨rfl, hy0, hy1, hy2, hb, hkp⟩; refine ⟨_, rfl, ?_⟩; have n0_ := Aside0.mk (blk_kept (bk_ BK355) hkp (fun hs_ => Or.elim hs_ (fun e_ => (fun e_ => (Kd.R_ne HO379.out BK355.out (by decide)) e_) e_) (fun e_ => Or.elim e_ (fun e_ => (fun e_ => (Kd.R_ne HO382.out BK355.out (by decide)) e_) e_) (fun e_ => (fun e_ => (Kd.R_ne HO390.out BK355.out (by decide)) e_) e_)))); have n1_ := Aside0.mk (Kd.R_mono (ok' := fun k_ => some k_ ≠ (.slice Ao35 t377.length co35 : Value).ownBlock ∧ some k_ ≠ (.slice Ao44 t398.length co44 : Value).ownBlock) (Kd.R_keptB ((Kd.R_apart' (Kd.R_apart' HO360.out (Kd.R_typed HO382.out) (by decide)) (Kd.R_typed HO390.out) (by decide))) hkp (fun k_ hk_ hs_ => Or.elim hs_ (fun e_ => (hk_.1.1.1.2) e_) (fun e_ => Or.elim e_ (fun e_ => (hk_.1.2) e_) (fun e_ => (hk_.2) e_)))) (fun k_ hk_ => ⟨hk_.1.1.1.1.2, hk_.1.1.1.2⟩)); have n2_ := Aside0.mk (Kd.R_mono (ok' := fun k_ => some k_ ≠ (.slice Ao36 t380.length co36 : Value).ownBlock ∧ some k_ ≠ (.slice Ao45 t401.length co45 : Value).ownBlock) (Kd.R_keptB ((Kd.R_apart' (Kd.R_apart' HO363.out (Kd.R_typed HO379.out) (by decide)) (Kd.R_typed HO390.out) (by decide))) hkp (fun k_ hk_ hs_ => Or.elim hs_ (fun e_ => (hk_.1.2) e_) (fun e_ => Or.elim e_ (fun e_ => (hk_.1.1.1.2) e_) (fun e_ => (hk_.2) e_)))) (fun k_ hk_ => ⟨hk_.1.1.1.1.2, hk_.1.1.1.2⟩)); have n3_ := Aside0.mk (Kd.R_mono (ok' := fun k_ => some k_ ≠ (.slice Ao37 t388.length co37 : Value).ownBlock ∧ some k_ ≠ (.slice Ao46 t409.length co46 : Value).ownBlock) (Kd.R_keptB ((Kd.R_apart' (Kd.R_apart' HO371.out (Kd.R_typed HO379.out) (by decide)) (Kd.R_typed HO382.out) (by decide))) hkp (fun k_ hk_ hs_ => Or.elim hs_ (fun e_ => (hk_.1.2) e_) (fun e_ => Or.elim e_ (fun e_ => (hk_.2) e_) (fun e_ => (hk_.1.1.1.2) e_)))) (fun k_ hk_ => ⟨hk_.1.1.1.1.2, hk_.1.1.1.2⟩)); have n4_ := Aside0.mk (Kd.R_mono (ok' := fun k_ => some k_ ≠ (.slice Ao39 t393.length co39 : Value).ownBlock) (Kd.R_keptB ((Kd.R_apart' (Kd.R_apart' (Kd.R_apart' HO375.out (Kd.R_typed HO379.out) (by decide)) (Kd.R_typed HO382.out) (by decide)) (Kd.R_typed HO390.out) (by decide))) hkp (fun k_ hk_ hs_ => Or.elim hs_ (fun e_ => (hk_.1.1.2) e_) (fun e_ => Or.elim e_ (fun e_ => (hk_.1.2) e_) (fun e_ => (hk_.2) e_)))) (fun k_ hk_ => hk_.1.1.1.1.2)); have n5_ := Aside0.mk (Kd.R_reok rfl hy0 (fun k_ e_ => HO379.out.1 k_ e_)); have n6_ := Aside0.mk (Kd.R_reok rfl hy1 (fun k_ e_ => HO382.out.1 k_ e_)); have n7_ := Aside0.mk (Kd.R_reok rfl hy2 (fun k_ e_ => HO390.out.1 k_ e_)); have n8_ := Aside0.mk (blk_kept (bk_ BK392) hkp (fun hs_ => Or.elim hs_ (fun e_ => (fun e_ => (Kd.R_ne HO379.out BK392.out (by decide)) e_) e_) (fun e_ => Or.elim e_ (fun e_ => (fun e_ => (Kd.R_ne HO382.out BK392.out (by decide)) e_) e_) (fun e_ => (fun e_ => (Kd.R_ne HO390.out BK392.out (by decide)) e_) e_)))); have n9_ := Aside0.mk (Kd.R_mono (ok' := fun k_ => some k_ ≠ (.slice Ao40 t373.length co40 : Value).ownBlock) (Kd.R_keptB ((Kd.R_apart' (Kd.R_apart' (Kd.R_apart' HO395.out (Kd.R_typed HO379.out) (by decide)) (Kd.R_typed HO382.out) (by decide)) (Kd.R_typed HO390.out) (by decide))) hkp (fun k_ hk_ hs_ => Or.elim hs_ (fun e_ => (hk_.1.1.2) e_) (fun e_ => Or.elim e_ (fun e_ => (hk_.1.2) e_) (fun e_ => (hk_.2) e_)))) (fun k_ hk_ => hk_.1.1.1.1.2)); have n10_ := Aside0.mk (Kd.R_mono (ok' := fun k_ => some k_ ≠ (.slice Ao26 t358.length co26 : Value).ownBlock ∧ some k_ ≠ (.slice Ao35 t377.length co35 : Value).ownBlock) (Kd.R_keptB ((Kd.R_apart' (Kd.R_apart' HO400.out (Kd.R_typed HO382.out) (by decide)) (Kd.R_typed HO390.out) (by decide))) hkp (fun k_ hk_ hs_ => Or.elim hs_ (fun e_ => (hk_.1.1.2) e_) (fun e_ => Or.elim e_ (fun e_ => (hk_.1.2) e_) (fun e_ => (hk_.2) e_)))) (fun k_ hk_ => ⟨hk_.1.1.1.1.2, hk_.1.1.1.2⟩)); have n11_ := Aside0.mk (Kd.R_mono (ok' := fun k_ => some k_ ≠ (.slice Ao27 t361.length co27 : Value).ownBlock ∧ some k_ ≠ (.slice Ao36 t380.length co36 : Value).ownBlock) (Kd.R_keptB ((Kd.R_apart' (Kd.R_apart' HO403.out (Kd.R_typed HO379.out) (by decide)) (Kd.R_typed HO390.out) (by decide))) hkp (fun k_ hk_ hs_ => Or.elim hs_ (fun e_ => (hk_.1.2) e_) (fun e_ => Or.elim e_ (fun e_ => (hk_.1.1.2) e_) (fun e_ => (hk_.2) e_)))) (fun k_ hk_ => ⟨hk_.1.1.1.1.2, hk_.1.1.1.2⟩)); have n12_ := Aside0.mk (Kd.R_mono (ok' := fun k_ => some k_ ≠ (.slice Ao28 t369.length co28 : Value).ownBlock ∧ some k_ ≠ (.slice Ao37 t388.length co37 : Value).ownBlock) (Kd.R_keptB ((Kd.R_apart' (Kd.R_apart' HO411.out (Kd.R_typed HO379.out) (by decide)) (Kd.R_typed HO382.out) (by decide))) hkp (fun k_ hk_ hs_ => Or.elim hs_ (fun e_ => (hk_.1.2) e_) (fun e_ => Or.elim e_ (fun e_ => (hk_.2) e_) (fun e_ => (hk_.1.1.2) e_)))) (fun k_ hk_ => ⟨hk_.1.1.1.1.2, hk_.1.1.1.2⟩)); have n13_ := Aside0.mk (hb); clear BK355; clear HO360; clear HO363; clear HO371; clear HO375; clear HO379; clear HO382; clear HO390; clear BK392; clear HO395; clear HO400; clear HO403; clear HO411; clear HB; have BK355 := n0_; have HO360 := n1_; have HO363 := n2_; have HO371 := n3_; have HO375 := n4_; have HO379 := n5_; have HO382 := n6_; have HO390 := n7_; have BK392 := n8_; have HO395 := n9_; have HO400 := n10_; have HO403 := n11_; have HO411 := n12_; have HB := n13_; clear n0_ n1_ n2_ n3_ n4_ n5_ n6_ n7_ n8_ n9_ n10_ n11_ n12_ n13_; (try clear hb); (try clear hkp); (try clear hy0); (try clear hy1); (try clear hy2)))
    (try simp only [Act.put, List.setIfInBounds_toArray, List.set_cons_zero, List.set_cons_succ])
    go_cut [54] (fun v54 wc => ∃ (kq : Nat) (x54_19 : Bool), v54 = .bool x54_19 ∧ Aside0 (laws_FnExactQuietSpans.j0 kq a1 a2 a3 t373 t393 x54_19 a0_0 l0_1 l0_2 a0_3 a0_4 a0_5 a0_6 a0_7 l0_8 a0_9 = some true) ∧ Aside0 (kq ≤ k) ∧ Aside0 (Kd.R k51 51 wc w.heap.size (fun k_ => some k_ ≠ ((.slice Ao39 t393.length co39) : Value).ownBlock) (.slice Ao40 t373.length co40) t373) ∧ Aside0 (Kd.R k51 51 wc w.heap.size (fun k_ => some k_ ≠ ((.slice Ao40 t373.length co40) : Value).ownBlock) (.slice Ao39 t393.length co39) t393) ∧ Aside0 (Kd.R k71 71 wc w.heap.size (fun _ => True) (.slice Ao35 t377.length co35) t415) ∧ Aside0 (Kd.R k75 75 wc w.heap.size (fun _ => True) (.slice Ao36 t380.length co36) t416) ∧ Aside0 (Kd.R k81 81 wc w.heap.size (fun _ => True) (.slice Ao37 t388.length co37) t417) ∧ Aside0 (wc.heap[gb355]? = some (.cells #[.int .i64 a0_0, (.slice A0_1 l0_1.length c0_1), (.slice A0_2 l0_2.length c0_2), .int .i64 a0_3, .int .i64 a0_4, .int .i64 a0_5, .int .i64 a0_6, .int .i64 a0_7, (.slice A0_8 l0_8.length c0_8), .int .i64 a0_9] 26 (0, 0))) ∧ Aside0 (wc.heap[gb392]? = some (.cells #[.int .i64 t376, (.slice Ao35 t377.length co35), (.slice Ao36 t380.length co36), .int .i64 t383, .int .i64 t384, .int .i64 t385, .int .i64 t386, .int .i64 t387, (.slice Ao37 t388.length co37), .int .i64 t391] 33 (0, 0))) ∧ Aside0 (Below w.heap.size w wc))
    case first =>
     have H := HC20.out
     clear HC20
     by_cases c50 : t414 < 0
     ·rw [if_pos c50] at H
      have c50b0 : decide (t414 < 0) = true := decide_eq_true c50
      clear c50
      (first | rw [c50b0] | (simp only [i64_w, i32_w]; rw [c50b0]) | skip)
      have H' := Aside0.mk H
      clear H
      go_wp2
      go_meet
      case rel => exact ⟨_, (true), (by first | rfl | (simp; done) | (simp [*]; done)), H', ⟨by first | omega | exact Nat.le_refl _⟩, ⟨by (with_reducible repeat (first | apply Kd.R_alloc | apply Kd.R_drewN | apply Kd.R_drew)); exact HO375.out⟩, ⟨by (with_reducible repeat (first | apply Kd.R_alloc | apply Kd.R_drewN | apply Kd.R_drew)); exact HO395.out⟩, ⟨by (with_reducible repeat (first | apply Kd.R_alloc | apply Kd.R_drewN | apply Kd.R_drew)); exact Kd.R_mono HO379.out (fun _ hk => trivial)⟩, ⟨by (with_reducible repeat (first | apply Kd.R_alloc | apply Kd.R_drewN | apply Kd.R_drew)); exact Kd.R_mono HO382.out (fun _ hk => trivial)⟩, ⟨by (with_reducible repeat (first | apply Kd.R_alloc | apply Kd.R_drewN | apply Kd.R_drew)); exact Kd.R_mono HO390.out (fun _ hk => trivial)⟩, ⟨by (with_reducible repeat (first | refine blk_drewN ?_ _ | refine blk_drew ?_ | refine blk_alloc ?_ _)); exact BK355.out⟩, ⟨by (with_reducible repeat (first | refine blk_drewN ?_ _ | refine blk_drew ?_ | refine blk_alloc ?_ _)); exact BK392.out⟩, ⟨by repeat (first | (with_reducible first | exact HB.out | apply below_alloc | apply pw_below_drewN | apply below_drew1 | refine below_set ?_ GE355.out | refine below_set ?_ GE392.out) | exact HB.out)⟩⟩
     ·rw [if_neg c50] at H
      have c50b0 : decide (t414 < 0) = false := decide_eq_false c50
      clear c50
      (first | rw [c50b0] | (simp only [i64_w, i32_w]; rw [c50b0]) | skip)
      replace H := Option.bind_eq_some_iff.mp H
      obtain ⟨t418, A510, H⟩ := H
      have A51 := Aside0.mk A510
      clear A510
      have H' := Aside0.mk H
      clear H
      go_wp2_with (first | (go_at_call 16; (with_reducible refine (laws_eqSpanS.calls k _ _ t393 _ _ t373 t418 _ ?side1 ?side2 ?side3 ?side4 A51.out).mono ?_); (case side1 => repeat (first | exact (Kd.R_reads' HO395.out).2.2 | (with_reducible refine Kd.C_alloc ?_ _) | (with_reducible refine Kd.C_drewN ?_ _) | (with_reducible refine Kd.C_drew ?_))); (case side2 => exact (Kd.R_reads' HO395.out).2.1); (case side3 => repeat (first | exact (Kd.R_reads' HO375.out).2.2 | (with_reducible refine Kd.C_alloc ?_ _) | (with_reducible refine Kd.C_drewN ?_ _) | (with_reducible refine Kd.C_drew ?_))); (case side4 => exact (Kd.R_reads' HO375.out).2.1); rintro e w52 ⟨rfl, hb⟩; have n0_ := Aside0.mk (Kd.R_below (by (with_reducible repeat (first | apply Kd.R_alloc | apply Kd.R_drewN | apply Kd.R_drew)); exact HO360.out) hb); have n1_ := Aside0.mk (Kd.R_below (by (with_reducible repeat (first | apply Kd.R_alloc | apply Kd.R_drewN | apply Kd.R_drew)); exact HO363.out) hb); have n2_ := Aside0.mk (Kd.R_below (by (with_reducible repeat (first | apply Kd.R_alloc | apply Kd.R_drewN | apply Kd.R_drew)); exact HO371.out) hb); have n3_ := Aside0.mk (Kd.R_below (by (with_reducible repeat (first | apply Kd.R_alloc | apply Kd.R_drewN | apply Kd.R_drew)); exact HO375.out) hb); have n4_ := Aside0.mk (Kd.R_below (by (with_reducible repeat (first | apply Kd.R_alloc | apply Kd.R_drewN | apply Kd.R_drew)); exact HO379.out) hb); have n5_ := Aside0.mk (Kd.R_below (by (with_reducible repeat (first | apply Kd.R_alloc | apply Kd.R_drewN | apply Kd.R_drew)); exact HO382.out) hb); have n6_ := Aside0.mk (Kd.R_below (by (with_reducible repeat (first | apply Kd.R_alloc | apply Kd.R_drewN | apply Kd.R_drew)); exact HO390.out) hb); have n7_ := Aside0.mk (Kd.R_below (by (with_reducible repeat (first | apply Kd.R_alloc | apply Kd.R_drewN | apply Kd.R_drew)); exact HO395.out) hb); have n8_ := Aside0.mk (Kd.R_below (by (with_reducible repeat (first | apply Kd.R_alloc | apply Kd.R_drewN | apply Kd.R_drew)); exact HO400.out) hb); have n9_ := Aside0.mk (Kd.R_below (by (with_reducible repeat (first | apply Kd.R_alloc | apply Kd.R_drewN | apply Kd.R_drew)); exact HO403.out) hb); have n10_ := Aside0.mk (Kd.R_below (by (with_reducible repeat (first | apply Kd.R_alloc | apply Kd.R_drewN | apply Kd.R_drew)); exact HO411.out) hb); have n11_ := Aside0.mk (blk_below (bk_ BK355) hb); have n12_ := Aside0.mk (blk_below (bk_ BK392) hb); have n13_ := Aside0.mk (below_step (bl2_ HB GE355 GE392) hb); clear HO360; clear HO363; clear HO371; clear HO375; clear HO379; clear HO382; clear HO390; clear HO395; clear HO400; clear HO403; clear HO411; clear BK355; clear BK392; clear HB; have HO360 := n0_; have HO363 := n1_; have HO371 := n2_; have HO375 := n3_; have HO379 := n4_; have HO382 := n5_; have HO390 := n6_; have HO395 := n7_; have HO400 := n8_; have HO403 := n9_; have HO411 := n10_; have BK355 := n11_; have BK392 := n12_; have HB := n13_; clear n0_ n1_ n2_ n3_ n4_ n5_ n6_ n7_ n8_ n9_ n10_ n11_ n12_ n13_; (try clear hb); (try clear hb2); (try clear hk); (try clear hi)))
      go_meet
      case rel => exact ⟨_, (!t418), (by first | rfl | (simp; done) | (simp [*]; done)), H', ⟨by first | omega | exact Nat.le_refl _⟩, ⟨by (with_reducible repeat (first | apply Kd.R_alloc | apply Kd.R_drewN | apply Kd.R_drew)); exact HO375.out⟩, ⟨by (with_reducible repeat (first | apply Kd.R_alloc | apply Kd.R_drewN | apply Kd.R_drew)); exact HO395.out⟩, ⟨by (with_reducible repeat (first | apply Kd.R_alloc | apply Kd.R_drewN | apply Kd.R_drew)); exact Kd.R_mono HO379.out (fun _ hk => trivial)⟩, ⟨by (with_reducible repeat (first | apply Kd.R_alloc | apply Kd.R_drewN | apply Kd.R_drew)); exact Kd.R_mono HO382.out (fun _ hk => trivial)⟩, ⟨by (with_reducible repeat (first | apply Kd.R_alloc | apply Kd.R_drewN | apply Kd.R_drew)); exact Kd.R_mono HO390.out (fun _ hk => trivial)⟩, ⟨by (with_reducible repeat (first | refine blk_drewN ?_ _ | refine blk_drew ?_ | refine blk_alloc ?_ _)); exact BK355.out⟩, ⟨by (with_reducible repeat (first | refine blk_drewN ?_ _ | refine blk_drew ?_ | refine blk_alloc ?_ _)); exact BK392.out⟩, ⟨by repeat (first | (with_reducible first | exact HB.out | apply below_alloc | apply pw_below_drewN | apply below_drew1 | refine below_set ?_ GE355.out | refine below_set ?_ GE392.out) | exact HB.out)⟩⟩
    case rest =>
     clear HC20
     try clear c1
     try clear p2
     try clear c3
     try clear c4
     try clear c5
     try clear c6
     try clear c6b0
     try clear c9
     try clear c11
     try clear c13
     try clear c14
     try clear c15
     try clear c16
     try clear c17
     try clear c18
     try clear c33
     try clear c50
     try clear c50b0
     try clear hcz22_0
     try clear hcz22_1
     try clear hcz22_2
     try clear hcz22_3
     try clear hcz22_4
     try clear hcz22_5
     try clear hcz22_6
     try clear hcz22_7
     try clear hcz22_8
     try clear hcz22_9
     try clear hcz24_0
     try clear hcz24_1
     try clear hcz24_2
     try clear hcz24_3
     try clear hcz24_4
     try clear hcz24_5
     try clear hcz24_6
     try clear hcz24_7
     try clear hcz24_8
     try clear hcz24_9
     try clear hcz30_0
     try clear hcz30_1
     try clear hcz30_2
     try clear hcz30_3
     try clear hcz30_4
     try clear hcz30_5
     try clear hcz30_6
     try clear hcz30_7
     try clear hcz30_8
     try clear hcz30_9
     try clear hcz34_0
     try clear hcz34_1
     try clear hcz34_2
     try clear hcz34_3
     try clear hcz34_4
     try clear hcz34_5
     try clear hcz34_6
     try clear hcz34_7
     try clear hcz34_8
     try clear hcz34_9
     try clear hcz48_0
     try clear hcz48_1
     try clear hcz48_2
     try clear hcz48_3
     try clear hcz48_4
     try clear hcz48_5
     try clear hcz48_6
     try clear hcz48_7
     try clear hcz48_8
     try clear hcz48_9
     try clear hcz8_0
     try clear hcz8_1
     try clear hcz8_2
     try clear hcz8_3
     try clear hcz8_4
     try clear hcz8_5
     try clear hcz8_6
     try clear hcz8_7
     try clear hcz8_8
     try clear hcz8_9
     try clear hfz22_0
     try clear hfz22_1
     try clear hfz22_2
     try clear hfz22_3
     try clear hfz22_4
     try clear hfz22_5
     try clear hfz22_6
     try clear hfz22_7
     try clear hfz22_8
     try clear hfz22_9
     try clear hfz24_0
     try clear hfz24_1
     try clear hfz24_2
     try clear hfz24_3
     try clear hfz24_4
     try clear hfz24_5
     try clear hfz24_6
     try clear hfz24_7
     try clear hfz24_8
     try clear hfz24_9
     try clear hfz30_0
     try clear hfz30_1
     try clear hfz30_2
     try clear hfz30_3
     try clear hfz30_4
     try clear hfz30_5
     try clear hfz30_6
     try clear hfz30_7
     try clear hfz30_8
     try clear hfz30_9
     try clear hfz34_0
     try clear hfz34_1
     try clear hfz34_2
     try clear hfz34_3
     try clear hfz34_4
     try clear hfz34_5
     try clear hfz34_6
     try clear hfz34_7
     try clear hfz34_8
     try clear hfz34_9
     try clear hfz48_0
     try clear hfz48_1
     try clear hfz48_2
     try clear hfz48_3
     try clear hfz48_4
     try clear hfz48_5
     try clear hfz48_6
     try clear hfz48_7
     try clear hfz48_8
     try clear hfz48_9
     try clear hfz8_0
     try clear hfz8_1
     try clear hfz8_2
     try clear hfz8_3
     try clear hfz8_4
     try clear hfz8_5
     try clear hfz8_6
     try clear hfz8_7
     try clear hfz8_8
     try clear hfz8_9
     obtain ⟨kq, x54_19, rfl, HA, HJ19, HO_10, HO_12, HO_393001, HO_393002, HO_393008, BK355, BK392, HB⟩ := hcut
     have hl393001_19 := (Kd.R_reads' HO_393001.out).1
     rw [hl393001_19] at HO_393001
     (try simp only [hl393001_19])
     (try simp only [hl393001_19] at BK355)
     (try simp only [hl393001_19] at BK392)
     (try simp only [hl393001_19] at HO_10)
     (try simp only [hl393001_19] at HO_12)
     (try simp only [hl393001_19] at HO_393002)
     (try simp only [hl393001_19] at HO_393008)
     have hl393002_19 := (Kd.R_reads' HO_393002.out).1
     rw [hl393002_19] at HO_393002
     (try simp only [hl393002_19])
     (try simp only [hl393002_19] at BK355)
     (try simp only [hl393002_19] at BK392)
     (try simp only [hl393002_19] at HO_10)
     (try simp only [hl393002_19] at HO_12)
     (try simp only [hl393002_19] at HO_393001)
     (try simp only [hl393002_19] at HO_393008)
     have hl393008_19 := (Kd.R_reads' HO_393008.out).1
     rw [hl393008_19] at HO_393008
     (try simp only [hl393008_19])
     (try simp only [hl393008_19] at BK355)
     (try simp only [hl393008_19] at BK392)
     (try simp only [hl393008_19] at HO_10)
     (try simp only [hl393008_19] at HO_12)
     (try simp only [hl393008_19] at HO_393001)
     (try simp only [hl393008_19] at HO_393002)
     cases kq with
     | zero => exact absurd HA.out (by simp [laws_FnExactQuietSpans.j0])
     | succ kj19 =>
      have H := HA.out
      clear HA
      simp only [laws_FnExactQuietSpans.j0] at H
      by_cases c53 : x54_19 = true
      ·subst c53
       have H1 : (some false) = some true := by first | (rw [if_pos rfl] at H; exact H) | rfl
       clear H
       have H := H1
       clear H1
       exact absurd H (by simp)
      ·replace c53 := Bool.eq_false_iff.mpr c53
       subst c53
       have H1 : ((laws_markSpanS.f kj19 t393 1).bind fun bt419 => ((laws_heldSpanS.f kj19 bt419.2 1).bind fun t421 => (if t421 < 0 then (some false) else (if t421 = bt419.1 then ((laws_toSky.f kj19 a0_0 l0_1 l0_2 a0_3 a0_4 a0_5 a0_6 a0_7 l0_8 a0_9).bind fun bt422 => ((impl_QuietSpans.f kj19 bt422.1 bt422.2.1 bt422.2.2.1 bt422.2.2.2.1 bt422.2.2.2.2.1 bt422.2.2.2.2.2.1 bt422.2.2.2.2.2.2.1 bt422.2.2.2.2.2.2.2.1 bt422.2.2.2.2.2.2.2.2.1 bt422.2.2.2.2.2.2.2.2.2 a1 a2 a3).bind fun t438 => ((laws_eqSpanS.f kj19 t438 t373).bind fun t441 => (if t441 = true then ((laws_heldSpanS.f kj19 bt419.2 1).bind fun t442 => (if t442 < 0 then (some false) else (if t442 = bt419.1 then (some true) else (some false)))) else (some false))))) else (some false))))) = some true := by first | (rw [if_neg (show ¬ (false = true) by decide)] at H; exact H) | rfl
       clear H
       have H := H1
       clear H1
       replace H := Option.bind_eq_some_iff.mp H
       obtain ⟨⟨t419, t420⟩, A540, H⟩ := H
       replace H : ((laws_heldSpanS.f kj19 t420 1).bind fun t421 => (if t421 < 0 then (some false) else (if t421 = t419 then ((laws_toSky.f kj19 a0_0 l0_1 l0_2 a0_3 a0_4 a0_5 a0_6 a0_7 l0_8 a0_9).bind fun bt422 => ((impl_QuietSpans.f kj19 bt422.1 bt422.2.1 bt422.2.2.1 bt422.2.2.2.1 bt422.2.2.2.2.1 bt422.2.2.2.2.2.1 bt422.2.2.2.2.2.2.1 bt422.2.2.2.2.2.2.2.1 bt422.2.2.2.2.2.2.2.2.1 bt422.2.2.2.2.2.2.2.2.2 a1 a2 a3).bind fun t438 => ((laws_eqSpanS.f kj19 t438 t373).bind fun t441 => (if t441 = true then ((laws_heldSpanS.f kj19 t420 1).bind fun t442 => (if t442 < 0 then (some false) else (if t442 = t419 then (some true) else (some false)))) else (some false))))) else (some false)))) = some true := H
       have A54 := Aside0.mk A540
       clear A540
       replace H := Option.bind_eq_some_iff.mp H
       obtain ⟨t421, A550, H⟩ := H
       have A55 := Aside0.mk A550
       clear A550
       by_cases c56 : t421 < 0
       ·rw [if_pos c56] at H
        have c56b0 : decide (t421 < 0) = true := decide_eq_true c56
        clear c56
        exact absurd H (by simp)
       ·rw [if_neg c56] at H
        have c56b0 : decide (t421 < 0) = false := decide_eq_false c56
        clear c56
        by_cases c57 : t421 = t419
        ·rw [if_pos c57] at H
         have c57b0 : (t421 == t419) = true := beq_iff_eq.mpr c57
         have c57b1 : (t421 != t419) = false := bne_eq_false_iff_eq.mpr c57
         clear c57
         replace H := Option.bind_eq_some_iff.mp H
         obtain ⟨⟨t422, t423, t426, t429, t430, t431, t432, t433, t434, t437⟩, A580, H⟩ := H
         replace H : ((impl_QuietSpans.f kj19 t422 t423 t426 t429 t430 t431 t432 t433 t434 t437 a1 a2 a3).bind fun t438 => ((laws_eqSpanS.f kj19 t438 t373).bind fun t441 => (if t441 = true then ((laws_heldSpanS.f kj19 t420 1).bind fun t442 => (if t442 < 0 then (some false) else (if t442 = t419 then (some true) else (some false)))) else (some false)))) = some true := H
         have A58 := Aside0.mk A580
         clear A580
         replace H := Option.bind_eq_some_iff.mp H
         obtain ⟨t438, A590, H⟩ := H
         have A59 := Aside0.mk A590
         clear A590
         replace H := Option.bind_eq_some_iff.mp H
         obtain ⟨t441, A600, H⟩ := H
         have A60 := Aside0.mk A600
         clear A600
         by_cases c61 : t441 = true
         ·subst c61
          have H1 : ((laws_heldSpanS.f kj19 t420 1).bind fun t442 => (if t442 < 0 then (some false) else (if t442 = t419 then (some true) else (some false)))) = some true := by first | (rw [if_pos rfl] at H; exact H) | rfl
          clear H
          have H := H1
          clear H1
          replace H := Option.bind_eq_some_iff.mp H
          obtain ⟨t442, A620, H⟩ := H
          have A62 := Aside0.mk A620
          clear A620
          by_cases c63 : t442 < 0
          ·rw [if_pos c63] at H
           have c63b0 : decide (t442 < 0) = true := decide_eq_true c63
           clear c63
           exact absurd H (by simp)
          ·rw [if_neg c63] at H
           have c63b0 : decide (t442 < 0) = false := decide_eq_false c63
           clear c63
           by_cases c64 : t442 = t419
           ·rw [if_pos c64] at H
            have c64b0 : (t442 == t419) = true := beq_iff_eq.mpr c64
            have c64b1 : (t442 != t419) = false := bne_eq_false_iff_eq.mpr c64
            clear c64
            clear H
            go_wp2_with (first | ((with_reducible refine gate_callee (f := 18) rfl ?_); refine goesL_ (some 57) rfl rfl Try.func18 (by kernel_rfl) rfl #[.slice Ao39 t393.length co39, .int .i64 1] rfl mp_ ?_; (with_reducible refine (laws_markSpanS.calls kj19 (fun k_ => some k_ = (.slice Ao39 t393.length co39 : Value).ownBlock) (.slice Ao39 t393.length co39) t393 1 t419 t420 w _ ?side1 ?side2 A54.out).mono ?_); (case side1 => repeat (first | (with_reducible first | exact HB.out | apply below_alloc | apply pw_below_drewN | apply below_drew1 | refine below_set ?_ GE355.out | refine below_set ?_ GE392.out) | exact HB.out)); (case side2 => exact Kd.R_tight rfl HO_12.out); rintro e w65 ⟨rfl, hy0, hb, hkp⟩; refine ⟨_, rfl, ?_⟩; have n0_ := Aside0.mk (Kd.R_mono (ok' := fun k_ => some k_ ≠ (.slice Ao39 t393.length co39 : Value).ownBlock) (Kd.R_keptB (HO_10.out) hkp (fun k_ hk_ hs_ => (hk_) hs_)) (fun k_ hk_ => hk_.1)); have n1_ := Aside0.mk (Kd.R_reok rfl hy0 (fun k_ e_ => HO_12.out.1 k_ e_)); have n2_ := Aside0.mk (Kd.R_mono (ok' := fun k_ => True) (Kd.R_keptB ((Kd.R_apart' HO_393001.out (Kd.R_typed HO_12.out) (by decide))) hkp (fun k_ hk_ hs_ => (hk_.2) hs_)) (fun k_ hk_ => trivial)); have n3_ := Aside0.mk (Kd.R_mono (ok' := fun k_ => True) (Kd.R_keptB ((Kd.R_apart' HO_393002.out (Kd.R_typed HO_12.out) (by decide))) hkp (fun k_ hk_ hs_ => (hk_.2) hs_)) (fun k_ hk_ => trivial)); have n4_ := Aside0.mk (Kd.R_mono (ok' := fun k_ => True) (Kd.R_keptB ((Kd.R_apart' HO_393008.out (Kd.R_typed HO_12.out) (by decide))) hkp (fun k_ hk_ hs_ => (hk_.2) hs_)) (fun k_ hk_ => trivial)); have n5_ := Aside0.mk (blk_kept (bk_ BK355) hkp (fun hs_ => (fun e_ => (Kd.R_ne HO_12.out BK355.out (by decide)) e_) hs_)); have n6_ := Aside0.mk (blk_kept (bk_ BK392) hkp (fun hs_ => (fun e_ => (Kd.R_ne HO_12.out BK392.out (by decide)) e_) hs_)); have n7_ := Aside0.mk (hb); clear HO_10; clear HO_12; clear HO_393001; clear HO_393002; clear HO_393008; clear BK355; clear BK392; clear HB; have HO_10 := n0_; have HO_12 := n1_; have HO_393001 := n2_; have HO_393002 := n3_; have HO_393008 := n4_; have BK355 := n5_; have BK392 := n6_; have HB := n7_; clear n0_ n1_ n2_ n3_ n4_ n5_ n6_ n7_; (try clear hb); (try clear hkp); (try clear hy0)) | ((with_reducible refine gate_callee (f := 19) rfl ?_); refine goesL_ (some 60) rfl rfl Try.func19 (by kernel_rfl) rfl #[.slice Ao39 t420.length co39, .int .i64 1] rfl (by (try simp only [List.map_toArray, List.map_cons, List.map_nil]); first | done | (rw [show t420.length = t393.length from (Kd.R_reads' HO_12.out).1.symm] <;> rfl) | rfl | (simp only [List.length_drop, List.length_take]; rfl)) ?_; (with_reducible refine (laws_heldSpanS.calls kj19 _ _ t420 1 t421 _ ?side1 ?side2 A55.out).mono ?_); (case side1 => repeat (first | exact (Kd.R_reads' HO_12.out).2.2 | (with_reducible refine Kd.C_alloc ?_ _) | (with_reducible refine Kd.C_drewN ?_ _) | (with_reducible refine Kd.C_drew ?_))); (case side2 => rw [show t420.length = t393.length from (Kd.R_reads' HO_12.out).1.symm]; exact (Kd.R_reads' HO_12.out).2.1); rintro e w' ⟨rfl, ⟨nd, rfl⟩⟩; refine ⟨_, rfl, ?_⟩; have hnb66 := NB355_392.out; have hnc66 := NB392_355.out; have hcz67_0 : w65.cell? ⟨gb355, 0, none⟩ = some (.int .i64 a0_0) := bc_ BK355 0 rfl; have hcz67_1 : w65.cell? ⟨gb355, 1, none⟩ = some (.slice A0_1 l0_1.length c0_1) := bc_ BK355 1 rfl; have hcz67_2 : w65.cell? ⟨gb355, 2, none⟩ = some (.slice A0_2 l0_2.length c0_2) := bc_ BK355 2 rfl; have hcz67_3 : w65.cell? ⟨gb355, 3, none⟩ = some (.int .i64 a0_3) := bc_ BK355 3 rfl; have hcz67_4 : w65.cell? ⟨gb355, 4, none⟩ = some (.int .i64 a0_4) := bc_ BK355 4 rfl; have hcz67_5 : w65.cell? ⟨gb355, 5, none⟩ = some (.int .i64 a0_5) := bc_ BK355 5 rfl; have hcz67_6 : w65.cell? ⟨gb355, 6, none⟩ = some (.int .i64 a0_6) := bc_ BK355 6 rfl; have hcz67_7 : w65.cell? ⟨gb355, 7, none⟩ = some (.int .i64 a0_7) := bc_ BK355 7 rfl; have hcz67_8 : w65.cell? ⟨gb355, 8, none⟩ = some (.slice A0_8 l0_8.length c0_8) := bc_ BK355 8 rfl; have hcz67_9 : w65.cell? ⟨gb355, 9, none⟩ = some (.int .i64 a0_9) := bc_ BK355 9 rfl; have hfz67_0 := bf_ BK355 0; have hfz67_1 := bf_ BK355 1; have hfz67_2 := bf_ BK355 2; have hfz67_3 := bf_ BK355 3; have hfz67_4 := bf_ BK355 4; have hfz67_5 := bf_ BK355 5; have hfz67_6 := bf_ BK355 6; have hfz67_7 := bf_ BK355 7; have hfz67_8 := bf_ BK355 8; have hfz67_9 := bf_ BK355 9) | ((with_reducible refine gate_callee (f := 11) rfl ?_); refine goesL_ (some 67) rfl rfl Try.func11 (by kernel_rfl) rfl #[.agg #[.int .i64 a0_0, .slice A0_1 l0_1.length c0_1, .slice A0_2 l0_2.length c0_2, .int .i64 a0_3, .int .i64 a0_4, .int .i64 a0_5, .int .i64 a0_6, .int .i64 a0_7, .slice A0_8 l0_8.length c0_8, .int .i64 a0_9]] rfl mp_ ?_; (with_reducible refine (laws_toSky.calls kj19 a0_0 _ _ l0_1 _ _ l0_2 a0_3 a0_4 a0_5 a0_6 a0_7 _ _ l0_8 a0_9 t422 t423 t426 t429 t430 t431 t432 t433 t434 t437 _ ?side1 ?side2 ?side3 ?side4 ?side5 ?side6 A58.out).mono ?_); (case side1 => repeat (first | exact (Kd.C_below HR0_1.out (bl2_ HB GE355 GE392)) | (with_reducible refine Kd.C_alloc ?_ _) | (with_reducible refine Kd.C_drewN ?_ _) | (with_reducible refine Kd.C_drew ?_))); (case side2 => exact HC0_1.out); (case side3 => repeat (first | exact (Kd.C_below HR0_2.out (bl2_ HB GE355 GE392)) | (with_reducible refine Kd.C_alloc ?_ _) | (with_reducible refine Kd.C_drewN ?_ _) | (with_reducible refine Kd.C_drew ?_))); (case side4 => exact HC0_2.out); (case side5 => repeat (first | exact (Kd.C_below HR0_8.out (bl2_ HB GE355 GE392)) | (with_reducible refine Kd.C_alloc ?_ _) | (with_reducible refine Kd.C_drewN ?_ _) | (with_reducible refine Kd.C_drew ?_))); (case side6 => exact HC0_8.out); rintro e w68 ⟨v424, v427, v435, rfl, ho0, ho1, ho2, hb⟩; refine ⟨_, rfl, ?_⟩; have n0_ := Aside0.mk (Kd.R_below (by (with_reducible repeat (first | apply Kd.R_alloc | apply Kd.R_drewN | apply Kd.R_drew)); exact HO_10.out) hb); have n1_ := Aside0.mk (Kd.R_below (by (with_reducible repeat (first | apply Kd.R_alloc | apply Kd.R_drewN | apply Kd.R_drew)); exact HO_12.out) hb); have n2_ := Aside0.mk (Kd.R_elder' (by (with_reducible repeat (first | apply Kd.R_alloc | apply Kd.R_drewN | apply Kd.R_drew)); exact HO_393001.out) (Kd.R_base ho0) hb); have n3_ := Aside0.mk (Kd.R_elder' (by (with_reducible repeat (first | apply Kd.R_alloc | apply Kd.R_drewN | apply Kd.R_drew)); exact HO_393002.out) (Kd.R_base ho1) hb); have n4_ := Aside0.mk (Kd.R_elder' (by (with_reducible repeat (first | apply Kd.R_alloc | apply Kd.R_drewN | apply Kd.R_drew)); exact HO_393008.out) (Kd.R_base ho2) hb); have n5_ := Aside0.mk (Kd.R_lower (Kd.R_new' ho0 (Kd.R_lt (by (with_reducible repeat (first | apply Kd.R_alloc | apply Kd.R_drewN | apply Kd.R_drew)); exact HO_393001.out))) (below_size (bl2_ HB GE355 GE392))); have n6_ := Aside0.mk (Kd.R_lower (Kd.R_new' ho1 (Kd.R_lt (by (with_reducible repeat (first | apply Kd.R_alloc | apply Kd.R_drewN | apply Kd.R_drew)); exact HO_393002.out))) (below_size (bl2_ HB GE355 GE392))); have n7_ := Aside0.mk (Kd.R_lower (Kd.R_new' ho2 (Kd.R_lt (by (with_reducible repeat (first | apply Kd.R_alloc | apply Kd.R_drewN | apply Kd.R_drew)); exact HO_393008.out))) (below_size (bl2_ HB GE355 GE392))); have n8_ := Aside0.mk (blk_below (bk_ BK355) hb); have n9_ := Aside0.mk (blk_below (bk_ BK392) hb); have n10_ := Aside0.mk (below_step (bl2_ HB GE355 GE392) hb); clear HO_10; clear HO_12; clear HO_393001; clear HO_393002; clear HO_393008; clear BK355; clear BK392; clear HB; have HO_10 := n0_; have HO_12 := n1_; have HO_393001 := n2_; have HO_393002 := n3_; have HO_393008 := n4_; have HO425 := n5_; have HO428 := n6_; have HO436 := n7_; have BK355 := n8_; have BK392 := n9_; have HB := n10_; clear n0_ n1_ n2_ n3_ n4_ n5_ n6_ n7_ n8_ n9_ n10_; (try clear hb); (try clear hb2); (try clear hk); (try clear hi); (try clear ho0); (try clear ho1); (try clear ho2); obtain ⟨Ao69, co69, eo69⟩ := Kd.R_slice HO425.out; subst eo69; obtain ⟨Ao70, co70, eo70⟩ := Kd.R_slice HO428.out; subst eo70; obtain ⟨Ao71, co71, eo71⟩ := Kd.R_slice HO436.out; subst eo71) | ((with_reducible refine gate_callee (f := 15) rfl ?_); refine goesL_ (some 71) rfl rfl Try.func15 (by kernel_rfl) rfl #[.agg #[.int .i64 t422, .slice Ao69 t423.length co69, .slice Ao70 t426.length co70, .int .i64 t429, .int .i64 t430, .int .i64 t431, .int .i64 t432, .int .i64 t433, .slice Ao71 t434.length co71, .int .i64 t437], .int .i64 a1, .int .i64 a2, .int .i64 a3] rfl mp_ ?_; (with_reducible refine (impl_QuietSpans.calls kj19 t422 _ _ t423 _ _ t426 t429 t430 t431 t432 t433 _ _ t434 t437 a1 a2 a3 t438 _ ?side1 ?side2 ?side3 ?side4 ?side5 ?side6 A59.out).mono ?_); (case side1 => repeat (first | exact (Kd.R_reads' HO425.out).2.2 | (with_reducible refine Kd.C_alloc ?_ _) | (with_reducible refine Kd.C_drewN ?_ _) | (with_reducible refine Kd.C_drew ?_))); (case side2 => exact (Kd.R_reads' HO425.out).2.1); (case side3 => repeat (first | exact (Kd.R_reads' HO428.out).2.2 | (with_reducible refine Kd.C_alloc ?_ _) | (with_reducible refine Kd.C_drewN ?_ _) | (with_reducible refine Kd.C_drew ?_))); (case side4 => exact (Kd.R_reads' HO428.out).2.1); (case side5 => repeat (first | exact (Kd.R_reads' HO436.out).2.2 | (with_reducible refine Kd.C_alloc ?_ _) | (with_reducible refine Kd.C_drewN ?_ _) | (with_reducible refine Kd.C_drew ?_))); (case side6 => exact (Kd.R_reads' HO436.out).2.1); rintro e w72 ⟨v439, rfl, ho0, hb⟩; refine ⟨_, rfl, ?_⟩; have n0_ := Aside0.mk (Kd.R_elder' (by (with_reducible repeat (first | apply Kd.R_alloc | apply Kd.R_drewN | apply Kd.R_drew)); exact HO_10.out) (Kd.R_base ho0) hb); have n1_ := Aside0.mk (Kd.R_elder' (by (with_reducible repeat (first | apply Kd.R_alloc | apply Kd.R_drewN | apply Kd.R_drew)); exact HO_12.out) (Kd.R_base ho0) hb); have n2_ := Aside0.mk (Kd.R_below (by (with_reducible repeat (first | apply Kd.R_alloc | apply Kd.R_drewN | apply Kd.R_drew)); exact HO_393001.out) hb); have n3_ := Aside0.mk (Kd.R_below (by (with_reducible repeat (first | apply Kd.R_alloc | apply Kd.R_drewN | apply Kd.R_drew)); exact HO_393002.out) hb); have n4_ := Aside0.mk (Kd.R_below (by (with_reducible repeat (first | apply Kd.R_alloc | apply Kd.R_drewN | apply Kd.R_drew)); exact HO_393008.out) hb); have n5_ := Aside0.mk (Kd.R_below (by (with_reducible repeat (first | apply Kd.R_alloc | apply Kd.R_drewN | apply Kd.R_drew)); exact HO425.out) hb); have n6_ := Aside0.mk (Kd.R_below (by (with_reducible repeat (first | apply Kd.R_alloc | apply Kd.R_drewN | apply Kd.R_drew)); exact HO428.out) hb); have n7_ := Aside0.mk (Kd.R_below (by (with_reducible repeat (first | apply Kd.R_alloc | apply Kd.R_drewN | apply Kd.R_drew)); exact HO436.out) hb); have n8_ := Aside0.mk (Kd.R_lower (Kd.R_new' (Kd.R_new' ho0 (Kd.R_lt (by (with_reducible repeat (first | apply Kd.R_alloc | apply Kd.R_drewN | apply Kd.R_drew)); exact HO_10.out))) (Kd.R_lt (by (with_reducible repeat (first | apply Kd.R_alloc | apply Kd.R_drewN | apply Kd.R_drew)); exact HO_12.out))) (below_size (bl2_ HB GE355 GE392))); have n9_ := Aside0.mk (blk_below (bk_ BK355) hb); have n10_ := Aside0.mk (blk_below (bk_ BK392) hb); have n11_ := Aside0.mk (below_step (bl2_ HB GE355 GE392) hb); clear HO_10; clear HO_12; clear HO_393001; clear HO_393002; clear HO_393008; clear HO425; clear HO428; clear HO436; clear BK355; clear BK392; clear HB; have HO_10 := n0_; have HO_12 := n1_; have HO_393001 := n2_; have HO_393002 := n3_; have HO_393008 := n4_; have HO425 := n5_; have HO428 := n6_; have HO436 := n7_; have HO440 := n8_; have BK355 := n9_; have BK392 := n10_; have HB := n11_; clear n0_ n1_ n2_ n3_ n4_ n5_ n6_ n7_ n8_ n9_ n10_ n11_; (try clear hb); (try clear hb2); (try clear hk); (try clear hi); (try clear ho0); obtain ⟨Ao73, co73, eo73⟩ := Kd.R_slice HO440.out; subst eo73) | ((with_reducible refine gate_callee (f := 16) rfl ?_); refine goesL_ (some 74) rfl rfl Try.func16 (by kernel_rfl) rfl #[.slice Ao73 t438.length co73, .slice Ao40 t373.length co40] rfl mp_ ?_; (with_reducible refine (laws_eqSpanS.calls kj19 _ _ t438 _ _ t373 true _ ?side1 ?side2 ?side3 ?side4 A60.out).mono ?_); (case side1 => repeat (first | exact (Kd.R_reads' HO440.out).2.2 | (with_reducible refine Kd.C_alloc ?_ _) | (with_reducible refine Kd.C_drewN ?_ _) | (with_reducible refine Kd.C_drew ?_))); (case side2 => exact (Kd.R_reads' HO440.out).2.1); (case side3 => repeat (first | exact (Kd.R_reads' HO_10.out).2.2 | (with_reducible refine Kd.C_alloc ?_ _) | (with_reducible refine Kd.C_drewN ?_ _) | (with_reducible refine Kd.C_drew ?_))); (case side4 => exact (Kd.R_reads' HO_10.out).2.1); rintro e w74 ⟨rfl, hb⟩; refine ⟨_, rfl, ?_⟩; have n0_ := Aside0.mk (Kd.R_below (by (with_reducible repeat (first | apply Kd.R_alloc | apply Kd.R_drewN | apply Kd.R_drew)); exact HO_10.out) hb); have n1_ := Aside0.mk (Kd.R_below (by (with_reducible repeat (first | apply Kd.R_alloc | apply Kd.R_drewN | apply Kd.R_drew)); exact HO_12.out) hb); have n2_ := Aside0.mk (Kd.R_below (by (with_reducible repeat (first | apply Kd.R_alloc | apply Kd.R_drewN | apply Kd.R_drew)); exact HO_393001.out) hb); have n3_ := Aside0.mk (Kd.R_below (by (with_reducible repeat (first | apply Kd.R_alloc | apply Kd.R_drewN | apply Kd.R_drew)); exact HO_393002.out) hb); have n4_ := Aside0.mk (Kd.R_below (by (with_reducible repeat (first | apply Kd.R_alloc | apply Kd.R_drewN | apply Kd.R_drew)); exact HO_393008.out) hb); have n5_ := Aside0.mk (Kd.R_below (by (with_reducible repeat (first | apply Kd.R_alloc | apply Kd.R_drewN | apply Kd.R_drew)); exact HO425.out) hb); have n6_ := Aside0.mk (Kd.R_below (by (with_reducible repeat (first | apply Kd.R_alloc | apply Kd.R_drewN | apply Kd.R_drew)); exact HO428.out) hb); have n7_ := Aside0.mk (Kd.R_below (by (with_reducible repeat (first | apply Kd.R_alloc | apply Kd.R_drewN | apply Kd.R_drew)); exact HO436.out) hb); have n8_ := Aside0.mk (Kd.R_below (by (with_reducible repeat (first | apply Kd.R_alloc | apply Kd.R_drewN | apply Kd.R_drew)); exact HO440.out) hb); have n9_ := Aside0.mk (blk_below (bk_ BK355) hb); have n10_ := Aside0.mk (blk_below (bk_ BK392) hb); have n11_ := Aside0.mk (below_step (bl2_ HB GE355 GE392) hb); clear HO_10; clear HO_12; clear HO_393001; clear HO_393002; clear HO_393008; clear HO425; clear HO428; clear HO436; clear HO440; clear BK355; clear BK392; clear HB; have HO_10 := n0_; have HO_12 := n1_; have HO_393001 := n2_; have HO_393002 := n3_; have HO_393008 := n4_; have HO425 := n5_; have HO428 := n6_; have HO436 := n7_; have HO440 := n8_; have BK355 := n9_; have BK392 := n10_; have HB := n11_; clear n0_ n1_ n2_ n3_ n4_ n5_ n6_ n7_ n8_ n9_ n10_ n11_; (try clear hb); (try clear hb2); (try clear hk); (try clear hi)) | ((with_reducible refine gate_callee (f := 19) rfl ?_); refine goesL_ (some 78) rfl rfl Try.func19 (by kernel_rfl) rfl #[.slice Ao39 t420.length co39, .int .i64 1] rfl (by (try simp only [List.map_toArray, List.map_cons, List.map_nil]); first | done | (rw [show t420.length = t393.length from (Kd.R_reads' HO_12.out).1.symm] <;> rfl) | rfl | (simp only [List.length_drop, List.length_take]; rfl)) ?_; (with_reducible refine (laws_heldSpanS.calls kj19 _ _ t420 1 t442 _ ?side1 ?side2 A62.out).mono ?_); (case side1 => repeat (first | exact (Kd.R_reads' HO_12.out).2.2 | (with_reducible refine Kd.C_alloc ?_ _) | (with_reducible refine Kd.C_drewN ?_ _) | (with_reducible refine Kd.C_drew ?_))); (case side2 => rw [show t420.length = t393.length from (Kd.R_reads' HO_12.out).1.symm]; exact (Kd.R_reads' HO_12.out).2.1); rintro e w' ⟨rfl, ⟨nd, rfl⟩⟩; refine ⟨_, rfl, ?_⟩))
            go_ret
            exact ⟨by first | rfl | (simp [errW_none, errW_some] <;> rfl) | (simp [*, errW_none, errW_some] <;> rfl), by repeat (first | (with_reducible first | exact HB.out | apply below_alloc | apply pw_below_drewN | apply below_drew1 | refine below_set ?_ GE355.out | refine below_set ?_ GE392.out) | exact HB.out)⟩
           ·rw [if_neg c64] at H
            have c64b0 : (t442 == t419) = false := beq_eq_false_iff_ne.mpr c64
            have c64b1 : (t442 != t419) = true := bne_iff_ne.mpr c64
            exact absurd H (by simp)
         ·replace c61 := Bool.eq_false_iff.mpr c61
          subst c61
          have H1 : (some false) = some true := by first | (rw [if_neg (show ¬ (false = true) by decide)] at H; exact H) | rfl
          clear H
          have H := H1
          clear H1
          exact absurd H (by simp)
        ·rw [if_neg c57] at H
         have c57b0 : (t421 == t419) = false := beq_eq_false_iff_ne.mpr c57
         have c57b1 : (t421 != t419) = true := bne_iff_ne.mpr c57
         exact absurd H (by simp)
   ·replace c18 := Bool.eq_false_iff.mpr c18
    subst c18
    have H1 : (some false) = some true := by first | (rw [if_neg (show ¬ (false = true) by decide)] at H; exact H) | rfl
    clear H
    have H := H1
    clear H1
    exact absurd H (by simp)
  ·replace c15 := Bool.eq_false_iff.mpr c15
   subst c15
   have H1 : (some false) = some true := by first | (rw [if_neg (show ¬ (false = true) by decide)] at H; exact H) | rfl
   clear H
   have H := H1
   clear H1
   exact absurd H (by simp)

end Go.Proofs.Ytikklalaggkdoaa.PFnExactQuietSpans
