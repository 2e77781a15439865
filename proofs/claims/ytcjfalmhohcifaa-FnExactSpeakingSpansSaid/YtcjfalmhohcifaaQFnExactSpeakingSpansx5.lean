-- Written by a program of this session for this claim (the kit's printer with changes).
import Derived.Test.YtcjfalmhohcifaaQFnExactSpeakingSpansx0
import Derived.Test.YtcjfalmhohcifaaQFnExactSpeakingSpansx3
import Derived.Test.YtcjfalmhohcifaaQFnExactSpeakingSpansx4
namespace Go.Proofs.Ytcjfalmhohcifaa.PFnExactSpeakingSpans
open Go.RowKit Go.Proofs.YtcjfalmhohcifaaW.PrintWords Go.Proofs.YtcjfalmhohcifaaW.PrintLast Go.Proofs.YtcjfalmhohcifaaW.PrintMore
attribute [local go_sem] max2_int min2_int max_two min_two max_three min_three max_four min_four   -- for this text's walks alone
set_option linter.unusedVariables false
set_option linter.unusedSimpArgs false

/-! ### spec_SpeakingSpans: function 10 -/
def spec_SpeakingSpans.f (k : Nat) (a0_0 : Int) (l0_1 : List (S105)) (l0_2 : List (S109)) (a0_3 : Int) (a0_4 : Int) (a0_5 : Int) (a0_6 : Int) (a0_7 : Int) (l0_8 : List (S115)) (a0_9 : Int) (a1 : Int) (a2 : Int) (a3 : Int) (a4 : Int) : Option ((List (S73))) := (spec_SureWindows.f k a0_0 l0_1 l0_2 a0_3 a0_4 a0_5 a0_6 a0_7 l0_8 a0_9 a1 a2 a3 a4).bind fun t252 => ((spec_QuietSpans.f k a0_0 l0_1 l0_2 a0_3 a0_4 a0_5 a0_6 a0_7 l0_8 a0_9 a1 a3 a4).bind fun t255 => ((spec_CutSpans.f k t252 t255).bind fun t258 => ((spec_QuietSpans.f k a0_0 l0_1 l0_2 a0_3 a0_4 a0_5 a0_6 a0_7 l0_8 a0_9 a2 a3 a4).bind fun t261 => ((spec_CutSpans.f k t258 t261).bind fun t264 => (some t264)))))
theorem spec_SpeakingSpans.mono : ∀ a0 a1 a2 a3 a4 a5 a6 a7 a8 a9 a10 a11 a12 a13 k, LeO (spec_SpeakingSpans.f k a0 a1 a2 a3 a4 a5 a6 a7 a8 a9 a10 a11 a12 a13) (spec_SpeakingSpans.f (k + 1) a0 a1 a2 a3 a4 a5 a6 a7 a8 a9 a10 a11 a12 a13) := by
 intro a0 a1 a2 a3 a4 a5 a6 a7 a8 a9 a10 a11 a12 a13 k
 unfold spec_SpeakingSpans.f
 repeat' first | (with_reducible first | exact spec_CutSpans.mono _ _ _ | exact spec_QuietSpans.mono _ _ _ _ _ _ _ _ _ _ _ _ _ _ | exact spec_SureWindows.mono _ _ _ _ _ _ _ _ _ _ _ _ _ _ _ | exact LeO.refl _ | exact LeO.none _ | refine LeO.ite ?_ ?_ | refine LeO.bind ?_ (fun _ => ?_)) | exact LeO.none _ | refine LeO.ite ?_ ?_ | refine LeO.bind ?_ (fun _ => ?_)
def spec_SpeakingSpans.T1 : Bool × List (List Nat × List Nat) := (true, [([], []), ([], []), ([], []), ([], []), ([], []), ([0, 1, 2, 3, 4], [0, 1, 2, 3, 4]), ([], []), ([], []), ([], []), ([], []), ([6, 7, 8, 9, 5], [6, 7, 8, 9]), ([5, 10, 10], [5, 10]), ([11, 11, 0, 1, 2, 3, 4, 5, 6, 7, 8, 9, 10, 11], [11])])
def spec_SpeakingSpans.B1 : List Nat := [0, 0, 0, 0, 0, 31, 0, 0, 0, 0, 1023, 2047, 4095]
theorem spec_SpeakingSpans.tab1 : rtab .any (opsOf Try.f10 1) = spec_SpeakingSpans.T1 := by kernel_rfl
theorem spec_SpeakingSpans.bits1 : waitsOk spec_SpeakingSpans.T1.2 spec_SpeakingSpans.B1 = true := by kernel_rfl
set_option maxHeartbeats 8000000 in
set_option maxRecDepth 100000 in
theorem spec_SpeakingSpans.calls (k : Nat) (a0_0 : Int) (A0_1 : Option Addr) (c0_1 : Nat) (l0_1 : List (S105)) (A0_2 : Option Addr) (c0_2 : Nat) (l0_2 : List (S109)) (a0_3 : Int) (a0_4 : Int) (a0_5 : Int) (a0_6 : Int) (a0_7 : Int) (A0_8 : Option Addr) (c0_8 : Nat) (l0_8 : List (S115)) (a0_9 : Int) (a1 : Int) (a2 : Int) (a3 : Int) (a4 : Int) (r : List (S73)) (w : World) (hr0_1 : Kd.C k105 w A0_1 l0_1.length l0_1) (hc0_1 : l0_1.length ≤ c0_1) (hr0_2 : Kd.C k109 w A0_2 l0_2.length l0_2) (hc0_2 : l0_2.length ≤ c0_2) (hr0_8 : Kd.C k115 w A0_8 l0_8.length l0_8) (hc0_8 : l0_8.length ≤ c0_8) (h : spec_SpeakingSpans.f k a0_0 l0_1 l0_2 a0_3 a0_4 a0_5 a0_6 a0_7 l0_8 a0_9 a1 a2 a3 a4 = some r) :
  Calls Try.prog 10 #[.agg #[.int .i64 a0_0, .slice A0_1 l0_1.length c0_1, .slice A0_2 l0_2.length c0_2, .int .i64 a0_3, .int .i64 a0_4, .int .i64 a0_5, .int .i64 a0_6, .int .i64 a0_7, .slice A0_8 l0_8.length c0_8, .int .i64 a0_9], .int .i64 a1, .int .i64 a2, .int .i64 a3, .int .i64 a4] w fun e w' => ∃ v0_ : Value, e = .returned (v0_) ∧ Kd.R k73 73 w' w.heap.size (fun _ => True) v0_ r ∧ Below w.heap.size w w' := by
 have hu34 := Try.underlying34
 have HR0_1 := Aside0.mk hr0_1
 have HC0_1 := Aside0.mk hc0_1
 clear hr0_1 hc0_1
 have HR0_2 := Aside0.mk hr0_2
 have HC0_2 := Aside0.mk hc0_2
 clear hr0_2 hc0_2
 have HR0_8 := Aside0.mk hr0_8
 have HC0_8 := Aside0.mk hc0_8
 clear hr0_8 hc0_8
 have HB := Aside0.mk (Below.refl w.heap.size w)
 have H := h
 clear h
 unfold spec_SpeakingSpans.f at H
 replace H := bs_ H
 obtain ⟨t252, A6, H⟩ := H
 replace H := bs_ H
 obtain ⟨t255, A7, H⟩ := H
 replace H := bs_ H
 obtain ⟨t258, A8, H⟩ := H
 replace H := bs_ H
 obtain ⟨t261, A9, H⟩ := H
 replace H := bs_ H
 obtain ⟨t264, A10, H⟩ := H
 obtain rfl := Option.some.inj H
 go_enter Try.func10, Try.ntmps10
 try go_wp2_with (first | ((with_reducible refine gd_ 5 ?_); refine bx_ 5 34 #[.int .i64 a0_0, .slice A0_1 l0_1.length c0_1, .slice A0_2 l0_2.length c0_2, .int .i64 a0_3, .int .i64 a0_4, .int .i64 a0_5, .int .i64 a0_6, .int .i64 a0_7, .slice A0_8 l0_8.length c0_8, .int .i64 a0_9] ?_; intro gb251 hg w11 hbox hb; refine sh3_ (below_step (bl_ HB) hb) hbox (ge_ hg (bl_ HB)) ?_; clear HB hb hbox hg; intro HB BK251 GE251))
 refine sh2_ (blk_drew BK251.out) (below_drew1 HB.out) ?_
 clear BK251 HB
 intro BK251 HB
 refine start_ (n := 13) (S := fun w' => Cz10 w' gb251 (.int .i64 a0_0) (.slice A0_1 l0_1.length c0_1) (.slice A0_2 l0_2.length c0_2) (.int .i64 a0_3) (.int .i64 a0_4) (.int .i64 a0_5) (.int .i64 a0_6) (.int .i64 a0_7) (.slice A0_8 l0_8.length c0_8) (.int .i64 a0_9)) (ds := []) #[false, false, false, false, false, false, false, false, false, false, false, false, false] (by kernel_rfl) rfl rfl (cz10_ BK251) (fun hHeld => ?_); refine with_tabW spec_SpeakingSpans.tab1 spec_SpeakingSpans.bits1 (fun HT_ HW_ => ?_)
 generalize w11.drew = w12 at BK251 HB hHeld ⊢
 refine pur_ 1 #[false, true, false, false, false, false, false, false, false, false, false, false, false] (some 13) HT_ ?_
 refine pur_ 2 #[false, true, true, false, false, false, false, false, false, false, false, false, false] (some 14) HT_ ?_
 refine pur_ 3 #[false, true, true, true, false, false, false, false, false, false, false, false, false] (some 15) HT_ ?_
 refine pur_ 4 #[false, true, true, true, true, false, false, false, false, false, false, false, false] (some 16) HT_ ?_
 refine pur_ 7 #[false, true, true, true, true, false, false, true, false, false, false, false, false] (some 19) HT_ ?_
 refine pur_ 8 #[false, true, true, true, true, false, false, true, true, false, false, false, false] (some 20) HT_ ?_
 refine pur_ 9 #[false, true, true, true, true, false, false, true, true, true, false, false, false] (some 21) HT_ ?_
 refine tak_ 0 #[true, true, true, true, true, false, false, true, true, true, false, false, false] (some 12) HT_ HW_ hHeld ?_
 refine tak_ 6 #[true, true, true, true, true, false, true, true, true, true, false, false, false] (some 18) HT_ HW_ hHeld ?_
 refine onc_ 5 #[true, true, true, true, true, true, true, true, true, true, false, false, false] (some 17) HT_ Try.func38 (spec_SureWindows.calls k a0_0 _ _ l0_1 _ _ l0_2 a0_3 a0_4 a0_5 a0_6 a0_7 _ _ l0_8 a0_9 a1 a2 a3 a4 t252 _ (ck_ HR0_1 HB) HC0_1.out (ck_ HR0_2 HB) HC0_2.out (ck_ HR0_8 HB) HC0_8.out A6.out) ?_
 rintro e w13 ⟨v253, rfl, ho0, hb⟩
 refine sh3_ (Kd.R_lower ho0 (below_size (bl1_ HB GE251))) (blk_below (bk_ BK251) hb) (below_step (bl1_ HB GE251) hb) ?_
 clear BK251 HB hb ho0
 intro HO254 BK251 HB
 refine ⟨_, _, rfl, (cz10_ BK251), pt_, fun hHeld => ?_⟩
 refine onc_ 10 #[true, true, true, true, true, true, true, true, true, true, true, false, false] (some 22) HT_ Try.func44 (spec_QuietSpans.calls k a0_0 _ _ l0_1 _ _ l0_2 a0_3 a0_4 a0_5 a0_6 a0_7 _ _ l0_8 a0_9 a1 a3 a4 t255 _ (ck_ HR0_1 HB) HC0_1.out (ck_ HR0_2 HB) HC0_2.out (ck_ HR0_8 HB) HC0_8.out A7.out) ?_
 rintro e w14 ⟨v256, rfl, ho0, hb⟩
 refine sh4_ (Kd.R_elder' (ra_ HO254) (Kd.R_base ho0) hb) (Kd.R_lower (Kd.R_new' ho0 (Kd.R_lt (ra_ HO254))) (below_size (bl1_ HB GE251))) (blk_below (bk_ BK251) hb) (below_step (bl1_ HB GE251) hb) ?_
 clear HO254 BK251 HB hb ho0
 intro HO254 HO257 BK251 HB
 obtain ⟨Ao15, co15, eo15⟩ := Kd.R_slice HO254.out
 (first | subst eo15 | (injection eo15 with f1_ f2_ f3_; have f4_ := f1_.symm; have f5_ := f3_.symm; clear f1_ f2_ f3_; subst f4_; subst f5_))
 obtain ⟨Ao16, co16, eo16⟩ := Kd.R_slice HO257.out
 (first | subst eo16 | (injection eo16 with f1_ f2_ f3_; have f4_ := f1_.symm; have f5_ := f3_.symm; clear f1_ f2_ f3_; subst f4_; subst f5_))
 refine ⟨_, _, rfl, (cz10_ BK251), pt_, fun hHeld => ?_⟩
 refine onc_ 11 #[true, true, true, true, true, true, true, true, true, true, true, true, false] (some 23) HT_ Try.func43 (spec_CutSpans.calls k _ _ t252 _ _ t255 t258 _ (cr_ HO254) (rl_ HO254) (cr_ HO257) (rl_ HO257) A8.out) ?_
 rintro e w17 ⟨v259, rfl, ho0, hb⟩
 refine sh5_ (Kd.R_elder' (ra_ HO254) (Kd.R_base ho0) hb) (Kd.R_elder' (ra_ HO257) (Kd.R_base ho0) hb) (Kd.R_lower (Kd.R_new' (Kd.R_new' ho0 (Kd.R_lt (ra_ HO254))) (Kd.R_lt (ra_ HO257))) (below_size (bl1_ HB GE251))) (blk_below (bk_ BK251) hb) (below_step (bl1_ HB GE251) hb) ?_
 clear HO254 HO257 BK251 HB hb ho0
 intro HO254 HO257 HO260 BK251 HB
 refine ⟨_, _, rfl, (cz10_ BK251), pt_, fun hHeld => ?_⟩
 refine pur_ 12 #[true, true, true, true, true, true, true, true, true, true, true, true, true] (some 11) HT_ ?_
 refine done_ (done_of HT_.out (by kernel_rfl)) ?_
 have hcz18 := cf10_ BK251
 try go_wp2_with (first | ((with_reducible refine gate_callee (f := 44) rfl ?_); refine gl_ 29 Try.func44 (spec_QuietSpans.calls k a0_0 _ _ l0_1 _ _ l0_2 a0_3 a0_4 a0_5 a0_6 a0_7 _ _ l0_8 a0_9 a2 a3 a4 t261 _ (ck_ HR0_1 HB) HC0_1.out (ck_ HR0_2 HB) HC0_2.out (ck_ HR0_8 HB) HC0_8.out A9.out) ?_; rintro e w19 ⟨v262, rfl, ho0, hb⟩; refine ⟨_, rfl, sh6_ (Kd.R_elder' (ra_ HO254) (Kd.R_base ho0) hb) (Kd.R_elder' (ra_ HO257) (Kd.R_base ho0) hb) (Kd.R_elder' (ra_ HO260) (Kd.R_base ho0) hb) (Kd.R_lower (Kd.R_new' (Kd.R_new' (Kd.R_new' ho0 (Kd.R_lt (ra_ HO254))) (Kd.R_lt (ra_ HO257))) (Kd.R_lt (ra_ HO260))) (below_size (bl1_ HB GE251))) (blk_below (bk_ BK251) hb) (below_step (bl1_ HB GE251) hb) ?_⟩; clear HO254 HO257 HO260 BK251 HB hb ho0; intro HO254 HO257 HO260 HO263 BK251 HB; obtain ⟨Ao20, co20, eo20⟩ := Kd.R_slice HO260.out; subst eo20; obtain ⟨Ao21, co21, eo21⟩ := Kd.R_slice HO263.out; subst eo21) | ((with_reducible refine gate_callee (f := 43) rfl ?_); refine gl_ 30 Try.func43 (spec_CutSpans.calls k _ _ t258 _ _ t261 t264 _ (cr_ HO260) (rl_ HO260) (cr_ HO263) (rl_ HO263) A10.out) ?_; rintro e w22 ⟨v265, rfl, ho0, hb⟩; refine ⟨_, rfl, sh7_ (Kd.R_elder' (ra_ HO254) (Kd.R_base ho0) hb) (Kd.R_elder' (ra_ HO257) (Kd.R_base ho0) hb) (Kd.R_elder' (ra_ HO260) (Kd.R_base ho0) hb) (Kd.R_elder' (ra_ HO263) (Kd.R_base ho0) hb) (Kd.R_lower (Kd.R_new' (Kd.R_new' (Kd.R_new' (Kd.R_new' ho0 (Kd.R_lt (ra_ HO254))) (Kd.R_lt (ra_ HO257))) (Kd.R_lt (ra_ HO260))) (Kd.R_lt (ra_ HO263))) (below_size (bl1_ HB GE251))) (blk_below (bk_ BK251) hb) (below_step (bl1_ HB GE251) hb) ?_⟩; clear HO254 HO257 HO260 HO263 BK251 HB hb ho0; intro HO254 HO257 HO260 HO263 HO266 BK251 HB))
 go_ret
 exact ⟨_, er_, by (with_reducible repeat (first | apply Kd.R_alloc | apply Kd.R_drewN | apply Kd.R_drew)); exact Kd.R_mono HO266.out (fun _ hk => trivial), bl1_ HB GE251⟩

/-! ### laws_toSat: function 82 -/
def laws_toSat.f (a0_0 : Int) (a0_1 : Int) (a0_2 : Int) (a0_3 : Int) : Option (Int × Int × Int × Int) := some (a0_0, a0_1, a0_2, a0_3)
set_option maxHeartbeats 8000000 in
set_option maxRecDepth 100000 in
theorem laws_toSat.calls (a0_0 : Int) (a0_1 : Int) (a0_2 : Int) (a0_3 : Int) (r1 : Int) (r2 : Int) (r3 : Int) (r4 : Int) (w : World) (h : laws_toSat.f a0_0 a0_1 a0_2 a0_3 = some (r1, r2, r3, r4)) :
  Calls Try.prog 82 #[.agg #[.int .i64 a0_0, .int .i64 a0_1, .int .i64 a0_2, .int .i64 a0_3]] w fun e w' => e = .returned (.agg #[.int .i64 r1, .int .i64 r2, .int .i64 r3, .int .i64 r4]) ∧ Below w.heap.size w w' := by
 have hu107 := Try.underlying107
 have hu105 := Try.underlying105
 have HB := Aside0.mk (Below.refl w.heap.size w)
 have H := h
 clear h
 unfold laws_toSat.f at H
 simp only [Option.some.injEq, Prod.mk.injEq] at H
 obtain ⟨rfl, rfl, rfl, rfl⟩ := H
 go_enter Try.func82, Try.ntmps82
 go_wp2_with (first | ((with_reducible refine gd_ 1 ?_); refine bx_ 1 107 #[.int .i64 a0_0, .int .i64 a0_1, .int .i64 a0_2, .int .i64 a0_3] ?_; intro gb267 hg w2 hbox hb; refine sh3_ (below_step (bl_ HB) hb) hbox (ge_ hg (bl_ HB)) ?_; clear HB hb hbox hg; intro HB BK267 GE267) | ((with_reducible refine gd_ 2 ?_); refine bx_ 2 105 #[.int .i64 0, .int .i64 0, .int .i64 0, .int .i64 0] ?_; intro gb268 hg w3 hbox hb; refine sh6_ (blk_below (bk_ BK267) hb) (below_step (bl1_ HB GE267) hb) hbox (ge_ hg (bl1_ HB GE267)) (nl_ hg (bk_ BK267)) (ng_ hg (bk_ BK267)) ?_; clear BK267 HB hb hbox hg; intro BK267 HB BK268 GE268 NB267_268 NB268_267) | ((with_reducible refine gd_ 3 ?_); refine bx_ 3 105 #[.int .i64 0, .int .i64 0, .int .i64 0, .int .i64 0] ?_; intro gb269 hg w4 hbox hb; refine sh9_ (blk_below (bk_ BK267) hb) (blk_below (bk_ BK268) hb) (below_step (bl2_ HB GE267 GE268) hb) hbox (ge_ hg (bl2_ HB GE267 GE268)) (nl_ hg (bk_ BK267)) (ng_ hg (bk_ BK267)) (nl_ hg (bk_ BK268)) (ng_ hg (bk_ BK268)) ?_; clear BK267 BK268 HB hb hbox hg; intro BK267 BK268 HB BK269 GE269 NB267_269 NB269_267 NB268_269 NB269_268; have hnb5 := NB267_268.out; have hnc5 := NB268_267.out; have hnb6 := NB267_269.out; have hnc6 := NB269_267.out; have hcz7 := cf4_ BK267; have hnb8 := NB269_268.out; have hnc8 := NB268_269.out; have hcz9 := cf4_ BK269; have hcz10 := cf4_ BK268))
 refine bodyPost_ret (results_cell_row rfl _ _ gb268 105 #[.int .i64 a0_0, .int .i64 a0_1, .int .i64 a0_2, .int .i64 a0_3] (0, 0) _ rfl (bp_ BK268) Try.underlying105 rfl (by kernel_rfl)) rfl ?_
 exact ⟨er_, bl3_ HB GE267 GE268 GE269⟩

/-! ### laws_toSatS: function 45 -/
def laws_toSatS.l0 : Nat → List (S107) → List (S105) → Int → Option ((List (S105)))
 | 0, _, _, _ => none
 | k + 1, x0, x3, x4 => if x4 < (x0.length : Int) then (if 0 ≤ x4 then ((laws_toSat.f ((rd_T107 x0 x4).f0) ((rd_T107 x0 x4).f1) ((rd_T107 x0 x4).f2) ((rd_T107 x0 x4).f3)).bind fun bt274 => (if x4 < (x3.length : Int) then (laws_toSatS.l0 k x0 (x3.set (x4 : Int).toNat (⟨bt274.1, bt274.2.1, bt274.2.2.1, bt274.2.2.2⟩ : S105)) (wrap64 (x4 + 1))) else (none))) else (none)) else (some x3)
def laws_toSatS.f (k : Nat) (l0 : List (S107)) : Option ((List (S105))) := if 0 ≤ (l0.length : Int) then (if ((l0.length : Int) : Int).toNat ≤ 8796093022208 then (laws_toSatS.l0 k l0 (List.replicate ((l0.length : Int) : Int).toNat z105) 0) else (none)) else (none)
theorem laws_toSatS.mono_l : ∀ k, (∀ y0 y1 y2, LeO (laws_toSatS.l0 k y0 y1 y2) (laws_toSatS.l0 (k + 1) y0 y1 y2))
 | 0 => fun _ _ _ r h => by simp [laws_toSatS.l0] at h
 | k + 1 => by
  have ih0 := laws_toSatS.mono_l k
  ·intro y0 y1 y2
   unfold laws_toSatS.l0
   repeat' first | (with_reducible first | exact ih0 _ _ _ | exact LeO.refl _ | exact LeO.none _ | refine LeO.ite ?_ ?_ | refine LeO.bind ?_ (fun _ => ?_)) | exact LeO.none _ | refine LeO.ite ?_ ?_ | refine LeO.bind ?_ (fun _ => ?_)
theorem laws_toSatS.mono : ∀ a0 k, LeO (laws_toSatS.f k a0) (laws_toSatS.f (k + 1) a0) := by
 intro a0 k
 have ih0 := laws_toSatS.mono_l k
 unfold laws_toSatS.f
 repeat' first | (with_reducible first | exact ih0 _ _ _ | exact LeO.refl _ | exact LeO.none _ | refine LeO.ite ?_ ?_ | refine LeO.bind ?_ (fun _ => ?_)) | exact LeO.none _ | refine LeO.ite ?_ ?_ | refine LeO.bind ?_ (fun _ => ?_)
set_option maxHeartbeats 8000000 in
set_option maxRecDepth 100000 in
theorem laws_toSatS.calls (k : Nat) (A0 : Option Addr) (c0 : Nat) (l0 : List (S107)) (r : List (S105)) (w : World) (hr0 : Kd.C k107 w A0 l0.length l0) (hc0 : l0.length ≤ c0) (h : laws_toSatS.f k l0 = some r) :
  Calls Try.prog 45 #[.slice A0 l0.length c0] w fun e w' => ∃ v0_ : Value, e = .returned (v0_) ∧ Kd.R k105 105 w' w.heap.size (fun _ => True) v0_ r ∧ Below w.heap.size w w' := by
 have hu107 := Try.underlying107
 have hu105 := Try.underlying105
 have HR0 := Aside0.mk hr0
 have HC0 := Aside0.mk hc0
 clear hr0 hc0
 have HB := Aside0.mk (Below.refl w.heap.size w)
 have H := h
 clear h
 unfold laws_toSatS.f at H
 replace H := ifn_ H
 obtain ⟨c2, H⟩ := H
 have c2b0 := eq_true c2
 have c2b1 := decide_eq_true c2
 clear c2
 replace H := ifn_ H
 obtain ⟨c3, H⟩ := H
 have c3b0 := eq_true c3
 have c3b1 := decide_eq_true c3
 clear c3
 replace H : ∃ y_ : List (S105), Aside0 (y_ = (List.replicate ((l0.length : Int) : Int).toNat z105)) ∧ (laws_toSatS.l0 k l0 y_ 0) = some r := ⟨_, ⟨rfl⟩, yh_ H⟩
 obtain ⟨y270, Ny270, H⟩ := H
 have H' := Aside0.mk H
 clear H
 go_enter Try.func45, Try.ntmps45
 go_wp2_with (first | ((with_reducible refine gate_dst (N := 7) rfl ?_); refine Kd.R_make k105 _ 105 rfl (N := 7) rfl 30 _ _ rfl (l0.length : Int) rfl rfl Try.underlying30 (.agg #[(.int .i64 0), (.int .i64 0), (.int .i64 0), (.int .i64 0)]) 32 info105 rfl (by decide) (by omega) z105 (ok := fun _ => True) (okp := fun _ => True) (k105_mkM _ _ _ z105 ) (fun _ hk => hk) trivial od_ (Nat.le_trans (Nat.mul_le_mul_right _ (od_ : (l0.length : Int).toNat ≤ 8796093022208)) (by omega)) (Below.refl _ _) (Nat.le_refl _) ?_; intro v271 w4 ho5 hb hg_ hnew_; clear hg_ hnew_; (first | rw [← Ny270.out] at ho5 | (simp only [Int.reduceToNat] at ho5; rw [← Ny270.out] at ho5)); refine sh2_ (Kd.R_lower ho5 (below_size (bl_ HB))) (below_step (bl_ HB) hb) ?_; clear HB hb ho5; intro HO272 HB))
 go_loopg [4] k (fun kq v4 w' => ∃ (x3_1 : List (S105)) (x4_1 : Int), v4 = .int .i64 x4_1 ∧ Aside0 (laws_toSatS.l0 kq l0 x3_1 x4_1 = some r) ∧ Aside0 (kq ≤ k) ∧ Aside0 (Kd.R k105 105 w' w.heap.size (fun _ => True) v271 x3_1) ∧ Aside0 (Below w.heap.size w w'))
 case atStart => exact ⟨(y270), (0), (by first | rfl | (simp; done) | (simp [*]; done)), H', ⟨Nat.le_refl _⟩, ⟨ra_ HO272⟩, ⟨bl_ HB⟩⟩
 case round =>
  clear H'
  try clear c2
  try clear c2b0
  try clear c2b1
  try clear p2
  try clear c3
  try clear c3b0
  try clear c3b1
  try clear c4
  obtain ⟨x3_1, x4_1, rfl, HA, HK1, HO_3, HB⟩ := hrel
  cases gk with
  | zero => exact absurd HA.out (by simp [laws_toSatS.l0])
  | succ k1 =>
   have H := HA.out
   clear HA
   simp only [laws_toSatS.l0] at H
   by_cases c6 : x4_1 < (l0.length : Int)
   ·rw [if_pos c6] at H
    have c6b0 := decide_eq_true c6
    clear c6
    replace H := ifn_ H
    obtain ⟨c7, H⟩ := H
    have c7b0 := decide_eq_true c7
    clear c7
    replace H := bs_ H
    obtain ⟨⟨t274, t275, t276, t277⟩, A8, H⟩ := H
    dsimp only at H
    replace H := ifn_ H
    obtain ⟨c9, H⟩ := H
    have c9b0 := decide_eq_true c9
    clear c9
    replace H : ∃ y_ : List (S105), Aside0 (y_ = (x3_1.set (x4_1 : Int).toNat (⟨t274, t275, t276, t277⟩ : S105))) ∧ (laws_toSatS.l0 k1 l0 y_ (wrap64 (x4_1 + 1))) = some r := ⟨_, ⟨rfl⟩, yh_ H⟩
    obtain ⟨y278, Ny278, H⟩ := H
    have H' := Aside0.mk H
    clear H
    have p273 : 0 ≤ (x4_1 : Int) := od_
    have q273 : x4_1 < (l0.length : Int) := od_
    obtain ⟨ad273, e273, hx273_0, hx273_1, hx273_2, hx273_3⟩ := at_T107 HR0.out x4_1 p273 q273
    cases e273
    replace hx273_0 := hbc_ HB hx273_0
    replace hx273_1 := hbc_ HB hx273_1
    replace hx273_2 := hbc_ HB hx273_2
    replace hx273_3 := hbc_ HB hx273_3
    replace p273 := eq_true p273
    replace q273 := eq_true q273
    go_wp2_with (first | ((with_reducible refine gate_callee (f := 82) rfl ?_); refine gl_ 20 Try.func82 (laws_toSat.calls ((rd_T107 l0 x4_1).f0) ((rd_T107 l0 x4_1).f1) ((rd_T107 l0 x4_1).f2) ((rd_T107 l0 x4_1).f3) t274 t275 t276 t277 _ A8.out) ?_; rintro e w11 ⟨rfl, hb⟩; refine ⟨_, rfl, sh2_ (Kd.R_below (ra_ HO_3) hb) (below_step (bl_ HB) hb) ?_⟩; clear HO_3 HB hb; intro HO_3 HB; have p10 : 0 ≤ (x4_1 : Int) := od_; have q10 : (x4_1 : Int) < ((x3_1.length : Int) : Int) := od_; obtain ⟨go10, co10, eo10, gb10, gl10, cl10, HG10⟩ := Kd.R_form HO_3.out (by omega); (first | cases eo10 | (injection eo10 with ea_ en_ ec_; (first | subst ea_ | (injection ea_ with ea_; subst ea_)); subst ec_; clear en_)); have GB10 := Aside0.mk gb10; have GG10 := Aside0.mk HG10; clear gb10 gl10 HG10; obtain ⟨ce10, hcl10, hM10, hcc10, hfr10⟩ := Kd.R_elem HO_3.out z105 (x4_1 : Int) p10 q10; obtain rfl := k105_openM hM10; have hx10_0 : w11.cell? ⟨go10, (x4_1 : Int).toNat * 4, none⟩ = some (.int .i64 ((rd_T105 x3_1 x4_1).f0)) := hcc10 0 _ rfl; have hx10_1 : w11.cell? ⟨go10, (x4_1 : Int).toNat * 4 + 1, none⟩ = some (.int .i64 ((rd_T105 x3_1 x4_1).f1)) := hcc10 1 _ rfl; have hx10_2 : w11.cell? ⟨go10, (x4_1 : Int).toNat * 4 + 2, none⟩ = some (.int .i64 ((rd_T105 x3_1 x4_1).f2)) := hcc10 2 _ rfl; have hx10_3 : w11.cell? ⟨go10, (x4_1 : Int).toNat * 4 + 3, none⟩ = some (.int .i64 ((rd_T105 x3_1 x4_1).f3)) := hcc10 3 _ rfl; have hf10_0 : w11.frozen? ⟨go10, (x4_1 : Int).toNat * 4, none⟩ = false := hfr10 0; have hf10_1 : w11.frozen? ⟨go10, (x4_1 : Int).toNat * 4 + 1, none⟩ = false := hfr10 1; have hf10_2 : w11.frozen? ⟨go10, (x4_1 : Int).toNat * 4 + 2, none⟩ = false := hfr10 2; have hf10_3 : w11.frozen? ⟨go10, (x4_1 : Int).toNat * 4 + 3, none⟩ = false := hfr10 3; clear hcl10 hcc10 hfr10 hM10; replace p10 := eq_true p10; replace q10 := eq_true q10; have HX12 := Aside0.mk (show Kd.R k105 105 w11 w.heap.size (fun _ => True) (.slice (some ⟨go10, 0, none⟩) x3_1.length co10) x3_1 from (ra_ HO_3)); obtain ⟨ce12, hcl12, hM12, hcc12, hfr12⟩ := Kd.R_elem HX12.out z105 (x4_1 : Int) od_ (by have h_ : (x4_1 : Int) < ((x3_1.length : Int) : Int) := od_; first | exact h_ | (have e_ := (Kd.R_reads' HO_3.out).1; omega) | simpa using h_); obtain rfl := k105_openM hM12; have HP12 := Kd.R_seg HX12.out (x4_1 : Int) od_ (by have h_ : (x4_1 : Int) < ((x3_1.length : Int) : Int) := od_; first | exact h_ | (have e_ := (Kd.R_reads' HO_3.out).1; omega) | simpa using h_) (seg := [.int .i64 t274, .int .i64 t275, .int .i64 t276, .int .i64 t277]) (j := 0) hcl12 hcc12 (show 4 ≤ 4 from by decide) (x' := (⟨t274, t275, t276, t277⟩ : S105)) (k105_mkM _ _ _ (⟨t274, t275, t276, t277⟩ : S105) ) (fun _ hk => hk); have hx12_0 := hcc12 0 _ rfl; (try simp only [show (k105).sz = 4 from rfl, Nat.mul_one, Nat.add_zero] at hx12_0); have hf12_0 := hfr12 0; (try simp only [show (k105).sz = 4 from rfl, Nat.mul_one, Nat.add_zero] at hf12_0); have hx12_1 := hcc12 1 _ rfl; (try simp only [show (k105).sz = 4 from rfl, Nat.mul_one, Nat.add_zero] at hx12_1); have hf12_1 := hfr12 1; (try simp only [show (k105).sz = 4 from rfl, Nat.mul_one, Nat.add_zero] at hf12_1); have hx12_2 := hcc12 2 _ rfl; (try simp only [show (k105).sz = 4 from rfl, Nat.mul_one, Nat.add_zero] at hx12_2); have hf12_2 := hfr12 2; (try simp only [show (k105).sz = 4 from rfl, Nat.mul_one, Nat.add_zero] at hf12_2); have hx12_3 := hcc12 3 _ rfl; (try simp only [show (k105).sz = 4 from rfl, Nat.mul_one, Nat.add_zero] at hx12_3); have hf12_3 := hfr12 3; (try simp only [show (k105).sz = 4 from rfl, Nat.mul_one, Nat.add_zero] at hf12_3); clear hcl12 hcc12 hfr12 hM12) | ((with_reducible refine gate_store (t := 105) (p := 21) rfl ?_); refine store_event (t := 105) (p := 21) (v := ?vo_w13) (w1 := ((((w11.setCell ⟨go10, (x4_1 : Int).toNat * 4, none⟩ (.int .i64 t274)).setCell ⟨go10, (x4_1 : Int).toNat * 4 + 1, none⟩ (.int .i64 t275)).setCell ⟨go10, (x4_1 : Int).toNat * 4 + 2, none⟩ (.int .i64 t276)).setCell ⟨go10, (x4_1 : Int).toNat * 4 + 3, none⟩ (.int .i64 t277))) ?hg ?ho ?hn ?hr ?_; (case ho => rfl); (case hg => rfl); (case hn => rfl); (case hr => first | (go_simp; done) | (go_simp; rfl)); intro w13 hw; have hg : w11.grownBy w13 (some go10) := (by rw [hw]; exact HP12.2); have hp_ : Kd.R k105 105 w13 w.heap.size (fun _ => True) (.slice (some ⟨go10, 0, none⟩) x3_1.length co10) y278 := (by rw [hw, Ny278.out]; exact HP12.1); clear HP12; refine sh2_ hp_ ((by rw [hw]; exact below_set (below_set (below_set (below_set (HB.out) GB10.out) GB10.out) GB10.out) GB10.out : Below w.heap.size w w13)) ?_; clear HO_3 HB; intro HO_3 HB; clear hg hw hp_))
    go_roundg k1
    case measure => have := HK1.out; omega
    case rel => exact ⟨(y278), (wrap64 (x4_1 + 1)), (by first | rfl | (simp; done) | (simp [*]; done)), H', ⟨by have := HK1.out; omega⟩, ⟨ra_ HO_3⟩, ⟨bl_ HB⟩⟩
   ·rw [if_neg c6] at H
    have c6b0 := decide_eq_false c6
    clear c6
    obtain rfl := Option.some.inj H
    go_wp2
    go_ret
    exact ⟨_, er_, ra_ HO_3, bl_ HB⟩

/-! ### laws_toSite: function 83 -/
def laws_toSite.f (a0_0 : Int) (a0_1 : Int) (a0_2 : Int) : Option (Int × Int × Int) := some (a0_0, a0_1, a0_2)
set_option maxHeartbeats 8000000 in
set_option maxRecDepth 100000 in
theorem laws_toSite.calls (a0_0 : Int) (a0_1 : Int) (a0_2 : Int) (r1 : Int) (r2 : Int) (r3 : Int) (w : World) (h : laws_toSite.f a0_0 a0_1 a0_2 = some (r1, r2, r3)) :
  Calls Try.prog 83 #[.agg #[.int .i64 a0_0, .int .i64 a0_1, .int .i64 a0_2]] w fun e w' => e = .returned (.agg #[.int .i64 r1, .int .i64 r2, .int .i64 r3]) ∧ Below w.heap.size w w' := by
 have hu111 := Try.underlying111
 have hu109 := Try.underlying109
 have HB := Aside0.mk (Below.refl w.heap.size w)
 have H := h
 clear h
 unfold laws_toSite.f at H
 simp only [Option.some.injEq, Prod.mk.injEq] at H
 obtain ⟨rfl, rfl, rfl⟩ := H
 go_enter Try.func83, Try.ntmps83
 go_wp2_with (first | ((with_reducible refine gd_ 1 ?_); refine bx_ 1 111 #[.int .i64 a0_0, .int .i64 a0_1, .int .i64 a0_2] ?_; intro gb279 hg w2 hbox hb; refine sh3_ (below_step (bl_ HB) hb) hbox (ge_ hg (bl_ HB)) ?_; clear HB hb hbox hg; intro HB BK279 GE279) | ((with_reducible refine gd_ 2 ?_); refine bx_ 2 109 #[.int .i64 0, .int .i64 0, .int .i64 0] ?_; intro gb280 hg w3 hbox hb; refine sh6_ (blk_below (bk_ BK279) hb) (below_step (bl1_ HB GE279) hb) hbox (ge_ hg (bl1_ HB GE279)) (nl_ hg (bk_ BK279)) (ng_ hg (bk_ BK279)) ?_; clear BK279 HB hb hbox hg; intro BK279 HB BK280 GE280 NB279_280 NB280_279) | ((with_reducible refine gd_ 3 ?_); refine bx_ 3 109 #[.int .i64 0, .int .i64 0, .int .i64 0] ?_; intro gb281 hg w4 hbox hb; refine sh9_ (blk_below (bk_ BK279) hb) (blk_below (bk_ BK280) hb) (below_step (bl2_ HB GE279 GE280) hb) hbox (ge_ hg (bl2_ HB GE279 GE280)) (nl_ hg (bk_ BK279)) (ng_ hg (bk_ BK279)) (nl_ hg (bk_ BK280)) (ng_ hg (bk_ BK280)) ?_; clear BK279 BK280 HB hb hbox hg; intro BK279 BK280 HB BK281 GE281 NB279_281 NB281_279 NB280_281 NB281_280; have hnb5 := NB279_280.out; have hnc5 := NB280_279.out; have hnb6 := NB279_281.out; have hnc6 := NB281_279.out; have hcz7 := cf3_ BK279; have hnb8 := NB281_280.out; have hnc8 := NB280_281.out; have hcz9 := cf3_ BK281; have hcz10 := cf3_ BK280))
 refine bodyPost_ret (results_cell_row rfl _ _ gb280 109 #[.int .i64 a0_0, .int .i64 a0_1, .int .i64 a0_2] (0, 0) _ rfl (bp_ BK280) Try.underlying109 rfl (by kernel_rfl)) rfl ?_
 exact ⟨er_, bl3_ HB GE279 GE280 GE281⟩

/-! ### laws_toSiteS: function 46 -/
def laws_toSiteS.l0 : Nat → List (S111) → List (S109) → Int → Option ((List (S109)))
 | 0, _, _, _ => none
 | k + 1, x0, x3, x4 => if x4 < (x0.length : Int) then (if 0 ≤ x4 then ((laws_toSite.f ((rd_T111 x0 x4).f0) ((rd_T111 x0 x4).f1) ((rd_T111 x0 x4).f2)).bind fun bt286 => (if x4 < (x3.length : Int) then (laws_toSiteS.l0 k x0 (x3.set (x4 : Int).toNat (⟨bt286.1, bt286.2.1, bt286.2.2⟩ : S109)) (wrap64 (x4 + 1))) else (none))) else (none)) else (some x3)
def laws_toSiteS.f (k : Nat) (l0 : List (S111)) : Option ((List (S109))) := if 0 ≤ (l0.length : Int) then (if ((l0.length : Int) : Int).toNat ≤ 11728124029610 then (laws_toSiteS.l0 k l0 (List.replicate ((l0.length : Int) : Int).toNat z109) 0) else (none)) else (none)
theorem laws_toSiteS.mono_l : ∀ k, (∀ y0 y1 y2, LeO (laws_toSiteS.l0 k y0 y1 y2) (laws_toSiteS.l0 (k + 1) y0 y1 y2))
 | 0 => fun _ _ _ r h => by simp [laws_toSiteS.l0] at h
 | k + 1 => by
  have ih0 := laws_toSiteS.mono_l k
  ·intro y0 y1 y2
   unfold laws_toSiteS.l0
   repeat' first | (with_reducible first | exact ih0 _ _ _ | exact LeO.refl _ | exact LeO.none _ | refine LeO.ite ?_ ?_ | refine LeO.bind ?_ (fun _ => ?_)) | exact LeO.none _ | refine LeO.ite ?_ ?_ | refine LeO.bind ?_ (fun _ => ?_)
theorem laws_toSiteS.mono : ∀ a0 k, LeO (laws_toSiteS.f k a0) (laws_toSiteS.f (k + 1) a0) := by
 intro a0 k
 have ih0 := laws_toSiteS.mono_l k
 unfold laws_toSiteS.f
 repeat' first | (with_reducible first | exact ih0 _ _ _ | exact LeO.refl _ | exact LeO.none _ | refine LeO.ite ?_ ?_ | refine LeO.bind ?_ (fun _ => ?_)) | exact LeO.none _ | refine LeO.ite ?_ ?_ | refine LeO.bind ?_ (fun _ => ?_)
set_option maxHeartbeats 8000000 in
set_option maxRecDepth 100000 in
theorem laws_toSiteS.calls (k : Nat) (A0 : Option Addr) (c0 : Nat) (l0 : List (S111)) (r : List (S109)) (w : World) (hr0 : Kd.C k111 w A0 l0.length l0) (hc0 : l0.length ≤ c0) (h : laws_toSiteS.f k l0 = some r) :
  Calls Try.prog 46 #[.slice A0 l0.length c0] w fun e w' => ∃ v0_ : Value, e = .returned (v0_) ∧ Kd.R k109 109 w' w.heap.size (fun _ => True) v0_ r ∧ Below w.heap.size w w' := by
 have hu111 := Try.underlying111
 have hu109 := Try.underlying109
 have HR0 := Aside0.mk hr0
 have HC0 := Aside0.mk hc0
 clear hr0 hc0
 have HB := Aside0.mk (Below.refl w.heap.size w)
 have H := h
 clear h
 unfold laws_toSiteS.f at H
 replace H := ifn_ H
 obtain ⟨c2, H⟩ := H
 have c2b0 := eq_true c2
 have c2b1 := decide_eq_true c2
 clear c2
 replace H := ifn_ H
 obtain ⟨c3, H⟩ := H
 have c3b0 := eq_true c3
 have c3b1 := decide_eq_true c3
 clear c3
 replace H : ∃ y_ : List (S109), Aside0 (y_ = (List.replicate ((l0.length : Int) : Int).toNat z109)) ∧ (laws_toSiteS.l0 k l0 y_ 0) = some r := ⟨_, ⟨rfl⟩, yh_ H⟩
 obtain ⟨y282, Ny282, H⟩ := H
 have H' := Aside0.mk H
 clear H
 go_enter Try.func46, Try.ntmps46
 go_wp2_with (first | ((with_reducible refine gate_dst (N := 7) rfl ?_); refine Kd.R_make k109 _ 109 rfl (N := 7) rfl 31 _ _ rfl (l0.length : Int) rfl rfl Try.underlying31 (.agg #[(.int .i64 0), (.int .i64 0), (.int .i64 0)]) 24 info109 rfl (by decide) (by omega) z109 (ok := fun _ => True) (okp := fun _ => True) (k109_mkM _ _ _ z109 ) (fun _ hk => hk) trivial od_ (Nat.le_trans (Nat.mul_le_mul_right _ (od_ : (l0.length : Int).toNat ≤ 11728124029610)) (by omega)) (Below.refl _ _) (Nat.le_refl _) ?_; intro v283 w4 ho5 hb hg_ hnew_; clear hg_ hnew_; (first | rw [← Ny282.out] at ho5 | (simp only [Int.reduceToNat] at ho5; rw [← Ny282.out] at ho5)); refine sh2_ (Kd.R_lower ho5 (below_size (bl_ HB))) (below_step (bl_ HB) hb) ?_; clear HB hb ho5; intro HO284 HB))
 go_loopg [4] k (fun kq v4 w' => ∃ (x3_1 : List (S109)) (x4_1 : Int), v4 = .int .i64 x4_1 ∧ Aside0 (laws_toSiteS.l0 kq l0 x3_1 x4_1 = some r) ∧ Aside0 (kq ≤ k) ∧ Aside0 (Kd.R k109 109 w' w.heap.size (fun _ => True) v283 x3_1) ∧ Aside0 (Below w.heap.size w w'))
 case atStart => exact ⟨(y282), (0), (by first | rfl | (simp; done) | (simp [*]; done)), H', ⟨Nat.le_refl _⟩, ⟨ra_ HO284⟩, ⟨bl_ HB⟩⟩
 case round =>
  clear H'
  try clear c2
  try clear c2b0
  try clear c2b1
  try clear p2
  try clear c3
  try clear c3b0
  try clear c3b1
  try clear c4
  obtain ⟨x3_1, x4_1, rfl, HA, HK1, HO_3, HB⟩ := hrel
  cases gk with
  | zero => exact absurd HA.out (by simp [laws_toSiteS.l0])
  | succ k1 =>
   have H := HA.out
   clear HA
   simp only [laws_toSiteS.l0] at H
   by_cases c6 : x4_1 < (l0.length : Int)
   ·rw [if_pos c6] at H
    have c6b0 := decide_eq_true c6
    clear c6
    replace H := ifn_ H
    obtain ⟨c7, H⟩ := H
    have c7b0 := decide_eq_true c7
    clear c7
    replace H := bs_ H
    obtain ⟨⟨t286, t287, t288⟩, A8, H⟩ := H
    dsimp only at H
    replace H := ifn_ H
    obtain ⟨c9, H⟩ := H
    have c9b0 := decide_eq_true c9
    clear c9
    replace H : ∃ y_ : List (S109), Aside0 (y_ = (x3_1.set (x4_1 : Int).toNat (⟨t286, t287, t288⟩ : S109))) ∧ (laws_toSiteS.l0 k1 l0 y_ (wrap64 (x4_1 + 1))) = some r := ⟨_, ⟨rfl⟩, yh_ H⟩
    obtain ⟨y289, Ny289, H⟩ := H
    have H' := Aside0.mk H
    clear H
    have p285 : 0 ≤ (x4_1 : Int) := od_
    have q285 : x4_1 < (l0.length : Int) := od_
    obtain ⟨ad285, e285, hx285_0, hx285_1, hx285_2⟩ := at_T111 HR0.out x4_1 p285 q285
    cases e285
    replace hx285_0 := hbc_ HB hx285_0
    replace hx285_1 := hbc_ HB hx285_1
    replace hx285_2 := hbc_ HB hx285_2
    replace p285 := eq_true p285
    replace q285 := eq_true q285
    go_wp2_with (first | ((with_reducible refine gate_callee (f := 83) rfl ?_); refine gl_ 20 Try.func83 (laws_toSite.calls ((rd_T111 l0 x4_1).f0) ((rd_T111 l0 x4_1).f1) ((rd_T111 l0 x4_1).f2) t286 t287 t288 _ A8.out) ?_; rintro e w11 ⟨rfl, hb⟩; refine ⟨_, rfl, sh2_ (Kd.R_below (ra_ HO_3) hb) (below_step (bl_ HB) hb) ?_⟩; clear HO_3 HB hb; intro HO_3 HB; have p10 : 0 ≤ (x4_1 : Int) := od_; have q10 : (x4_1 : Int) < ((x3_1.length : Int) : Int) := od_; obtain ⟨go10, co10, eo10, gb10, gl10, cl10, HG10⟩ := Kd.R_form HO_3.out (by omega); (first | cases eo10 | (injection eo10 with ea_ en_ ec_; (first | subst ea_ | (injection ea_ with ea_; subst ea_)); subst ec_; clear en_)); have GB10 := Aside0.mk gb10; have GG10 := Aside0.mk HG10; clear gb10 gl10 HG10; obtain ⟨ce10, hcl10, hM10, hcc10, hfr10⟩ := Kd.R_elem HO_3.out z109 (x4_1 : Int) p10 q10; obtain rfl := k109_openM hM10; have hx10_0 : w11.cell? ⟨go10, (x4_1 : Int).toNat * 3, none⟩ = some (.int .i64 ((rd_T109 x3_1 x4_1).f0)) := hcc10 0 _ rfl; have hx10_1 : w11.cell? ⟨go10, (x4_1 : Int).toNat * 3 + 1, none⟩ = some (.int .i64 ((rd_T109 x3_1 x4_1).f1)) := hcc10 1 _ rfl; have hx10_2 : w11.cell? ⟨go10, (x4_1 : Int).toNat * 3 + 2, none⟩ = some (.int .i64 ((rd_T109 x3_1 x4_1).f2)) := hcc10 2 _ rfl; have hf10_0 : w11.frozen? ⟨go10, (x4_1 : Int).toNat * 3, none⟩ = false := hfr10 0; have hf10_1 : w11.frozen? ⟨go10, (x4_1 : Int).toNat * 3 + 1, none⟩ = false := hfr10 1; have hf10_2 : w11.frozen? ⟨go10, (x4_1 : Int).toNat * 3 + 2, none⟩ = false := hfr10 2; clear hcl10 hcc10 hfr10 hM10; replace p10 := eq_true p10; replace q10 := eq_true q10; have HX12 := Aside0.mk (show Kd.R k109 109 w11 w.heap.size (fun _ => True) (.slice (some ⟨go10, 0, none⟩) x3_1.length co10) x3_1 from (ra_ HO_3)); obtain ⟨ce12, hcl12, hM12, hcc12, hfr12⟩ := Kd.R_elem HX12.out z109 (x4_1 : Int) od_ (by have h_ : (x4_1 : Int) < ((x3_1.length : Int) : Int) := od_; first | exact h_ | (have e_ := (Kd.R_reads' HO_3.out).1; omega) | simpa using h_); obtain rfl := k109_openM hM12; have HP12 := Kd.R_seg HX12.out (x4_1 : Int) od_ (by have h_ : (x4_1 : Int) < ((x3_1.length : Int) : Int) := od_; first | exact h_ | (have e_ := (Kd.R_reads' HO_3.out).1; omega) | simpa using h_) (seg := [.int .i64 t286, .int .i64 t287, .int .i64 t288]) (j := 0) hcl12 hcc12 (show 3 ≤ 3 from by decide) (x' := (⟨t286, t287, t288⟩ : S109)) (k109_mkM _ _ _ (⟨t286, t287, t288⟩ : S109) ) (fun _ hk => hk); have hx12_0 := hcc12 0 _ rfl; (try simp only [show (k109).sz = 3 from rfl, Nat.mul_one, Nat.add_zero] at hx12_0); have hf12_0 := hfr12 0; (try simp only [show (k109).sz = 3 from rfl, Nat.mul_one, Nat.add_zero] at hf12_0); have hx12_1 := hcc12 1 _ rfl; (try simp only [show (k109).sz = 3 from rfl, Nat.mul_one, Nat.add_zero] at hx12_1); have hf12_1 := hfr12 1; (try simp only [show (k109).sz = 3 from rfl, Nat.mul_one, Nat.add_zero] at hf12_1); have hx12_2 := hcc12 2 _ rfl; (try simp only [show (k109).sz = 3 from rfl, Nat.mul_one, Nat.add_zero] at hx12_2); have hf12_2 := hfr12 2; (try simp only [show (k109).sz = 3 from rfl, Nat.mul_one, Nat.add_zero] at hf12_2); clear hcl12 hcc12 hfr12 hM12) | ((with_reducible refine gate_store (t := 109) (p := 21) rfl ?_); refine store_event (t := 109) (p := 21) (v := ?vo_w13) (w1 := (((w11.setCell ⟨go10, (x4_1 : Int).toNat * 3, none⟩ (.int .i64 t286)).setCell ⟨go10, (x4_1 : Int).toNat * 3 + 1, none⟩ (.int .i64 t287)).setCell ⟨go10, (x4_1 : Int).toNat * 3 + 2, none⟩ (.int .i64 t288))) ?hg ?ho ?hn ?hr ?_; (case ho => rfl); (case hg => rfl); (case hn => rfl); (case hr => first | (go_simp; done) | (go_simp; rfl)); intro w13 hw; have hg : w11.grownBy w13 (some go10) := (by rw [hw]; exact HP12.2); have hp_ : Kd.R k109 109 w13 w.heap.size (fun _ => True) (.slice (some ⟨go10, 0, none⟩) x3_1.length co10) y289 := (by rw [hw, Ny289.out]; exact HP12.1); clear HP12; refine sh2_ hp_ ((by rw [hw]; exact below_set (below_set (below_set (HB.out) GB10.out) GB10.out) GB10.out : Below w.heap.size w w13)) ?_; clear HO_3 HB; intro HO_3 HB; clear hg hw hp_))
    go_roundg k1
    case measure => have := HK1.out; omega
    case rel => exact ⟨(y289), (wrap64 (x4_1 + 1)), (by first | rfl | (simp; done) | (simp [*]; done)), H', ⟨by have := HK1.out; omega⟩, ⟨ra_ HO_3⟩, ⟨bl_ HB⟩⟩
   ·rw [if_neg c6] at H
    have c6b0 := decide_eq_false c6
    clear c6
    obtain rfl := Option.some.inj H
    go_wp2
    go_ret
    exact ⟨_, er_, ra_ HO_3, bl_ HB⟩

/-! ### laws_toArc: function 104 -/
def laws_toArc.f (a0_0 : Int) (a0_1 : Int) : Option (Int × Int) := some (a0_0, a0_1)
set_option maxHeartbeats 8000000 in
set_option maxRecDepth 100000 in
theorem laws_toArc.calls (a0_0 : Int) (a0_1 : Int) (r1 : Int) (r2 : Int) (w : World) (h : laws_toArc.f a0_0 a0_1 = some (r1, r2)) :
  Calls Try.prog 104 #[.agg #[.int .i64 a0_0, .int .i64 a0_1]] w fun e w' => e = .returned (.agg #[.int .i64 r1, .int .i64 r2]) ∧ Below w.heap.size w w' := by
 have hu117 := Try.underlying117
 have hu113 := Try.underlying113
 have HB := Aside0.mk (Below.refl w.heap.size w)
 have H := h
 clear h
 unfold laws_toArc.f at H
 simp only [Option.some.injEq, Prod.mk.injEq] at H
 obtain ⟨rfl, rfl⟩ := H
 go_enter Try.func104, Try.ntmps104
 go_wp2_with (first | ((with_reducible refine gd_ 1 ?_); refine bx_ 1 117 #[.int .i64 a0_0, .int .i64 a0_1] ?_; intro gb290 hg w2 hbox hb; refine sh3_ (below_step (bl_ HB) hb) hbox (ge_ hg (bl_ HB)) ?_; clear HB hb hbox hg; intro HB BK290 GE290) | ((with_reducible refine gd_ 2 ?_); refine bx_ 2 113 #[.int .i64 0, .int .i64 0] ?_; intro gb291 hg w3 hbox hb; refine sh6_ (blk_below (bk_ BK290) hb) (below_step (bl1_ HB GE290) hb) hbox (ge_ hg (bl1_ HB GE290)) (nl_ hg (bk_ BK290)) (ng_ hg (bk_ BK290)) ?_; clear BK290 HB hb hbox hg; intro BK290 HB BK291 GE291 NB290_291 NB291_290) | ((with_reducible refine gd_ 3 ?_); refine bx_ 3 113 #[.int .i64 0, .int .i64 0] ?_; intro gb292 hg w4 hbox hb; refine sh9_ (blk_below (bk_ BK290) hb) (blk_below (bk_ BK291) hb) (below_step (bl2_ HB GE290 GE291) hb) hbox (ge_ hg (bl2_ HB GE290 GE291)) (nl_ hg (bk_ BK290)) (ng_ hg (bk_ BK290)) (nl_ hg (bk_ BK291)) (ng_ hg (bk_ BK291)) ?_; clear BK290 BK291 HB hb hbox hg; intro BK290 BK291 HB BK292 GE292 NB290_292 NB292_290 NB291_292 NB292_291; have hnb5 := NB290_291.out; have hnc5 := NB291_290.out; have hnb6 := NB290_292.out; have hnc6 := NB292_290.out; have hcz7 := cf2_ BK290; have hnb8 := NB292_291.out; have hnc8 := NB291_292.out; have hcz9 := cf2_ BK292; have hcz10 := cf2_ BK291))
 refine bodyPost_ret (results_cell_row rfl _ _ gb291 113 #[.int .i64 a0_0, .int .i64 a0_1] (0, 0) _ rfl (bp_ BK291) Try.underlying113 rfl (by kernel_rfl)) rfl ?_
 exact ⟨er_, bl3_ HB GE290 GE291 GE292⟩

/-! ### laws_toZone: function 84 -/
def laws_toZone.f (a0_0 : Int) (a0_1 : Int) (a0_2 : Int) : Option (Int × Int × Int) := (laws_toArc.f a0_1 a0_2).bind fun bt296 => (some (a0_0, bt296.1, bt296.2))
set_option maxHeartbeats 8000000 in
set_option maxRecDepth 100000 in
theorem laws_toZone.calls (a0_0 : Int) (a0_1 : Int) (a0_2 : Int) (r1 : Int) (r2 : Int) (r3 : Int) (w : World) (h : laws_toZone.f a0_0 a0_1 a0_2 = some (r1, r2, r3)) :
  Calls Try.prog 84 #[.agg #[.int .i64 a0_0, .int .i64 a0_1, .int .i64 a0_2]] w fun e w' => e = .returned (.agg #[.int .i64 r1, .int .i64 r2, .int .i64 r3]) ∧ Below w.heap.size w w' := by
 have hu119 := Try.underlying119
 have hu115 := Try.underlying115
 have hu117 := Try.underlying117
 have hu113 := Try.underlying113
 have HB := Aside0.mk (Below.refl w.heap.size w)
 have H := h
 clear h
 unfold laws_toZone.f at H
 replace H := bs_ H
 obtain ⟨⟨t296, t297⟩, A2, H⟩ := H
 dsimp only at H
 simp only [Option.some.injEq, Prod.mk.injEq] at H
 obtain ⟨rfl, rfl, rfl⟩ := H
 go_enter Try.func84, Try.ntmps84
 go_wp2_with (first | ((with_reducible refine gd_ 1 ?_); refine bx_ 1 119 #[.int .i64 a0_0, .int .i64 a0_1, .int .i64 a0_2] ?_; intro gb293 hg w3 hbox hb; refine sh3_ (below_step (bl_ HB) hb) hbox (ge_ hg (bl_ HB)) ?_; clear HB hb hbox hg; intro HB BK293 GE293) | ((with_reducible refine gd_ 2 ?_); refine bx_ 2 115 #[.int .i64 0, .int .i64 0, .int .i64 0] ?_; intro gb294 hg w4 hbox hb; refine sh6_ (blk_below (bk_ BK293) hb) (below_step (bl1_ HB GE293) hb) hbox (ge_ hg (bl1_ HB GE293)) (nl_ hg (bk_ BK293)) (ng_ hg (bk_ BK293)) ?_; clear BK293 HB hb hbox hg; intro BK293 HB BK294 GE294 NB293_294 NB294_293) | ((with_reducible refine gd_ 3 ?_); refine bx_ 3 115 #[.int .i64 0, .int .i64 0, .int .i64 0] ?_; intro gb295 hg w5 hbox hb; refine sh9_ (blk_below (bk_ BK293) hb) (blk_below (bk_ BK294) hb) (below_step (bl2_ HB GE293 GE294) hb) hbox (ge_ hg (bl2_ HB GE293 GE294)) (nl_ hg (bk_ BK293)) (ng_ hg (bk_ BK293)) (nl_ hg (bk_ BK294)) (ng_ hg (bk_ BK294)) ?_; clear BK293 BK294 HB hb hbox hg; intro BK293 BK294 HB BK295 GE295 NB293_295 NB295_293 NB294_295 NB295_294; have hnb6 := NB293_294.out; have hnc6 := NB294_293.out; have hnb7 := NB293_295.out; have hnc7 := NB295_293.out; have hcz8 := cf3_ BK293; have hnb9 := NB295_294.out; have hnc9 := NB294_295.out; have hcz10 := cf3_ BK295) | ((with_reducible refine gate_callee (f := 104) rfl ?_); refine gl_ 9 Try.func104 (laws_toArc.calls a0_1 a0_2 t296 t297 _ A2.out) ?_; rintro e w11 ⟨rfl, hb⟩; refine ⟨_, rfl, sh4_ (blk_below (g := gb293) (o := .cells #[.int .i64 a0_0, .int .i64 a0_1, .int .i64 a0_2] 119 (0, 0)) (bp_ BK293) hb) (blk_below (g := gb294) (o := .cells #[.int .i64 0, .int .i64 0, .int .i64 0] 115 (0, 0)) (bp_ BK294) hb) (blk_below (g := gb295) (o := .cells #[.int .i64 a0_0, .int .i64 0, .int .i64 0] 115 (0, 0)) (bp_ BK295) hb) (below_step (bl3_ HB GE293 GE294 GE295) hb) ?_⟩; clear BK293 BK294 BK295 HB hb; intro BK293 BK294 BK295 HB; have hcz12 := cf3_ BK295; have hcz13 := cf3_ BK294))
 refine bodyPost_ret (results_cell_row rfl _ _ gb294 115 #[.int .i64 a0_0, .int .i64 t296, .int .i64 t297] (0, 0) _ rfl (bp_ BK294) Try.underlying115 rfl (by kernel_rfl)) rfl ?_
 exact ⟨er_, bl3_ HB GE293 GE294 GE295⟩

/-! ### laws_toZoneS: function 47 -/
def laws_toZoneS.l0 : Nat → List (S119) → List (S115) → Int → Option ((List (S115)))
 | 0, _, _, _ => none
 | k + 1, x0, x3, x4 => if x4 < (x0.length : Int) then (if 0 ≤ x4 then ((laws_toZone.f ((rd_T119 x0 x4).f0) ((rd_T119 x0 x4).f1.f0) ((rd_T119 x0 x4).f1.f1)).bind fun bt302 => (if x4 < (x3.length : Int) then (laws_toZoneS.l0 k x0 (x3.set (x4 : Int).toNat (⟨bt302.1, (⟨bt302.2.1, bt302.2.2⟩ : S113)⟩ : S115)) (wrap64 (x4 + 1))) else (none))) else (none)) else (some x3)
def laws_toZoneS.f (k : Nat) (l0 : List (S119)) : Option ((List (S115))) := if 0 ≤ (l0.length : Int) then (if ((l0.length : Int) : Int).toNat ≤ 11728124029610 then (laws_toZoneS.l0 k l0 (List.replicate ((l0.length : Int) : Int).toNat z115) 0) else (none)) else (none)
theorem laws_toZoneS.mono_l : ∀ k, (∀ y0 y1 y2, LeO (laws_toZoneS.l0 k y0 y1 y2) (laws_toZoneS.l0 (k + 1) y0 y1 y2))
 | 0 => fun _ _ _ r h => by simp [laws_toZoneS.l0] at h
 | k + 1 => by
  have ih0 := laws_toZoneS.mono_l k
  ·intro y0 y1 y2
   unfold laws_toZoneS.l0
   repeat' first | (with_reducible first | exact ih0 _ _ _ | exact LeO.refl _ | exact LeO.none _ | refine LeO.ite ?_ ?_ | refine LeO.bind ?_ (fun _ => ?_)) | exact LeO.none _ | refine LeO.ite ?_ ?_ | refine LeO.bind ?_ (fun _ => ?_)
theorem laws_toZoneS.mono : ∀ a0 k, LeO (laws_toZoneS.f k a0) (laws_toZoneS.f (k + 1) a0) := by
 intro a0 k
 have ih0 := laws_toZoneS.mono_l k
 unfold laws_toZoneS.f
 repeat' first | (with_reducible first | exact ih0 _ _ _ | exact LeO.refl _ | exact LeO.none _ | refine LeO.ite ?_ ?_ | refine LeO.bind ?_ (fun _ => ?_)) | exact LeO.none _ | refine LeO.ite ?_ ?_ | refine LeO.bind ?_ (fun _ => ?_)
set_option maxHeartbeats 8000000 in
set_option maxRecDepth 100000 in
theorem laws_toZoneS.calls (k : Nat) (A0 : Option Addr) (c0 : Nat) (l0 : List (S119)) (r : List (S115)) (w : World) (hr0 : Kd.C k119 w A0 l0.length l0) (hc0 : l0.length ≤ c0) (h : laws_toZoneS.f k l0 = some r) :
  Calls Try.prog 47 #[.slice A0 l0.length c0] w fun e w' => ∃ v0_ : Value, e = .returned (v0_) ∧ Kd.R k115 115 w' w.heap.size (fun _ => True) v0_ r ∧ Below w.heap.size w w' := by
 have hu119 := Try.underlying119
 have hu115 := Try.underlying115
 have HR0 := Aside0.mk hr0
 have HC0 := Aside0.mk hc0
 clear hr0 hc0
 have HB := Aside0.mk (Below.refl w.heap.size w)
 have H := h
 clear h
 unfold laws_toZoneS.f at H
 replace H := ifn_ H
 obtain ⟨c2, H⟩ := H
 have c2b0 := eq_true c2
 have c2b1 := decide_eq_true c2
 clear c2
 replace H := ifn_ H
 obtain ⟨c3, H⟩ := H
 have c3b0 := eq_true c3
 have c3b1 := decide_eq_true c3
 clear c3
 replace H : ∃ y_ : List (S115), Aside0 (y_ = (List.replicate ((l0.length : Int) : Int).toNat z115)) ∧ (laws_toZoneS.l0 k l0 y_ 0) = some r := ⟨_, ⟨rfl⟩, yh_ H⟩
 obtain ⟨y298, Ny298, H⟩ := H
 have H' := Aside0.mk H
 clear H
 go_enter Try.func47, Try.ntmps47
 go_wp2_with (first | ((with_reducible refine gate_dst (N := 7) rfl ?_); refine Kd.R_make k115 _ 115 rfl (N := 7) rfl 32 _ _ rfl (l0.length : Int) rfl rfl Try.underlying32 (.agg #[(.int .i64 0), (.int .i64 0), (.int .i64 0)]) 24 info115 rfl (by decide) (by omega) z115 (ok := fun _ => True) (okp := fun _ => True) (k115_mkM _ _ _ z115 ) (fun _ hk => hk) trivial od_ (Nat.le_trans (Nat.mul_le_mul_right _ (od_ : (l0.length : Int).toNat ≤ 11728124029610)) (by omega)) (Below.refl _ _) (Nat.le_refl _) ?_; intro v299 w4 ho5 hb hg_ hnew_; clear hg_ hnew_; (first | rw [← Ny298.out] at ho5 | (simp only [Int.reduceToNat] at ho5; rw [← Ny298.out] at ho5)); refine sh2_ (Kd.R_lower ho5 (below_size (bl_ HB))) (below_step (bl_ HB) hb) ?_; clear HB hb ho5; intro HO300 HB))
 go_loopg [4] k (fun kq v4 w' => ∃ (x3_1 : List (S115)) (x4_1 : Int), v4 = .int .i64 x4_1 ∧ Aside0 (laws_toZoneS.l0 kq l0 x3_1 x4_1 = some r) ∧ Aside0 (kq ≤ k) ∧ Aside0 (Kd.R k115 115 w' w.heap.size (fun _ => True) v299 x3_1) ∧ Aside0 (Below w.heap.size w w'))
 case atStart => exact ⟨(y298), (0), (by first | rfl | (simp; done) | (simp [*]; done)), H', ⟨Nat.le_refl _⟩, ⟨ra_ HO300⟩, ⟨bl_ HB⟩⟩
 case round =>
  clear H'
  try clear c2
  try clear c2b0
  try clear c2b1
  try clear p2
  try clear c3
  try clear c3b0
  try clear c3b1
  try clear c4
  obtain ⟨x3_1, x4_1, rfl, HA, HK1, HO_3, HB⟩ := hrel
  cases gk with
  | zero => exact absurd HA.out (by simp [laws_toZoneS.l0])
  | succ k1 =>
   have H := HA.out
   clear HA
   simp only [laws_toZoneS.l0] at H
   by_cases c6 : x4_1 < (l0.length : Int)
   ·rw [if_pos c6] at H
    have c6b0 := decide_eq_true c6
    clear c6
    replace H := ifn_ H
    obtain ⟨c7, H⟩ := H
    have c7b0 := decide_eq_true c7
    clear c7
    replace H := bs_ H
    obtain ⟨⟨t302, t303, t304⟩, A8, H⟩ := H
    dsimp only at H
    replace H := ifn_ H
    obtain ⟨c9, H⟩ := H
    have c9b0 := decide_eq_true c9
    clear c9
    replace H : ∃ y_ : List (S115), Aside0 (y_ = (x3_1.set (x4_1 : Int).toNat (⟨t302, (⟨t303, t304⟩ : S113)⟩ : S115))) ∧ (laws_toZoneS.l0 k1 l0 y_ (wrap64 (x4_1 + 1))) = some r := ⟨_, ⟨rfl⟩, yh_ H⟩
    obtain ⟨y305, Ny305, H⟩ := H
    have H' := Aside0.mk H
    clear H
    have p301 : 0 ≤ (x4_1 : Int) := od_
    have q301 : x4_1 < (l0.length : Int) := od_
    obtain ⟨ad301, e301, hx301_0, hx301_1, hx301_2⟩ := at_T119 HR0.out x4_1 p301 q301
    cases e301
    replace hx301_0 := hbc_ HB hx301_0
    replace hx301_1 := hbc_ HB hx301_1
    replace hx301_2 := hbc_ HB hx301_2
    replace p301 := eq_true p301
    replace q301 := eq_true q301
    go_wp2_with (first | ((with_reducible refine gate_callee (f := 84) rfl ?_); refine gl_ 20 Try.func84 (laws_toZone.calls ((rd_T119 l0 x4_1).f0) ((rd_T119 l0 x4_1).f1.f0) ((rd_T119 l0 x4_1).f1.f1) t302 t303 t304 _ A8.out) ?_; rintro e w11 ⟨rfl, hb⟩; refine ⟨_, rfl, sh2_ (Kd.R_below (ra_ HO_3) hb) (below_step (bl_ HB) hb) ?_⟩; clear HO_3 HB hb; intro HO_3 HB; have p10 : 0 ≤ (x4_1 : Int) := od_; have q10 : (x4_1 : Int) < ((x3_1.length : Int) : Int) := od_; obtain ⟨go10, co10, eo10, gb10, gl10, cl10, HG10⟩ := Kd.R_form HO_3.out (by omega); (first | cases eo10 | (injection eo10 with ea_ en_ ec_; (first | subst ea_ | (injection ea_ with ea_; subst ea_)); subst ec_; clear en_)); have GB10 := Aside0.mk gb10; have GG10 := Aside0.mk HG10; clear gb10 gl10 HG10; obtain ⟨ce10, hcl10, hM10, hcc10, hfr10⟩ := Kd.R_elem HO_3.out z115 (x4_1 : Int) p10 q10; obtain rfl := k115_openM hM10; have hx10_0 : w11.cell? ⟨go10, (x4_1 : Int).toNat * 3, none⟩ = some (.int .i64 ((rd_T115 x3_1 x4_1).f0)) := hcc10 0 _ rfl; have hx10_1 : w11.cell? ⟨go10, (x4_1 : Int).toNat * 3 + 1, none⟩ = some (.int .i64 ((rd_T115 x3_1 x4_1).f1.f0)) := hcc10 1 _ rfl; have hx10_2 : w11.cell? ⟨go10, (x4_1 : Int).toNat * 3 + 2, none⟩ = some (.int .i64 ((rd_T115 x3_1 x4_1).f1.f1)) := hcc10 2 _ rfl; have hf10_0 : w11.frozen? ⟨go10, (x4_1 : Int).toNat * 3, none⟩ = false := hfr10 0; have hf10_1 : w11.frozen? ⟨go10, (x4_1 : Int).toNat * 3 + 1, none⟩ = false := hfr10 1; have hf10_2 : w11.frozen? ⟨go10, (x4_1 : Int).toNat * 3 + 2, none⟩ = false := hfr10 2; clear hcl10 hcc10 hfr10 hM10; replace p10 := eq_true p10; replace q10 := eq_true q10; have HX12 := Aside0.mk (show Kd.R k115 115 w11 w.heap.size (fun _ => True) (.slice (some ⟨go10, 0, none⟩) x3_1.length co10) x3_1 from (ra_ HO_3)); obtain ⟨ce12, hcl12, hM12, hcc12, hfr12⟩ := Kd.R_elem HX12.out z115 (x4_1 : Int) od_ (by have h_ : (x4_1 : Int) < ((x3_1.length : Int) : Int) := od_; first | exact h_ | (have e_ := (Kd.R_reads' HO_3.out).1; omega) | simpa using h_); obtain rfl := k115_openM hM12; have HP12 := Kd.R_seg HX12.out (x4_1 : Int) od_ (by have h_ : (x4_1 : Int) < ((x3_1.length : Int) : Int) := od_; first | exact h_ | (have e_ := (Kd.R_reads' HO_3.out).1; omega) | simpa using h_) (seg := [.int .i64 t302, .int .i64 t303, .int .i64 t304]) (j := 0) hcl12 hcc12 (show 3 ≤ 3 from by decide) (x' := (⟨t302, (⟨t303, t304⟩ : S113)⟩ : S115)) (k115_mkM _ _ _ (⟨t302, (⟨t303, t304⟩ : S113)⟩ : S115) ) (fun _ hk => hk); have hx12_0 := hcc12 0 _ rfl; (try simp only [show (k115).sz = 3 from rfl, Nat.mul_one, Nat.add_zero] at hx12_0); have hf12_0 := hfr12 0; (try simp only [show (k115).sz = 3 from rfl, Nat.mul_one, Nat.add_zero] at hf12_0); have hx12_1 := hcc12 1 _ rfl; (try simp only [show (k115).sz = 3 from rfl, Nat.mul_one, Nat.add_zero] at hx12_1); have hf12_1 := hfr12 1; (try simp only [show (k115).sz = 3 from rfl, Nat.mul_one, Nat.add_zero] at hf12_1); have hx12_2 := hcc12 2 _ rfl; (try simp only [show (k115).sz = 3 from rfl, Nat.mul_one, Nat.add_zero] at hx12_2); have hf12_2 := hfr12 2; (try simp only [show (k115).sz = 3 from rfl, Nat.mul_one, Nat.add_zero] at hf12_2); clear hcl12 hcc12 hfr12 hM12) | ((with_reducible refine gate_store (t := 115) (p := 21) rfl ?_); refine store_event (t := 115) (p := 21) (v := ?vo_w13) (w1 := (((w11.setCell ⟨go10, (x4_1 : Int).toNat * 3, none⟩ (.int .i64 t302)).setCell ⟨go10, (x4_1 : Int).toNat * 3 + 1, none⟩ (.int .i64 t303)).setCell ⟨go10, (x4_1 : Int).toNat * 3 + 2, none⟩ (.int .i64 t304))) ?hg ?ho ?hn ?hr ?_; (case ho => rfl); (case hg => rfl); (case hn => rfl); (case hr => first | (go_simp; done) | (go_simp; rfl)); intro w13 hw; have hg : w11.grownBy w13 (some go10) := (by rw [hw]; exact HP12.2); have hp_ : Kd.R k115 115 w13 w.heap.size (fun _ => True) (.slice (some ⟨go10, 0, none⟩) x3_1.length co10) y305 := (by rw [hw, Ny305.out]; exact HP12.1); clear HP12; refine sh2_ hp_ ((by rw [hw]; exact below_set (below_set (below_set (HB.out) GB10.out) GB10.out) GB10.out : Below w.heap.size w w13)) ?_; clear HO_3 HB; intro HO_3 HB; clear hg hw hp_))
    go_roundg k1
    case measure => have := HK1.out; omega
    case rel => exact ⟨(y305), (wrap64 (x4_1 + 1)), (by first | rfl | (simp; done) | (simp [*]; done)), H', ⟨by have := HK1.out; omega⟩, ⟨ra_ HO_3⟩, ⟨bl_ HB⟩⟩
   ·rw [if_neg c6] at H
    have c6b0 := decide_eq_false c6
    clear c6
    obtain rfl := Option.some.inj H
    go_wp2
    go_ret
    exact ⟨_, er_, ra_ HO_3, bl_ HB⟩

/-! ### laws_toSky: function 11 -/
def laws_toSky.f (k : Nat) (a0_0 : Int) (l0_1 : List (S107)) (l0_2 : List (S111)) (a0_3 : Int) (a0_4 : Int) (a0_5 : Int) (a0_6 : Int) (a0_7 : Int) (l0_8 : List (S119)) (a0_9 : Int) : Option (Int × (List (S105)) × (List (S109)) × Int × Int × Int × Int × Int × (List (S115)) × Int) := (laws_toSatS.f k l0_1).bind fun t309 => ((laws_toSiteS.f k l0_2).bind fun t312 => ((laws_toZoneS.f k l0_8).bind fun t315 => (some (a0_0, t309, t312, a0_3, a0_4, a0_5, a0_6, a0_7, t315, a0_9))))
theorem laws_toSky.mono : ∀ a0 a1 a2 a3 a4 a5 a6 a7 a8 a9 k, LeO (laws_toSky.f k a0 a1 a2 a3 a4 a5 a6 a7 a8 a9) (laws_toSky.f (k + 1) a0 a1 a2 a3 a4 a5 a6 a7 a8 a9) := by
 intro a0 a1 a2 a3 a4 a5 a6 a7 a8 a9 k
 unfold laws_toSky.f
 repeat' first | (with_reducible first | exact laws_toSatS.mono _ _ | exact laws_toSiteS.mono _ _ | exact laws_toZoneS.mono _ _ | exact LeO.refl _ | exact LeO.none _ | refine LeO.ite ?_ ?_ | refine LeO.bind ?_ (fun _ => ?_)) | exact LeO.none _ | refine LeO.ite ?_ ?_ | refine LeO.bind ?_ (fun _ => ?_)
set_option maxHeartbeats 8000000 in
set_option maxRecDepth 100000 in
theorem laws_toSky.calls (k : Nat) (a0_0 : Int) (A0_1 : Option Addr) (c0_1 : Nat) (l0_1 : List (S107)) (A0_2 : Option Addr) (c0_2 : Nat) (l0_2 : List (S111)) (a0_3 : Int) (a0_4 : Int) (a0_5 : Int) (a0_6 : Int) (a0_7 : Int) (A0_8 : Option Addr) (c0_8 : Nat) (l0_8 : List (S119)) (a0_9 : Int) (r1 : Int) (r2 : List (S105)) (r3 : List (S109)) (r4 : Int) (r5 : Int) (r6 : Int) (r7 : Int) (r8 : Int) (r9 : List (S115)) (r10 : Int) (w : World) (hr0_1 : Kd.C k107 w A0_1 l0_1.length l0_1) (hc0_1 : l0_1.length ≤ c0_1) (hr0_2 : Kd.C k111 w A0_2 l0_2.length l0_2) (hc0_2 : l0_2.length ≤ c0_2) (hr0_8 : Kd.C k119 w A0_8 l0_8.length l0_8) (hc0_8 : l0_8.length ≤ c0_8) (h : laws_toSky.f k a0_0 l0_1 l0_2 a0_3 a0_4 a0_5 a0_6 a0_7 l0_8 a0_9 = some (r1, r2, r3, r4, r5, r6, r7, r8, r9, r10)) :
  Calls Try.prog 11 #[.agg #[.int .i64 a0_0, .slice A0_1 l0_1.length c0_1, .slice A0_2 l0_2.length c0_2, .int .i64 a0_3, .int .i64 a0_4, .int .i64 a0_5, .int .i64 a0_6, .int .i64 a0_7, .slice A0_8 l0_8.length c0_8, .int .i64 a0_9]] w fun e w' => ∃ v1_ v2_ v8_ : Value, e = .returned (.agg #[.int .i64 r1, v1_, v2_, .int .i64 r4, .int .i64 r5, .int .i64 r6, .int .i64 r7, .int .i64 r8, v8_, .int .i64 r10]) ∧ Kd.R k105 105 w' w.heap.size (fun _ => True) v1_ r2 ∧ Kd.R k109 109 w' w.heap.size (fun _ => True) v2_ r3 ∧ Kd.R k115 115 w' w.heap.size (fun _ => True) v8_ r9 ∧ Below w.heap.size w w' := by
 have hu26 := Try.underlying26
 have hu34 := Try.underlying34
 have HR0_1 := Aside0.mk hr0_1
 have HC0_1 := Aside0.mk hc0_1
 clear hr0_1 hc0_1
 have HR0_2 := Aside0.mk hr0_2
 have HC0_2 := Aside0.mk hc0_2
 clear hr0_2 hc0_2
 have HR0_8 := Aside0.mk hr0_8
 have HC0_8 := Aside0.mk hc0_8
 clear hr0_8 hc0_8
 have HB := Aside0.mk (Below.refl w.heap.size w)
 have H := h
 clear h
 unfold laws_toSky.f at H
 replace H := bs_ H
 obtain ⟨t309, A2, H⟩ := H
 replace H := bs_ H
 obtain ⟨t312, A3, H⟩ := H
 replace H := bs_ H
 obtain ⟨t315, A4, H⟩ := H
 simp only [Option.some.injEq, Prod.mk.injEq] at H
 obtain ⟨rfl, rfl, rfl, rfl, rfl, rfl, rfl, rfl, rfl, rfl⟩ := H
 go_enter Try.func11, Try.ntmps11
 go_wp2_with (first | ((with_reducible refine gd_ 1 ?_); refine bx_ 1 26 #[.int .i64 a0_0, .slice A0_1 l0_1.length c0_1, .slice A0_2 l0_2.length c0_2, .int .i64 a0_3, .int .i64 a0_4, .int .i64 a0_5, .int .i64 a0_6, .int .i64 a0_7, .slice A0_8 l0_8.length c0_8, .int .i64 a0_9] ?_; intro gb306 hg w5 hbox hb; refine sh3_ (below_step (bl_ HB) hb) hbox (ge_ hg (bl_ HB)) ?_; clear HB hb hbox hg; intro HB BK306 GE306) | ((with_reducible refine gd_ 2 ?_); refine bx_ 2 34 #[.int .i64 0, .slice none 0 0, .slice none 0 0, .int .i64 0, .int .i64 0, .int .i64 0, .int .i64 0, .int .i64 0, .slice none 0 0, .int .i64 0] ?_; intro gb307 hg w6 hbox hb; refine sh6_ (blk_below (bk_ BK306) hb) (below_step (bl1_ HB GE306) hb) hbox (ge_ hg (bl1_ HB GE306)) (nl_ hg (bk_ BK306)) (ng_ hg (bk_ BK306)) ?_; clear BK306 HB hb hbox hg; intro BK306 HB BK307 GE307 NB306_307 NB307_306) | ((with_reducible refine gd_ 3 ?_); refine bx_ 3 34 #[.int .i64 0, .slice none 0 0, .slice none 0 0, .int .i64 0, .int .i64 0, .int .i64 0, .int .i64 0, .int .i64 0, .slice none 0 0, .int .i64 0] ?_; intro gb308 hg w7 hbox hb; refine sh9_ (blk_below (bk_ BK306) hb) (blk_below (bk_ BK307) hb) (below_step (bl2_ HB GE306 GE307) hb) hbox (ge_ hg (bl2_ HB GE306 GE307)) (nl_ hg (bk_ BK306)) (ng_ hg (bk_ BK306)) (nl_ hg (bk_ BK307)) (ng_ hg (bk_ BK307)) ?_; clear BK306 BK307 HB hb hbox hg; intro BK306 BK307 HB BK308 GE308 NB306_308 NB308_306 NB307_308 NB308_307; have hnb8 := NB306_307.out; have hnc8 := NB307_306.out; have hnb9 := NB306_308.out; have hnc9 := NB308_306.out; have hcz10 := cf10_ BK306; have hnb11 := NB308_307.out; have hnc11 := NB307_308.out; have hcz12 := cf10_ BK308) | ((with_reducible refine gate_callee (f := 45) rfl ?_); refine goesL_ (some 9) rfl rfl Try.func45 (by kernel_rfl) rfl #[.slice A0_1 l0_1.length c0_1] rfl mp_ ?_; (with_reducible refine (laws_toSatS.calls k _ _ l0_1 t309 _ ?side1 ?side2 A2.out).mono ?_); (case side1 => exact Kd.C_below HR0_1.out (bl3_ HB GE306 GE307 GE308)); (case side2 => exact HC0_1.out); rintro e w13 ⟨v310, rfl, ho0, hb⟩; refine ⟨_, rfl, sh5_ (Kd.R_lower ho0 (below_size (bl3_ HB GE306 GE307 GE308))) (blk_below (g := gb306) (o := .cells #[.int .i64 a0_0, .slice A0_1 l0_1.length c0_1, .slice A0_2 l0_2.length c0_2, .int .i64 a0_3, .int .i64 a0_4, .int .i64 a0_5, .int .i64 a0_6, .int .i64 a0_7, .slice A0_8 l0_8.length c0_8, .int .i64 a0_9] 26 (0, 0)) (bp_ BK306) hb) (blk_below (g := gb307) (o := .cells #[.int .i64 0, .slice none 0 0, .slice none 0 0, .int .i64 0, .int .i64 0, .int .i64 0, .int .i64 0, .int .i64 0, .slice none 0 0, .int .i64 0] 34 (0, 0)) (bp_ BK307) hb) (blk_below (g := gb308) (o := .cells #[.int .i64 a0_0, .slice none 0 0, .slice none 0 0, .int .i64 0, .int .i64 0, .int .i64 0, .int .i64 0, .int .i64 0, .slice none 0 0, .int .i64 0] 34 (0, 0)) (bp_ BK308) hb) (below_step (bl3_ HB GE306 GE307 GE308) hb) ?_⟩; clear BK306 BK307 BK308 HB hb ho0; intro HO311 BK306 BK307 BK308 HB; obtain ⟨Ao14, co14, eo14⟩ := Kd.R_slice HO311.out; subst eo14; have hcz15 := cf10_ BK308; have hcz16 := cf10_ BK306) | ((with_reducible refine gate_callee (f := 46) rfl ?_); refine goesL_ (some 13) rfl rfl Try.func46 (by kernel_rfl) rfl #[.slice A0_2 l0_2.length c0_2] rfl mp_ ?_; (with_reducible refine (laws_toSiteS.calls k _ _ l0_2 t312 _ ?side1 ?side2 A3.out).mono ?_); (case side1 => exact Kd.C_below HR0_2.out (bl3_ HB GE306 GE307 GE308)); (case side2 => exact HC0_2.out); rintro e w17 ⟨v313, rfl, ho0, hb⟩; refine ⟨_, rfl, sh6_ (Kd.R_below (by (with_reducible repeat (first | apply Kd.R_alloc | apply Kd.R_drewN | apply Kd.R_drew)); exact (Kd.R_mono (Kd.R_far (p := ⟨gb308, 1, none⟩) (Kd.R_types HO311.out BK308.out (by decide)) (fun _ hk => hk.2) (.slice Ao14 t309.length co14)) (fun _ h_ => h_.1))) hb) (Kd.R_lower ho0 (below_size (bl3_ HB GE306 GE307 GE308))) (blk_below (g := gb306) (o := .cells #[.int .i64 a0_0, .slice A0_1 l0_1.length c0_1, .slice A0_2 l0_2.length c0_2, .int .i64 a0_3, .int .i64 a0_4, .int .i64 a0_5, .int .i64 a0_6, .int .i64 a0_7, .slice A0_8 l0_8.length c0_8, .int .i64 a0_9] 26 (0, 0)) (bp_ BK306) hb) (blk_below (g := gb307) (o := .cells #[.int .i64 0, .slice none 0 0, .slice none 0 0, .int .i64 0, .int .i64 0, .int .i64 0, .int .i64 0, .int .i64 0, .slice none 0 0, .int .i64 0] 34 (0, 0)) (bp_ BK307) hb) (blk_below (g := gb308) (o := .cells #[.int .i64 a0_0, .slice Ao14 t309.length co14, .slice none 0 0, .int .i64 0, .int .i64 0, .int .i64 0, .int .i64 0, .int .i64 0, .slice none 0 0, .int .i64 0] 34 (0, 0)) (bp_ BK308) hb) (below_step (bl3_ HB GE306 GE307 GE308) hb) ?_⟩; clear HO311 BK306 BK307 BK308 HB hb ho0; intro HO311 HO314 BK306 BK307 BK308 HB; obtain ⟨Ao18, co18, eo18⟩ := Kd.R_slice HO314.out; subst eo18; have hcz19 := cf10_ BK308; have hcz20 := cf10_ BK306) | ((with_reducible refine gate_callee (f := 47) rfl ?_); refine goesL_ (some 32) rfl rfl Try.func47 (by kernel_rfl) rfl #[.slice A0_8 l0_8.length c0_8] rfl mp_ ?_; (with_reducible refine (laws_toZoneS.calls k _ _ l0_8 t315 _ ?side1 ?side2 A4.out).mono ?_); (case side1 => exact Kd.C_below HR0_8.out (bl3_ HB GE306 GE307 GE308)); (case side2 => exact HC0_8.out); rintro e w21 ⟨v316, rfl, ho0, hb⟩; refine ⟨_, rfl, sh7_ (Kd.R_below (by (with_reducible repeat (first | apply Kd.R_alloc | apply Kd.R_drewN | apply Kd.R_drew)); exact (Kd.R_mono (Kd.R_far (p := ⟨gb308, 7, none⟩) (Kd.R_far (p := ⟨gb308, 6, none⟩) (Kd.R_far (p := ⟨gb308, 5, none⟩) (Kd.R_far (p := ⟨gb308, 4, none⟩) (Kd.R_far (p := ⟨gb308, 3, none⟩) (Kd.R_far (p := ⟨gb308, 2, none⟩) (Kd.R_types HO311.out BK308.out (by decide)) (fun _ hk => hk.2) (.slice Ao18 t312.length co18)) (fun _ hk => hk.2) (.int .i64 a0_3)) (fun _ hk => hk.2) (.int .i64 a0_4)) (fun _ hk => hk.2) (.int .i64 a0_5)) (fun _ hk => hk.2) (.int .i64 a0_6)) (fun _ hk => hk.2) (.int .i64 a0_7)) (fun _ h_ => h_.1))) hb) (Kd.R_below (by (with_reducible repeat (first | apply Kd.R_alloc | apply Kd.R_drewN | apply Kd.R_drew)); exact (Kd.R_mono (Kd.R_far (p := ⟨gb308, 7, none⟩) (Kd.R_far (p := ⟨gb308, 6, none⟩) (Kd.R_far (p := ⟨gb308, 5, none⟩) (Kd.R_far (p := ⟨gb308, 4, none⟩) (Kd.R_far (p := ⟨gb308, 3, none⟩) (Kd.R_far (p := ⟨gb308, 2, none⟩) (Kd.R_types HO314.out BK308.out (by decide)) (fun _ hk => hk.2) (.slice Ao18 t312.length co18)) (fun _ hk => hk.2) (.int .i64 a0_3)) (fun _ hk => hk.2) (.int .i64 a0_4)) (fun _ hk => hk.2) (.int .i64 a0_5)) (fun _ hk => hk.2) (.int .i64 a0_6)) (fun _ hk => hk.2) (.int .i64 a0_7)) (fun _ h_ => h_.1))) hb) (Kd.R_lower ho0 (below_size (bl3_ HB GE306 GE307 GE308))) (blk_below (g := gb306) (o := .cells #[.int .i64 a0_0, .slice A0_1 l0_1.length c0_1, .slice A0_2 l0_2.length c0_2, .int .i64 a0_3, .int .i64 a0_4, .int .i64 a0_5, .int .i64 a0_6, .int .i64 a0_7, .slice A0_8 l0_8.length c0_8, .int .i64 a0_9] 26 (0, 0)) (bp_ BK306) hb) (blk_below (g := gb307) (o := .cells #[.int .i64 0, .slice none 0 0, .slice none 0 0, .int .i64 0, .int .i64 0, .int .i64 0, .int .i64 0, .int .i64 0, .slice none 0 0, .int .i64 0] 34 (0, 0)) (bp_ BK307) hb) (blk_below (g := gb308) (o := .cells #[.int .i64 a0_0, .slice Ao14 t309.length co14, .slice Ao18 t312.length co18, .int .i64 a0_3, .int .i64 a0_4, .int .i64 a0_5, .int .i64 a0_6, .int .i64 a0_7, .slice none 0 0, .int .i64 0] 34 (0, 0)) (bp_ BK308) hb) (below_step (bl3_ HB GE306 GE307 GE308) hb) ?_⟩; clear HO311 HO314 BK306 BK307 BK308 HB hb ho0; intro HO311 HO314 HO317 BK306 BK307 BK308 HB; obtain ⟨Ao22, co22, eo22⟩ := Kd.R_slice HO317.out; subst eo22; have hcz23 := cf10_ BK308; have hcz24 := cf10_ BK306; have hcz25 := cf10_ BK307))
 refine bodyPost_ret (results_cell_row rfl _ _ gb307 34 #[.int .i64 a0_0, .slice Ao14 t309.length co14, .slice Ao18 t312.length co18, .int .i64 a0_3, .int .i64 a0_4, .int .i64 a0_5, .int .i64 a0_6, .int .i64 a0_7, .slice Ao22 t315.length co22, .int .i64 a0_9] (0, 0) _ rfl (bp_ BK307) Try.underlying34 rfl (by kernel_rfl)) rfl ?_
 exact ⟨_, _, _, er_, by (with_reducible repeat (first | apply Kd.R_alloc | apply Kd.R_drewN | apply Kd.R_drew)); exact Kd.R_mono (Kd.R_far (p := ⟨gb307, 9, none⟩) (Kd.R_far (p := ⟨gb307, 8, none⟩) (Kd.R_far (p := ⟨gb307, 7, none⟩) (Kd.R_far (p := ⟨gb307, 6, none⟩) (Kd.R_far (p := ⟨gb307, 5, none⟩) (Kd.R_far (p := ⟨gb307, 4, none⟩) (Kd.R_far (p := ⟨gb307, 3, none⟩) (Kd.R_far (p := ⟨gb307, 2, none⟩) (Kd.R_far (p := ⟨gb307, 1, none⟩) (Kd.R_far (p := ⟨gb307, 0, none⟩) (Kd.R_far (p := ⟨gb308, 9, none⟩) (Kd.R_far (p := ⟨gb308, 8, none⟩) (Kd.R_types (Kd.R_types HO311.out BK308.out (by decide)) BK307.out (by decide)) (fun _ hk => hk.1.2) (.slice Ao22 t315.length co22)) (fun _ hk => hk.1.2) (.int .i64 a0_9)) (fun _ hk => hk.2) (.int .i64 a0_0)) (fun _ hk => hk.2) (.slice Ao14 t309.length co14)) (fun _ hk => hk.2) (.slice Ao18 t312.length co18)) (fun _ hk => hk.2) (.int .i64 a0_3)) (fun _ hk => hk.2) (.int .i64 a0_4)) (fun _ hk => hk.2) (.int .i64 a0_5)) (fun _ hk => hk.2) (.int .i64 a0_6)) (fun _ hk => hk.2) (.int .i64 a0_7)) (fun _ hk => hk.2) (.slice Ao22 t315.length co22)) (fun _ hk => hk.2) (.int .i64 a0_9)) (fun _ hk => trivial), by (with_reducible repeat (first | apply Kd.R_alloc | apply Kd.R_drewN | apply Kd.R_drew)); exact Kd.R_mono (Kd.R_far (p := ⟨gb307, 9, none⟩) (Kd.R_far (p := ⟨gb307, 8, none⟩) (Kd.R_far (p := ⟨gb307, 7, none⟩) (Kd.R_far (p := ⟨gb307, 6, none⟩) (Kd.R_far (p := ⟨gb307, 5, none⟩) (Kd.R_far (p := ⟨gb307, 4, none⟩) (Kd.R_far (p := ⟨gb307, 3, none⟩) (Kd.R_far (p := ⟨gb307, 2, none⟩) (Kd.R_far (p := ⟨gb307, 1, none⟩) (Kd.R_far (p := ⟨gb307, 0, none⟩) (Kd.R_far (p := ⟨gb308, 9, none⟩) (Kd.R_far (p := ⟨gb308, 8, none⟩) (Kd.R_types (Kd.R_types HO314.out BK308.out (by decide)) BK307.out (by decide)) (fun _ hk => hk.1.2) (.slice Ao22 t315.length co22)) (fun _ hk => hk.1.2) (.int .i64 a0_9)) (fun _ hk => hk.2) (.int .i64 a0_0)) (fun _ hk => hk.2) (.slice Ao14 t309.length co14)) (fun _ hk => hk.2) (.slice Ao18 t312.length co18)) (fun _ hk => hk.2) (.int .i64 a0_3)) (fun _ hk => hk.2) (.int .i64 a0_4)) (fun _ hk => hk.2) (.int .i64 a0_5)) (fun _ hk => hk.2) (.int .i64 a0_6)) (fun _ hk => hk.2) (.int .i64 a0_7)) (fun _ hk => hk.2) (.slice Ao22 t315.length co22)) (fun _ hk => hk.2) (.int .i64 a0_9)) (fun _ hk => trivial), by (with_reducible repeat (first | apply Kd.R_alloc | apply Kd.R_drewN | apply Kd.R_drew)); exact Kd.R_mono (Kd.R_far (p := ⟨gb307, 9, none⟩) (Kd.R_far (p := ⟨gb307, 8, none⟩) (Kd.R_far (p := ⟨gb307, 7, none⟩) (Kd.R_far (p := ⟨gb307, 6, none⟩) (Kd.R_far (p := ⟨gb307, 5, none⟩) (Kd.R_far (p := ⟨gb307, 4, none⟩) (Kd.R_far (p := ⟨gb307, 3, none⟩) (Kd.R_far (p := ⟨gb307, 2, none⟩) (Kd.R_far (p := ⟨gb307, 1, none⟩) (Kd.R_far (p := ⟨gb307, 0, none⟩) (Kd.R_far (p := ⟨gb308, 9, none⟩) (Kd.R_far (p := ⟨gb308, 8, none⟩) (Kd.R_types (Kd.R_types HO317.out BK308.out (by decide)) BK307.out (by decide)) (fun _ hk => hk.1.2) (.slice Ao22 t315.length co22)) (fun _ hk => hk.1.2) (.int .i64 a0_9)) (fun _ hk => hk.2) (.int .i64 a0_0)) (fun _ hk => hk.2) (.slice Ao14 t309.length co14)) (fun _ hk => hk.2) (.slice Ao18 t312.length co18)) (fun _ hk => hk.2) (.int .i64 a0_3)) (fun _ hk => hk.2) (.int .i64 a0_4)) (fun _ hk => hk.2) (.int .i64 a0_5)) (fun _ hk => hk.2) (.int .i64 a0_6)) (fun _ hk => hk.2) (.int .i64 a0_7)) (fun _ hk => hk.2) (.slice Ao22 t315.length co22)) (fun _ hk => hk.2) (.int .i64 a0_9)) (fun _ hk => trivial), bl3_ HB GE306 GE307 GE308⟩

section
variable {P : Program} {ops : Array Oper} {Q : Exit → Act → World → Prop}
theorem gate_fnval {rest : List Oper} {o : Oper} {a : Act} {W : World} {s : Tmp} {az : Array Operand} {ts : Array TypeId} (_ho : o.op = .call { callee := .value (.tmp s), args := az, argTypes := ts }) (h : wpList P ops Q (o :: rest) a W) : wpList P ops Q (o :: rest) a W := h
theorem goesF_ {rest : List Oper} {oi : Oper} {a : Act} {w : World} (N : Option Tmp) (hd : oi.dst = N) (hg : oi.guard = none) {f : FuncId} {lb : Array Value} {s : Tmp} {az : Array Operand} {ts : Array TypeId} (eg : ∀ args w, (callFunc f args).run P w = .ok (.enter f args) w) (args : Array Value)
  (hop : oi.op = .call { callee := .value (.tmp s), args := az, argTypes := ts }) (hs : a.eval (.tmp s) = .func (.func f) #[] lb) (hargs : az.map a.eval = args)
  (h : Calls P f (args ++ lb) w fun e w' => ∃ v, e = .returned v ∧ wpList P ops Q rest (a.put N v) w') : wpList P ops Q (oi :: rest) a w := by
 refine wpList_plain hg fun K hK => ?_
 have he := eg (args ++ lb) w
 have hrun : (execOp a.eval oi).run P w = .ok (.enter f (args ++ lb)) w := by
  unfold execOp
  simp [hop, resolve, Deferred.ofValue, invoke, hs, hargs, he]
 unfold Oper.wp
 rw [hrun, Oper.upon_enter]
 refine h.mono fun e w'' hh => ?_
 obtain ⟨v, rfl, hk⟩ := hh
 subst hd
 exact hK _ _ hk
end
/-! ### spansWhere, at any function value: function 75 -/
def sw.l0 (q : Nat → Int → Option Bool) : Nat → Int → List (S73) → Int → Option ((List (S73)))
 | 0, _, _, _ => none
 | k + 1, x1, x7, x8 => if x8 < (mn x1 1000) then ((q k x8).bind fun t321 => (if t321 = true then (if (wrap64 ((x7.length : Int) - 1)) ≥ 0 then (if 0 ≤ (wrap64 ((x7.length : Int) - 1)) then (if (wrap64 ((x7.length : Int) - 1)) < (x7.length : Int) then (if ((rd_T73 x7 (wrap64 ((x7.length : Int) - 1))).f1) = x8 then (sw.l0 q k x1 (x7.set ((wrap64 ((x7.length : Int) - 1)) : Int).toNat (⟨(rd_T73 x7 (wrap64 ((x7.length : Int) - 1))).f0, wrap64 (((rd_T73 x7 (wrap64 ((x7.length : Int) - 1))).f1) + 1)⟩ : S73)) (wrap64 (x8 + 1))) else (if x7.length < 8796093022208 then (sw.l0 q k x1 (x7 ++ [(⟨x8, wrap64 (x8 + 1)⟩ : S73)]) (wrap64 (x8 + 1))) else (none))) else (none)) else (none)) else (if x7.length < 8796093022208 then (sw.l0 q k x1 (x7 ++ [(⟨x8, wrap64 (x8 + 1)⟩ : S73)]) (wrap64 (x8 + 1))) else (none))) else (sw.l0 q k x1 x7 (wrap64 (x8 + 1))))) else (some x7)
def sw.f (q : Nat → Int → Option Bool) (k : Nat) (a0 : Int) (a1 : Int) : Option ((List (S73))) := sw.l0 q k a1 (([] : List (S73))) (mx a0 0)
theorem sw.mono_l (q : Nat → Int → Option Bool) (hm : ∀ t k, LeO (q k t) (q (k + 1) t)) : ∀ k, (∀ y0 y1 y2, LeO (sw.l0 q k y0 y1 y2) (sw.l0 q (k + 1) y0 y1 y2))
 | 0 => fun _ _ _ r h => by simp [sw.l0] at h
 | k + 1 => by
  have ih0 := sw.mono_l q hm k
  ·intro y0 y1 y2
   unfold sw.l0
   repeat' first | (with_reducible first | exact ih0 _ _ _ | exact hm _ _ | exact LeO.refl _ | exact LeO.none _ | refine LeO.ite ?_ ?_ | refine LeO.bind ?_ (fun _ => ?_)) | exact LeO.none _ | refine LeO.ite ?_ ?_ | refine LeO.bind ?_ (fun _ => ?_)
theorem sw.mono (q : Nat → Int → Option Bool) (hm : ∀ t k, LeO (q k t) (q (k + 1) t)) : ∀ a0 a1 k, LeO (sw.f q k a0 a1) (sw.f q (k + 1) a0 a1) := by
 intro a0 a1 k
 have ih0 := sw.mono_l q hm k
 unfold sw.f
 repeat' first | (with_reducible first | exact ih0 _ _ _ | exact hm _ _ | exact LeO.refl _ | exact LeO.none _ | refine LeO.ite ?_ ?_ | refine LeO.bind ?_ (fun _ => ?_)) | exact LeO.none _ | refine LeO.ite ?_ ?_ | refine LeO.bind ?_ (fun _ => ?_)
set_option maxHeartbeats 8000000 in
set_option maxRecDepth 100000 in
theorem sw.calls (q : Nat → Int → Option Bool) (k : Nat) (a0 : Int) (a1 : Int) (r : List (S73)) (w : World) (gF : FuncId) (lb : Array Value) (eg : ∀ args w, (callFunc gF args).run Try.prog w = .ok (.enter gF args) w) (hq : ∀ (k' : Nat) (t : Int) (b : Bool) (W : World), q k' t = some b → Below w.heap.size w W → Calls Try.prog gF (#[.int .i64 t] ++ lb) W fun e w' => e = .returned (.bool b) ∧ Below W.heap.size W w') (h : sw.f q k a0 a1 = some r) :
  Calls Try.prog 75 #[.int .i64 a0, .int .i64 a1, .func (.func gF) #[] lb] w fun e w' => ∃ v0_ : Value, e = .returned (v0_) ∧ Kd.R k73 73 w' w.heap.size (fun _ => True) v0_ r ∧ Below w.heap.size w w' := by
 have hu73 := Try.underlying73
 have HB := Aside0.mk (Below.refl w.heap.size w)
 have H := h
 clear h
 unfold sw.f at H
 replace H : ∃ y_ : List (S73), Aside0 (y_ = (([] : List (S73)))) ∧ (sw.l0 q k a1 y_ (mx a0 0)) = some r := ⟨_, ⟨rfl⟩, yh_ H⟩
 obtain ⟨y318, Ny318, H⟩ := H
 obtain ⟨ji4, hji4⟩ : ∃ j_ : Int, (mx a0 0) = j_ := ⟨_, rfl⟩
 replace H : (sw.l0 q k a1 y318 ji4) = some r := by first | (rw [hji4] at H; exact H) | (simp only [hji4] at H ⊢; exact H)
 (try (have hji4l : 0 ≤ ji4 := by (rw [← hji4]; unfold mx; (repeat' split) <;> omega)))
 (try (have hji4m : 0 ≤ ji4 := by omega))
 have hji4_ : (if a0 < 0 then 0 else a0) = ji4 := hji4
 have H' := Aside0.mk H
 clear H
 go_enter Try.func75, Try.ntmps75
 go_wp2_with (first | ((with_reducible refine gate_dst (N := 10) rfl ?_); refine Kd.R_lit k73 _ 73 ?hg (N := 10) ?hd (xs := ([] : List (S73))) (inner := []) (ok := fun _ => True) (okp := fun _ => True) ?hr ?hp (fun _ hk => hk) trivial (Below.refl _ _) (Nat.le_refl _) (by simp) ?_; (case hd => rfl); (case hg => rfl); (case hr => first | (go_simp; done) | (go_simp; rfl)); (case hp => exact (Reps.none _ _)); intro v319 w5 ho6 hb hg_ hnew_; clear hg_ hnew_; (first | rw [← Ny318.out] at ho6 | (simp only [Int.reduceToNat] at ho6; rw [← Ny318.out] at ho6)); refine sh2_ (Kd.R_lower ho6 (below_size (bl_ HB))) (below_step (bl_ HB) hb) ?_; clear HB hb ho6; intro HO320 HB))
 go_loopg [7, 8] k (fun kq v7 v8 w' => ∃ (x7_1 : List (S73)) (x8_1 : Int), v8 = .int .i64 x8_1 ∧ Aside0 (sw.l0 q kq a1 x7_1 x8_1 = some r) ∧ Aside0 (kq ≤ k) ∧ Aside0 (Kd.R k73 73 w' w.heap.size (fun _ => True) v7 x7_1) ∧ Aside0 (Below w.heap.size w w'))
 case atStart => exact ⟨(y318), (ji4), (by first | rfl | (simp; done) | (simp only [← hji4] <;> (first | rfl | simp)) | (simp [*]; done)), H', ⟨Nat.le_refl _⟩, ⟨ra_ HO320⟩, ⟨bl_ HB⟩⟩
 case round =>
  clear H'
  try clear p2
  obtain ⟨x7_1, x8_1, rfl, HA, HK1, HO_7, HB⟩ := hrel
  cases gk with
  | zero => exact absurd HA.out (by simp [sw.l0])
  | succ k1 =>
   have H := HA.out
   clear HA
   simp only [sw.l0] at H
   obtain ⟨ji7, hji7⟩ : ∃ j_ : Int, (mn a1 1000) = j_ := ⟨_, rfl⟩
   replace H : (if x8_1 < (ji7) then ((q k1 x8_1).bind fun t321 => (if t321 = true then (if (wrap64 ((x7_1.length : Int) - 1)) ≥ 0 then (if 0 ≤ (wrap64 ((x7_1.length : Int) - 1)) then (if (wrap64 ((x7_1.length : Int) - 1)) < (x7_1.length : Int) then (if ((rd_T73 x7_1 (wrap64 ((x7_1.length : Int) - 1))).f1) = x8_1 then (sw.l0 q k1 a1 (x7_1.set ((wrap64 ((x7_1.length : Int) - 1)) : Int).toNat (⟨(rd_T73 x7_1 (wrap64 ((x7_1.length : Int) - 1))).f0, wrap64 (((rd_T73 x7_1 (wrap64 ((x7_1.length : Int) - 1))).f1) + 1)⟩ : S73)) (wrap64 (x8_1 + 1))) else (if x7_1.length < 8796093022208 then (sw.l0 q k1 a1 (x7_1 ++ [(⟨x8_1, wrap64 (x8_1 + 1)⟩ : S73)]) (wrap64 (x8_1 + 1))) else (none))) else (none)) else (none)) else (if x7_1.length < 8796093022208 then (sw.l0 q k1 a1 (x7_1 ++ [(⟨x8_1, wrap64 (x8_1 + 1)⟩ : S73)]) (wrap64 (x8_1 + 1))) else (none))) else (sw.l0 q k1 a1 x7_1 (wrap64 (x8_1 + 1))))) else (some x7_1)) = some r := by first | (rw [hji7] at H; exact H) | (simp only [hji7] at H ⊢; exact H)
   have hji7_ : (if 1000 < a1 then 1000 else a1) = ji7 := hji7
   by_cases c8 : x8_1 < (ji7)
   ·rw [if_pos c8] at H
    have c8b0 := decide_eq_true c8
    clear c8
    replace H := bs_ H
    obtain ⟨t321, A9, H⟩ := H
    by_cases c10 : t321 = true
    ·subst c10
     rw [if_pos rfl] at H
     by_cases c11 : (wrap64 ((x7_1.length : Int) - 1)) ≥ 0
     ·rw [if_pos c11] at H
      have c11b0 : decide (0 ≤ (wrap64 ((x7_1.length : Int) - 1))) = true := decide_eq_true c11
      clear c11
      obtain ⟨ji12, hji12⟩ : ∃ j_ : Int, (wrap64 ((x7_1.length : Int) - 1)) = j_ := ⟨_, rfl⟩
      replace H : (if 0 ≤ (ji12) then (if (ji12) < (x7_1.length : Int) then (if ((rd_T73 x7_1 (ji12)).f1) = x8_1 then (sw.l0 q k1 a1 (x7_1.set ((ji12) : Int).toNat (⟨(rd_T73 x7_1 (ji12)).f0, wrap64 (((rd_T73 x7_1 (ji12)).f1) + 1)⟩ : S73)) (wrap64 (x8_1 + 1))) else (if x7_1.length < 8796093022208 then (sw.l0 q k1 a1 (x7_1 ++ [(⟨x8_1, wrap64 (x8_1 + 1)⟩ : S73)]) (wrap64 (x8_1 + 1))) else (none))) else (none)) else (none)) = some r := by first | (rw [hji12] at H; exact H) | (simp only [hji12] at H ⊢; exact H)
      (try rw [hji12] at c11b0)
      (try rw [hji12] at A9)
      have hji12w : (IntKind.i64.wrap ((x7_1.length : Int) - 1)) = ji12 := (i64_w _).trans hji12
      replace H := ifn_ H
      obtain ⟨c13, H⟩ := H
      have c13b0 := decide_eq_true c13
      clear c13
      replace H := ifn_ H
      obtain ⟨c14, H⟩ := H
      have c14b0 := decide_eq_true c14
      clear c14
      by_cases c15 : ((rd_T73 x7_1 (ji12)).f1) = x8_1
      ·rw [if_pos c15] at H
       obtain ⟨c15b0, c15b1⟩ := bt_ c15
       clear c15
       replace H : ∃ y_ : List (S73), Aside0 (y_ = (x7_1.set ((ji12) : Int).toNat (⟨(rd_T73 x7_1 (ji12)).f0, wrap64 (((rd_T73 x7_1 (ji12)).f1) + 1)⟩ : S73))) ∧ (sw.l0 q k1 a1 y_ (wrap64 (x8_1 + 1))) = some r := ⟨_, ⟨rfl⟩, yh_ H⟩
       obtain ⟨y324, Ny324, H⟩ := H
       have H' := Aside0.mk H
       clear H
       go_wp2_with (first | ((with_reducible refine gate_fnval (s := 19) rfl ?_); refine goesF_ (some 21) rfl rfl eg #[.int .i64 x8_1] rfl rfl mp_ ?_; (refine (hq k1 x8_1 true _ A9.out (bl_ HB)).mono ?_); rintro e w17 ⟨rfl, hb⟩; refine ⟨_, rfl, sh2_ (Kd.R_below (ra_ HO_7) hb) (below_step (bl_ HB) hb) ?_⟩; clear HO_7 HB hb; intro HO_7 HB; obtain ⟨Ao18, co18, eo18⟩ := Kd.R_slice HO_7.out; subst eo18; have p322 : 0 ≤ ((ji12) : Int) := od_; have q322 : (ji12) < (x7_1.length : Int) := od_; obtain ⟨ad322, e322, hx322_0, hx322_1⟩ := at_T73 (Kd.R_reads' HO_7.out).2.2 (ji12) p322 q322; cases e322; replace p322 := eq_true p322; replace q322 := eq_true q322; have p323 : 0 ≤ ((ji12) : Int) := od_; have q323 : (ji12) < (x7_1.length : Int) := od_; obtain ⟨ad323, e323, hx323_0, hx323_1⟩ := at_T73 (Kd.R_reads' HO_7.out).2.2 (ji12) p323 q323; obtain rfl : ad322 = ad323 := (by injection e323); replace p323 := eq_true p323; replace q323 := eq_true q323; have p16 : 0 ≤ ((ji12) : Int) := od_; have q16 : ((ji12) : Int) < ((x7_1.length : Int) : Int) := od_; obtain ⟨go16, co16, eo16, gb16, gl16, cl16, HG16⟩ := Kd.R_form HO_7.out (by omega); (first | cases eo16 | (injection eo16 with ea_ en_ ec_; (first | subst ea_ | (injection ea_ with ea_; subst ea_)); subst ec_; clear en_)); have GB16 := Aside0.mk gb16; have GG16 := Aside0.mk HG16; clear gb16 gl16 HG16; (first | simp only [add_plain] at hx322_0 | skip); (first | simp only [add_plain] at hx322_1 | skip); (first | simp only [add_plain] at hx323_0 | skip); (first | simp only [add_plain] at hx323_1 | skip); obtain ⟨ce16, hcl16, hM16, hcc16, hfr16⟩ := Kd.R_elem HO_7.out z73 ((ji12) : Int) p16 q16; obtain rfl := k73_openM hM16; have hx16_0 : w17.cell? ⟨go16, ((ji12) : Int).toNat * 2, none⟩ = some (.int .i64 ((rd_T73 x7_1 (ji12)).f0)) := hcc16 0 _ rfl; have hx16_1 : w17.cell? ⟨go16, ((ji12) : Int).toNat * 2 + 1, none⟩ = some (.int .i64 ((rd_T73 x7_1 (ji12)).f1)) := hcc16 1 _ rfl; have hf16_0 : w17.frozen? ⟨go16, ((ji12) : Int).toNat * 2, none⟩ = false := hfr16 0; have hf16_1 : w17.frozen? ⟨go16, ((ji12) : Int).toNat * 2 + 1, none⟩ = false := hfr16 1; clear hcl16 hcc16 hfr16 hM16; replace p16 := eq_true p16; replace q16 := eq_true q16; have HX19 := Aside0.mk (show Kd.R k73 73 w17 w.heap.size (fun _ => True) (.slice (some ⟨go16, 0, none⟩) x7_1.length co18) x7_1 from (ra_ HO_7)); obtain ⟨ce19, hcl19, hM19, hcc19, hfr19⟩ := Kd.R_elem HX19.out z73 ((ji12) : Int) od_ (by have h_ : ((ji12) : Int) < ((x7_1.length : Int) : Int) := od_; first | exact h_ | (have e_ := (Kd.R_reads' HO_7.out).1; omega) | simpa using h_); obtain rfl := k73_openM hM19; have HP19 := Kd.R_seg HX19.out ((ji12) : Int) od_ (by have h_ : ((ji12) : Int) < ((x7_1.length : Int) : Int) := od_; first | exact h_ | (have e_ := (Kd.R_reads' HO_7.out).1; omega) | simpa using h_) (seg := [.int .i64 (wrap64 (((rd_T73 x7_1 (ji12)).f1) + 1))]) (j := 1) hcl19 hcc19 (show 2 ≤ 2 from by decide) (x' := (⟨(rd_T73 x7_1 (ji12)).f0, wrap64 (((rd_T73 x7_1 (ji12)).f1) + 1)⟩ : S73)) (k73_mkM _ _ _ (⟨(rd_T73 x7_1 (ji12)).f0, wrap64 (((rd_T73 x7_1 (ji12)).f1) + 1)⟩ : S73) ) (fun _ hk => hk); have hx19_1 := hcc19 1 _ rfl; (try simp only [show (k73).sz = 2 from rfl, Nat.mul_one, Nat.add_zero] at hx19_1); have hf19_1 := hfr19 1; (try simp only [show (k73).sz = 2 from rfl, Nat.mul_one, Nat.add_zero] at hf19_1); clear hcl19 hcc19 hfr19 hM19) | ((with_reducible refine gate_store (t := 3) (p := 44) rfl ?_); refine store_event (t := 3) (p := 44) (v := ?vo_w20) (w1 := (w17.setCell ⟨go16, ((ji12) : Int).toNat * 2 + 1, none⟩ (.int .i64 (wrap64 (((rd_T73 x7_1 (ji12)).f1) + 1))))) ?hg ?ho ?hn ?hr ?_; (case ho => rfl); (case hg => rfl); (case hn => rfl); (case hr => first | (go_simp; done) | (go_simp; rfl)); intro w20 hw; have hg : w17.grownBy w20 (some go16) := (by rw [hw]; exact HP19.2); have hp_ : Kd.R k73 73 w20 w.heap.size (fun _ => True) (.slice (some ⟨go16, 0, none⟩) x7_1.length co18) y324 := (by rw [hw, Ny324.out]; exact HP19.1); clear HP19; refine sh2_ hp_ ((by rw [hw]; exact below_set (HB.out) GB16.out : Below w.heap.size w w20)) ?_; clear HO_7 HB; intro HO_7 HB; clear hg hw hp_))
       go_roundg k1
       case measure => have := HK1.out; omega
       case rel => exact ⟨(y324), (wrap64 (x8_1 + 1)), (by first | rfl | (simp; done) | (simp [*]; done)), H', ⟨by have := HK1.out; omega⟩, ⟨ra_ HO_7⟩, ⟨bl_ HB⟩⟩
      ·rw [if_neg c15] at H
       obtain ⟨c15b0, c15b1⟩ := bn_ c15
       replace H := ifn_ H
       obtain ⟨c21, H⟩ := H
       have LMc21 := Aside0.mk c21
       clear c21
       replace H : ∃ y_ : List (S73), Aside0 (y_ = (x7_1 ++ [(⟨x8_1, wrap64 (x8_1 + 1)⟩ : S73)])) ∧ (sw.l0 q k1 a1 y_ (wrap64 (x8_1 + 1))) = some r := ⟨_, ⟨rfl⟩, yh_ H⟩
       obtain ⟨y325, Ny325, H⟩ := H
       have H' := Aside0.mk H
       clear H
       go_wp2_with (first | ((with_reducible refine gate_fnval (s := 19) rfl ?_); refine goesF_ (some 21) rfl rfl eg #[.int .i64 x8_1] rfl rfl mp_ ?_; (refine (hq k1 x8_1 true _ A9.out (bl_ HB)).mono ?_); rintro e w22 ⟨rfl, hb⟩; refine ⟨_, rfl, sh2_ (Kd.R_below (ra_ HO_7) hb) (below_step (bl_ HB) hb) ?_⟩; clear HO_7 HB hb; intro HO_7 HB; obtain ⟨Ao23, co23, eo23⟩ := Kd.R_slice HO_7.out; subst eo23; have p322 : 0 ≤ ((ji12) : Int) := od_; have q322 : (ji12) < (x7_1.length : Int) := od_; obtain ⟨ad322, e322, hx322_0, hx322_1⟩ := at_T73 (Kd.R_reads' HO_7.out).2.2 (ji12) p322 q322; cases e322; replace p322 := eq_true p322; replace q322 := eq_true q322) | ((with_reducible refine gate_builtin (b := .append) (xs := #[.tmp 45, .tmp 50]) rfl ?_); at_builtin; refine Kd.R_append k73 (w0 := w) w.heap.size rfl (.tmp 45) (.tmp 50) 28 73 (.agg #[(.int .i64 0), (.int .i64 0)]) 16 rfl Try.underlying28 info73 rfl (by decide) (by omega) (.slice (some ad322) x7_1.length co23) x7_1 (⟨x8_1, wrap64 (x8_1 + 1)⟩ : S73) [.int .i64 x8_1, .int .i64 (wrap64 (x8_1 + 1))] (fun _ => True) (fun _ => False) rfl rfl ?aP (fun _ hk => hk.elim) ?aF ?aO ?aB ?aS ?aL ?_; (case aP => exact k73_mkM _ _ _ (⟨x8_1, wrap64 (x8_1 + 1)⟩ : S73)); (case aB => exact (bl_ HB)); (case aF => exact (fun _ _ => trivial)); (case aO => exact (ra_ HO_7)); (case aS => exact (below_size (bl_ HB))); (case aL => have := LMc21.out; omega); intro v326 w24 ho hb hg hat; rw [← Ny325.out] at ho; refine sh2_ hb ho ?_; clear HB HO_7 ho hb hg hat; intro HB HO327))
       go_roundg k1
       case measure => have := HK1.out; omega
       case rel => exact ⟨(y325), (wrap64 (x8_1 + 1)), (by first | rfl | (simp; done) | (simp [*]; done)), H', ⟨by have := HK1.out; omega⟩, ⟨ra_ HO327⟩, ⟨bl_ HB⟩⟩
     ·rw [if_neg c11] at H
      have c11b0 : decide (0 ≤ (wrap64 ((x7_1.length : Int) - 1))) = false := decide_eq_false c11
      clear c11
      replace H := ifn_ H
      obtain ⟨c25, H⟩ := H
      have LMc25 := Aside0.mk c25
      clear c25
      replace H : ∃ y_ : List (S73), Aside0 (y_ = (x7_1 ++ [(⟨x8_1, wrap64 (x8_1 + 1)⟩ : S73)])) ∧ (sw.l0 q k1 a1 y_ (wrap64 (x8_1 + 1))) = some r := ⟨_, ⟨rfl⟩, yh_ H⟩
      obtain ⟨y328, Ny328, H⟩ := H
      have H' := Aside0.mk H
      clear H
      go_wp2_with (first | ((with_reducible refine gate_fnval (s := 19) rfl ?_); refine goesF_ (some 21) rfl rfl eg #[.int .i64 x8_1] rfl rfl mp_ ?_; (refine (hq k1 x8_1 true _ A9.out (bl_ HB)).mono ?_); rintro e w26 ⟨rfl, hb⟩; refine ⟨_, rfl, sh2_ (Kd.R_below (ra_ HO_7) hb) (below_step (bl_ HB) hb) ?_⟩; clear HO_7 HB hb; intro HO_7 HB; obtain ⟨Ao27, co27, eo27⟩ := Kd.R_slice HO_7.out; subst eo27) | ((with_reducible refine gate_builtin (b := .append) (xs := #[.tmp 45, .tmp 50]) rfl ?_); at_builtin; refine Kd.R_append k73 (w0 := w) w.heap.size rfl (.tmp 45) (.tmp 50) 28 73 (.agg #[(.int .i64 0), (.int .i64 0)]) 16 rfl Try.underlying28 info73 rfl (by decide) (by omega) (.slice Ao27 x7_1.length co27) x7_1 (⟨x8_1, wrap64 (x8_1 + 1)⟩ : S73) [.int .i64 x8_1, .int .i64 (wrap64 (x8_1 + 1))] (fun _ => True) (fun _ => False) rfl rfl ?aP (fun _ hk => hk.elim) ?aF ?aO ?aB ?aS ?aL ?_; (case aP => exact k73_mkM _ _ _ (⟨x8_1, wrap64 (x8_1 + 1)⟩ : S73)); (case aB => exact (bl_ HB)); (case aF => exact (fun _ _ => trivial)); (case aO => exact (ra_ HO_7)); (case aS => exact (below_size (bl_ HB))); (case aL => have := LMc25.out; omega); intro v329 w28 ho hb hg hat; rw [← Ny328.out] at ho; refine sh2_ hb ho ?_; clear HB HO_7 ho hb hg hat; intro HB HO330))
      go_roundg k1
      case measure => have := HK1.out; omega
      case rel => exact ⟨(y328), (wrap64 (x8_1 + 1)), (by first | rfl | (simp; done) | (simp [*]; done)), H', ⟨by have := HK1.out; omega⟩, ⟨ra_ HO330⟩, ⟨bl_ HB⟩⟩
    ·replace c10 := Bool.eq_false_iff.mpr c10
     subst c10
     have H1 : (sw.l0 q k1 a1 x7_1 (wrap64 (x8_1 + 1))) = some r := by rw [if_neg (show ¬ (false = true) by decide)] at H; exact H
     clear H
     have H := H1
     clear H1
     have H' := Aside0.mk H
     clear H
     go_wp2_with (first | ((with_reducible refine gate_fnval (s := 19) rfl ?_); refine goesF_ (some 21) rfl rfl eg #[.int .i64 x8_1] rfl rfl mp_ ?_; (refine (hq k1 x8_1 false _ A9.out (bl_ HB)).mono ?_); rintro e w29 ⟨rfl, hb⟩; refine ⟨_, rfl, sh2_ (Kd.R_below (ra_ HO_7) hb) (below_step (bl_ HB) hb) ?_⟩; clear HO_7 HB hb; intro HO_7 HB))
     go_roundg k1
     case measure => have := HK1.out; omega
     case rel => exact ⟨(x7_1), (wrap64 (x8_1 + 1)), (by first | rfl | (simp; done) | (simp [*]; done)), H', ⟨by have := HK1.out; omega⟩, ⟨ra_ HO_7⟩, ⟨bl_ HB⟩⟩
   ·rw [if_neg c8] at H
    have c8b0 : decide (x8_1 < (ji7)) = false := decide_eq_false c8
    clear c8
    obtain rfl := Option.some.inj H
    go_wp2
    go_ret
    exact ⟨_, by first | rfl | (simp [errW_none, errW_some] <;> rfl) | (simp only [← hji4, ← hji7]; first | rfl | (simp [errW_none, errW_some] <;> rfl)) | (simp [*, errW_none, errW_some] <;> rfl), ra_ HO_7, bl_ HB⟩

/-! ### impl_InRange: function 120 -/
def impl_InRange.f (a0 : Int) (a1 : Int) (a2 : Int) : Option (Bool) := if a1 ≤ a0 then (some (decide (a0 ≤ a2))) else (some false)
set_option maxHeartbeats 8000000 in
set_option maxRecDepth 100000 in
theorem impl_InRange.calls (a0 : Int) (a1 : Int) (a2 : Int) (r : Bool) (w : World) (h : impl_InRange.f a0 a1 a2 = some r) :
  Calls Try.prog 120 #[.int .i64 a0, .int .i64 a1, .int .i64 a2] w fun e w' => e = .returned (.bool r) ∧ Drawn0 w w' := by
 have H := h
 clear h
 unfold impl_InRange.f at H
 by_cases c4 : a1 ≤ a0
 ·rw [if_pos c4] at H
  have c4b0 := decide_eq_true c4
  clear c4
  obtain rfl := Option.some.inj H
  go_enter Try.func120, Try.ntmps120
  go_wp2
  go_ret
  exact ⟨by first | rfl | (simp; done) | (simp [*]; done), by repeat (first | exact Drawn0.refl _ | apply Drawn0.step)⟩
 ·rw [if_neg c4] at H
  have c4b0 := decide_eq_false c4
  clear c4
  obtain rfl := Option.some.inj H
  go_enter Try.func120, Try.ntmps120
  go_wp2
  go_ret
  exact ⟨by first | rfl | (simp; done) | (simp [*]; done), by repeat (first | exact Drawn0.refl _ | apply Drawn0.step)⟩

/-! ### impl_isSatellite: function 105 -/
def impl_isSatellite.f (a0_0 : Int) (l0_1 : List (S105)) (l0_2 : List (S109)) (a0_3 : Int) (a0_4 : Int) (a0_5 : Int) (a0_6 : Int) (a0_7 : Int) (l0_8 : List (S115)) (a0_9 : Int) (a1 : Int) : Option (Bool) := (impl_InRange.f a1 0 (wrap64 ((l0_1.length : Int) - 1))).bind fun t332 => (some t332)
set_option maxHeartbeats 8000000 in
set_option maxRecDepth 100000 in
theorem impl_isSatellite.calls (a0_0 : Int) (A0_1 : Option Addr) (c0_1 : Nat) (l0_1 : List (S105)) (A0_2 : Option Addr) (c0_2 : Nat) (l0_2 : List (S109)) (a0_3 : Int) (a0_4 : Int) (a0_5 : Int) (a0_6 : Int) (a0_7 : Int) (A0_8 : Option Addr) (c0_8 : Nat) (l0_8 : List (S115)) (a0_9 : Int) (a1 : Int) (r : Bool) (w : World) (hr0_1 : Kd.C k105 w A0_1 l0_1.length l0_1) (hc0_1 : l0_1.length ≤ c0_1) (hr0_2 : Kd.C k109 w A0_2 l0_2.length l0_2) (hc0_2 : l0_2.length ≤ c0_2) (hr0_8 : Kd.C k115 w A0_8 l0_8.length l0_8) (hc0_8 : l0_8.length ≤ c0_8) (h : impl_isSatellite.f a0_0 l0_1 l0_2 a0_3 a0_4 a0_5 a0_6 a0_7 l0_8 a0_9 a1 = some r) :
  Calls Try.prog 105 #[.agg #[.int .i64 a0_0, .slice A0_1 l0_1.length c0_1, .slice A0_2 l0_2.length c0_2, .int .i64 a0_3, .int .i64 a0_4, .int .i64 a0_5, .int .i64 a0_6, .int .i64 a0_7, .slice A0_8 l0_8.length c0_8, .int .i64 a0_9], .int .i64 a1] w fun e w' => e = .returned (.bool r) ∧ Below w.heap.size w w' := by
 have hu34 := Try.underlying34
 have HR0_1 := Aside0.mk hr0_1
 have HC0_1 := Aside0.mk hc0_1
 clear hr0_1 hc0_1
 have HR0_2 := Aside0.mk hr0_2
 have HC0_2 := Aside0.mk hc0_2
 clear hr0_2 hc0_2
 have HR0_8 := Aside0.mk hr0_8
 have HC0_8 := Aside0.mk hc0_8
 clear hr0_8 hc0_8
 have HB := Aside0.mk (Below.refl w.heap.size w)
 have H := h
 clear h
 unfold impl_isSatellite.f at H
 replace H := bs_ H
 obtain ⟨t332, A3, H⟩ := H
 obtain rfl := Option.some.inj H
 go_enter Try.func105, Try.ntmps105
 go_wp2_with (first | ((with_reducible refine gd_ 2 ?_); refine bx_ 2 34 #[.int .i64 a0_0, .slice A0_1 l0_1.length c0_1, .slice A0_2 l0_2.length c0_2, .int .i64 a0_3, .int .i64 a0_4, .int .i64 a0_5, .int .i64 a0_6, .int .i64 a0_7, .slice A0_8 l0_8.length c0_8, .int .i64 a0_9] ?_; intro gb331 hg w4 hbox hb; refine sh3_ (below_step (bl_ HB) hb) hbox (ge_ hg (bl_ HB)) ?_; clear HB hb hbox hg; intro HB BK331 GE331; have hcz5 := cf10_ BK331) | ((with_reducible refine gate_callee (f := 120) rfl ?_); refine gl_ 10 Try.func120 (impl_InRange.calls a1 0 (wrap64 ((l0_1.length : Int) - 1)) t332 _ A3.out) ?_; rintro e w' ⟨rfl, ⟨nd, rfl⟩⟩; refine ⟨_, rfl, ?_⟩))
 go_ret
 exact ⟨er_, bl1_ HB GE331⟩

/-! ### impl_Mod: function 137 -/
def impl_Mod.f (a0 : Int) (a1 : Int) : Option (Int) := (impl_InRange.f a1 1 1000000000000).bind fun t333 => (if t333 = true then (if a1 = 0 then (none) else (if (Int.tmod a0 a1) < 0 then (some (wrap64 ((Int.tmod a0 a1) + a1))) else (some (Int.tmod a0 a1)))) else (some 0))
set_option maxHeartbeats 8000000 in
set_option maxRecDepth 100000 in
theorem impl_Mod.calls (a0 : Int) (a1 : Int) (r : Int) (w : World) (h : impl_Mod.f a0 a1 = some r) :
  Calls Try.prog 137 #[.int .i64 a0, .int .i64 a1] w fun e w' => e = .returned (.int .i64 r) ∧ Drawn0 w w' := by
 have H := h
 clear h
 unfold impl_Mod.f at H
 replace H := bs_ H
 obtain ⟨t333, A3, H⟩ := H
 by_cases c4 : t333 = true
 ·subst c4
  rw [if_pos rfl] at H
  by_cases c5 : a1 = 0
  ·rw [if_pos c5] at H
   exact absurd H (by simp)
  ·rw [if_neg c5] at H
   obtain ⟨c5b0, c5b1⟩ := bn_ c5
   by_cases c6 : (Int.tmod a0 a1) < 0
   ·rw [if_pos c6] at H
    have c6b0 := decide_eq_true c6
    clear c6
    obtain rfl := Option.some.inj H
    go_enter Try.func137, Try.ntmps137
    go_wp2_with (first | ((with_reducible refine gate_callee (f := 120) rfl ?_); refine gl_ 7 Try.func120 (impl_InRange.calls a1 1 1000000000000 true _ A3.out) ?_; rintro e w' ⟨rfl, ⟨nd, rfl⟩⟩; refine ⟨_, rfl, ?_⟩))
    go_ret
    exact ⟨by first | rfl | (simp; done) | (simp [*]; done), by repeat (first | exact Drawn0.refl _ | apply Drawn0.step)⟩
   ·rw [if_neg c6] at H
    have c6b0 := decide_eq_false c6
    clear c6
    obtain rfl := Option.some.inj H
    go_enter Try.func137, Try.ntmps137
    go_wp2_with (first | ((with_reducible refine gate_callee (f := 120) rfl ?_); refine gl_ 7 Try.func120 (impl_InRange.calls a1 1 1000000000000 true _ A3.out) ?_; rintro e w' ⟨rfl, ⟨nd, rfl⟩⟩; refine ⟨_, rfl, ?_⟩))
    go_ret
    exact ⟨by first | rfl | (simp; done) | (simp [*]; done), by repeat (first | exact Drawn0.refl _ | apply Drawn0.step)⟩
 ·replace c4 := Bool.eq_false_iff.mpr c4
  subst c4
  have H1 : (some 0) = some r := by rw [if_neg (show ¬ (false = true) by decide)] at H; exact H
  clear H
  have H := H1
  clear H1
  obtain rfl := Option.some.inj H
  go_enter Try.func137, Try.ntmps137
  go_wp2_with (first | ((with_reducible refine gate_callee (f := 120) rfl ?_); refine gl_ 7 Try.func120 (impl_InRange.calls a1 1 1000000000000 false _ A3.out) ?_; rintro e w' ⟨rfl, ⟨nd, rfl⟩⟩; refine ⟨_, rfl, ?_⟩))
  go_ret
  exact ⟨by first | rfl | (simp; done) | (simp [*]; done), by repeat (first | exact Drawn0.refl _ | apply Drawn0.step)⟩

/-! ### impl_AngleOf: function 130 -/
def impl_AngleOf.f (a0 : Int) : Option (Int) := (impl_Mod.f a0 360).bind fun t334 => (some t334)
set_option maxHeartbeats 8000000 in
set_option maxRecDepth 100000 in
theorem impl_AngleOf.calls (a0 : Int) (r : Int) (w : World) (h : impl_AngleOf.f a0 = some r) :
  Calls Try.prog 130 #[.int .i64 a0] w fun e w' => e = .returned (.int .i64 r) ∧ Drawn0 w w' := by
 have H := h
 clear h
 unfold impl_AngleOf.f at H
 replace H := bs_ H
 obtain ⟨t334, A2, H⟩ := H
 obtain rfl := Option.some.inj H
 go_enter Try.func130, Try.ntmps130
 go_wp2_with (first | ((with_reducible refine gate_callee (f := 137) rfl ?_); refine gl_ 4 Try.func137 (impl_Mod.calls a0 360 t334 _ A2.out) ?_; rintro e w' ⟨rfl, ⟨nd, rfl⟩⟩; refine ⟨_, rfl, ?_⟩))
 go_ret
 exact ⟨by first | rfl | (simp; done) | (simp [*]; done), by repeat (first | exact Drawn0.refl _ | apply Drawn0.step)⟩

/-! ### impl_speedOf: function 135 -/
def impl_speedOf.f (a0_0 : Int) (a0_1 : Int) (a0_2 : Int) (a0_3 : Int) : Option (Int) := (impl_InRange.f a0_2 (-60) 60).bind fun t336 => (if t336 = true then (some a0_2) else (some 0))
set_option maxHeartbeats 8000000 in
set_option maxRecDepth 100000 in
theorem impl_speedOf.calls (a0_0 : Int) (a0_1 : Int) (a0_2 : Int) (a0_3 : Int) (r : Int) (w : World) (h : impl_speedOf.f a0_0 a0_1 a0_2 a0_3 = some r) :
  Calls Try.prog 135 #[.agg #[.int .i64 a0_0, .int .i64 a0_1, .int .i64 a0_2, .int .i64 a0_3]] w fun e w' => e = .returned (.int .i64 r) ∧ Below w.heap.size w w' := by
 have hu105 := Try.underlying105
 have HB := Aside0.mk (Below.refl w.heap.size w)
 have H := h
 clear h
 unfold impl_speedOf.f at H
 replace H := bs_ H
 obtain ⟨t336, A2, H⟩ := H
 by_cases c3 : t336 = true
 ·subst c3
  rw [if_pos rfl] at H
  obtain rfl := Option.some.inj H
  go_enter Try.func135, Try.ntmps135
  go_wp2_with (first | ((with_reducible refine gd_ 1 ?_); refine bx_ 1 105 #[.int .i64 a0_0, .int .i64 a0_1, .int .i64 a0_2, .int .i64 a0_3] ?_; intro gb335 hg w4 hbox hb; refine sh3_ (below_step (bl_ HB) hb) hbox (ge_ hg (bl_ HB)) ?_; clear HB hb hbox hg; intro HB BK335 GE335; have hcz5 := cf4_ BK335) | ((with_reducible refine gate_callee (f := 120) rfl ?_); refine gl_ 5 Try.func120 (impl_InRange.calls a0_2 (-60) 60 true _ A2.out) ?_; rintro e w' ⟨rfl, ⟨nd, rfl⟩⟩; refine ⟨_, rfl, ?_⟩))
  go_ret
  exact ⟨er_, bl1_ HB GE335⟩
 ·replace c3 := Bool.eq_false_iff.mpr c3
  subst c3
  have H1 : (some 0) = some r := by rw [if_neg (show ¬ (false = true) by decide)] at H; exact H
  clear H
  have H := H1
  clear H1
  obtain rfl := Option.some.inj H
  go_enter Try.func135, Try.ntmps135
  go_wp2_with (first | ((with_reducible refine gd_ 1 ?_); refine bx_ 1 105 #[.int .i64 a0_0, .int .i64 a0_1, .int .i64 a0_2, .int .i64 a0_3] ?_; intro gb335 hg w6 hbox hb; refine sh3_ (below_step (bl_ HB) hb) hbox (ge_ hg (bl_ HB)) ?_; clear HB hb hbox hg; intro HB BK335 GE335; have hcz7 := cf4_ BK335) | ((with_reducible refine gate_callee (f := 120) rfl ?_); refine gl_ 5 Try.func120 (impl_InRange.calls a0_2 (-60) 60 false _ A2.out) ?_; rintro e w' ⟨rfl, ⟨nd, rfl⟩⟩; refine ⟨_, rfl, ?_⟩))
  go_ret
  exact ⟨er_, bl1_ HB GE335⟩

end Go.Proofs.Ytcjfalmhohcifaa.PFnExactSpeakingSpans
