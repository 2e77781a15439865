-- Written by a program of this session for this claim (the kit's printer with changes).
import Derived.Test.YtcjfalmhohcifaaQFnExactSpeakingSpansx0
import Derived.Test.YtcjfalmhohcifaaQFnExactSpeakingSpansx1
import Derived.Test.YtcjfalmhohcifaaQFnExactSpeakingSpansx2
namespace Go.Proofs.Ytcjfalmhohcifaa.PFnExactSpeakingSpans
open Go.RowKit Go.Proofs.YtcjfalmhohcifaaW.PrintWords Go.Proofs.YtcjfalmhohcifaaW.PrintLast Go.Proofs.YtcjfalmhohcifaaW.PrintMore
attribute [local go_sem] max2_int min2_int max_two min_two max_three min_three max_four min_four   -- for this text's walks alone
set_option linter.unusedVariables false
set_option linter.unusedSimpArgs false

/-! ### spec_SightAt: function 97 -/
def spec_SightAt.f (k : Nat) (a0_0 : Int) (l0_1 : List (S105)) (l0_2 : List (S109)) (a0_3 : Int) (a0_4 : Int) (a0_5 : Int) (a0_6 : Int) (a0_7 : Int) (l0_8 : List (S115)) (a0_9 : Int) (a1 : Int) (a2 : Int) (a3 : Int) : Option (Int) := (spec_LimitOf.f k a0_0 l0_1 l0_2 a0_3 a0_4 a0_5 a0_6 a0_7 l0_8 a0_9 a1 a2).bind fun t173 => (if t173 < 0 then (some 0) else ((spec_NodeAt.f k a0_0 l0_1 l0_2 a0_3 a0_4 a0_5 a0_6 a0_7 l0_8 a0_9 a1 a3).bind fun bt174 => ((spec_NodeAt.f k a0_0 l0_1 l0_2 a0_3 a0_4 a0_5 a0_6 a0_7 l0_8 a0_9 a2 a3).bind fun bt177 => ((spec_MiddleOf.f bt174.1 bt174.2).bind fun t180 => ((spec_MiddleOf.f bt177.1 bt177.2).bind fun t181 => ((spec_GapOf.f t180 t181).bind fun t182 => (if (wrap64 (t182 - (wrap64 ((wrap64 ((wrap64 (Int.tdiv bt174.2 2)) + (wrap64 (Int.tdiv bt177.2 2)))) + (wrap64 (Int.tdiv (wrap64 ((Int.tmod bt174.2 2) + (Int.tmod bt177.2 2))) 2)))))) > t173 then (some 0) else (if (wrap64 (t182 + (wrap64 ((wrap64 ((wrap64 (Int.tdiv bt174.2 2)) + (wrap64 (Int.tdiv bt177.2 2)))) + (wrap64 (Int.tdiv (wrap64 ((Int.tmod bt174.2 2) + (Int.tmod bt177.2 2))) 2)))))) ≤ t173 then (some 2) else (some 1)))))))))
theorem spec_SightAt.mono : ∀ a0 a1 a2 a3 a4 a5 a6 a7 a8 a9 a10 a11 a12 k, LeO (spec_SightAt.f k a0 a1 a2 a3 a4 a5 a6 a7 a8 a9 a10 a11 a12) (spec_SightAt.f (k + 1) a0 a1 a2 a3 a4 a5 a6 a7 a8 a9 a10 a11 a12) := by
 intro a0 a1 a2 a3 a4 a5 a6 a7 a8 a9 a10 a11 a12 k
 unfold spec_SightAt.f
 repeat' first | (with_reducible first | exact spec_LimitOf.mono _ _ _ _ _ _ _ _ _ _ _ _ _ | exact spec_NodeAt.mono _ _ _ _ _ _ _ _ _ _ _ _ _ | exact LeO.refl _ | exact LeO.none _ | refine LeO.ite ?_ ?_ | refine LeO.bind ?_ (fun _ => ?_)) | exact LeO.none _ | refine LeO.ite ?_ ?_ | refine LeO.bind ?_ (fun _ => ?_)
set_option maxHeartbeats 8000000 in
set_option maxRecDepth 100000 in
theorem spec_SightAt.calls (k : Nat) (a0_0 : Int) (A0_1 : Option Addr) (c0_1 : Nat) (l0_1 : List (S105)) (A0_2 : Option Addr) (c0_2 : Nat) (l0_2 : List (S109)) (a0_3 : Int) (a0_4 : Int) (a0_5 : Int) (a0_6 : Int) (a0_7 : Int) (A0_8 : Option Addr) (c0_8 : Nat) (l0_8 : List (S115)) (a0_9 : Int) (a1 : Int) (a2 : Int) (a3 : Int) (r : Int) (w : World) (hr0_1 : Kd.C k105 w A0_1 l0_1.length l0_1) (hc0_1 : l0_1.length ≤ c0_1) (hr0_2 : Kd.C k109 w A0_2 l0_2.length l0_2) (hc0_2 : l0_2.length ≤ c0_2) (hr0_8 : Kd.C k115 w A0_8 l0_8.length l0_8) (hc0_8 : l0_8.length ≤ c0_8) (h : spec_SightAt.f k a0_0 l0_1 l0_2 a0_3 a0_4 a0_5 a0_6 a0_7 l0_8 a0_9 a1 a2 a3 = some r) :
  Calls Try.prog 97 #[.agg #[.int .i64 a0_0, .slice A0_1 l0_1.length c0_1, .slice A0_2 l0_2.length c0_2, .int .i64 a0_3, .int .i64 a0_4, .int .i64 a0_5, .int .i64 a0_6, .int .i64 a0_7, .slice A0_8 l0_8.length c0_8, .int .i64 a0_9], .int .i64 a1, .int .i64 a2, .int .i64 a3] w fun e w' => e = .returned (.int .i64 r) ∧ Below w.heap.size w w' := by
 have hu34 := Try.underlying34
 have hu113 := Try.underlying113
 have HR0_1 := Aside0.mk hr0_1
 have HC0_1 := Aside0.mk hc0_1
 clear hr0_1 hc0_1
 have HR0_2 := Aside0.mk hr0_2
 have HC0_2 := Aside0.mk hc0_2
 clear hr0_2 hc0_2
 have HR0_8 := Aside0.mk hr0_8
 have HC0_8 := Aside0.mk hc0_8
 clear hr0_8 hc0_8
 have HB := Aside0.mk (Below.refl w.heap.size w)
 have H := h
 clear h
 unfold spec_SightAt.f at H
 replace H := bs_ H
 obtain ⟨t173, A5, H⟩ := H
 by_cases c6 : t173 < 0
 ·rw [if_pos c6] at H
  have c6b0 := decide_eq_true c6
  clear c6
  obtain rfl := Option.some.inj H
  go_enter Try.func97, Try.ntmps97
  go_wp2_with (first | ((with_reducible refine gd_ 4 ?_); refine bx_ 4 34 #[.int .i64 a0_0, .slice A0_1 l0_1.length c0_1, .slice A0_2 l0_2.length c0_2, .int .i64 a0_3, .int .i64 a0_4, .int .i64 a0_5, .int .i64 a0_6, .int .i64 a0_7, .slice A0_8 l0_8.length c0_8, .int .i64 a0_9] ?_; intro gb172 hg w7 hbox hb; refine sh3_ (below_step (bl_ HB) hb) hbox (ge_ hg (bl_ HB)) ?_; clear HB hb hbox hg; intro HB BK172 GE172; have hcz8 := cf10_ BK172) | ((with_reducible refine gate_callee (f := 110) rfl ?_); refine gl_ 17 Try.func110 (spec_LimitOf.calls k a0_0 _ _ l0_1 _ _ l0_2 a0_3 a0_4 a0_5 a0_6 a0_7 _ _ l0_8 a0_9 a1 a2 t173 _ (ck_ HR0_1 HB) HC0_1.out (ck_ HR0_2 HB) HC0_2.out (ck_ HR0_8 HB) HC0_8.out A5.out) ?_; rintro e w9 ⟨rfl, hb⟩; refine ⟨_, rfl, sh2_ (blk_below (bk_ BK172) hb) (below_step (bl1_ HB GE172) hb) ?_⟩; clear BK172 HB hb; intro BK172 HB))
  go_ret
  exact ⟨er_, bl1_ HB GE172⟩
 ·rw [if_neg c6] at H
  have c6b0 := decide_eq_false c6
  clear c6
  replace H := bs_ H
  obtain ⟨⟨t174, t175⟩, A10, H⟩ := H
  dsimp only at H
  replace H := bs_ H
  obtain ⟨⟨t177, t178⟩, A11, H⟩ := H
  dsimp only at H
  replace H := bs_ H
  obtain ⟨t180, A12, H⟩ := H
  replace H := bs_ H
  obtain ⟨t181, A13, H⟩ := H
  replace H := bs_ H
  obtain ⟨t182, A14, H⟩ := H
  by_cases c15 : (wrap64 (t182 - (wrap64 ((wrap64 ((wrap64 (Int.tdiv t175 2)) + (wrap64 (Int.tdiv t178 2)))) + (wrap64 (Int.tdiv (wrap64 ((Int.tmod t175 2) + (Int.tmod t178 2))) 2)))))) > t173
  ·rw [if_pos c15] at H
   have c15b0 : decide (t173 < (wrap64 (t182 - (wrap64 ((wrap64 ((wrap64 (Int.tdiv t175 2)) + (wrap64 (Int.tdiv t178 2)))) + (wrap64 (Int.tdiv (wrap64 ((Int.tmod t175 2) + (Int.tmod t178 2))) 2))))))) = true := decide_eq_true c15
   clear c15
   obtain rfl := Option.some.inj H
   go_enter Try.func97, Try.ntmps97
   try go_wp2_with (first | ((with_reducible refine gd_ 4 ?_); refine bx_ 4 34 #[.int .i64 a0_0, .slice A0_1 l0_1.length c0_1, .slice A0_2 l0_2.length c0_2, .int .i64 a0_3, .int .i64 a0_4, .int .i64 a0_5, .int .i64 a0_6, .int .i64 a0_7, .slice A0_8 l0_8.length c0_8, .int .i64 a0_9] ?_; intro gb172 hg w16 hbox hb; refine sh3_ (below_step (bl_ HB) hb) hbox (ge_ hg (bl_ HB)) ?_; clear HB hb hbox hg; intro HB BK172 GE172; have hcz17 := cf10_ BK172) | ((with_reducible refine gate_callee (f := 110) rfl ?_); refine gl_ 17 Try.func110 (spec_LimitOf.calls k a0_0 _ _ l0_1 _ _ l0_2 a0_3 a0_4 a0_5 a0_6 a0_7 _ _ l0_8 a0_9 a1 a2 t173 _ (ck_ HR0_1 HB) HC0_1.out (ck_ HR0_2 HB) HC0_2.out (ck_ HR0_8 HB) HC0_8.out A5.out) ?_; rintro e w18 ⟨rfl, hb⟩; refine ⟨_, rfl, sh2_ (blk_below (bk_ BK172) hb) (below_step (bl1_ HB GE172) hb) ?_⟩; clear BK172 HB hb; intro BK172 HB; have hcz19 := cf10_ BK172) | ((with_reducible refine gate_callee (f := 103) rfl ?_); refine gl_ 23 Try.func103 (spec_NodeAt.calls k a0_0 _ _ l0_1 _ _ l0_2 a0_3 a0_4 a0_5 a0_6 a0_7 _ _ l0_8 a0_9 a1 a3 t174 t175 _ (ck_ HR0_1 HB) HC0_1.out (ck_ HR0_2 HB) HC0_2.out (ck_ HR0_8 HB) HC0_8.out A10.out) ?_; rintro e w20 ⟨rfl, hb⟩; refine ⟨_, rfl, sh2_ (blk_below (bk_ BK172) hb) (below_step (bl1_ HB GE172) hb) ?_⟩; clear BK172 HB hb; intro BK172 HB) | ((with_reducible refine gd_ 10 ?_); refine bx_ 10 113 #[.int .i64 0, .int .i64 0] ?_; intro gb176 hg w21 hbox hb; refine sh6_ (blk_below (bk_ BK172) hb) (below_step (bl1_ HB GE172) hb) hbox (ge_ hg (bl1_ HB GE172)) (nl_ hg (bk_ BK172)) (ng_ hg (bk_ BK172)) ?_; clear BK172 HB hb hbox hg; intro BK172 HB BK176 GE176 NB172_176 NB176_172; have hnb22 := NB176_172.out; have hnc22 := NB172_176.out; have hcz23 := cf2_ BK176; have hcz24 := cf10_ BK172) | ((with_reducible refine gate_callee (f := 103) rfl ?_); refine goesL_ (some 27) rfl rfl Try.func103 (by kernel_rfl) rfl #[.agg #[.int .i64 a0_0, .slice A0_1 l0_1.length c0_1, .slice A0_2 l0_2.length c0_2, .int .i64 a0_3, .int .i64 a0_4, .int .i64 a0_5, .int .i64 a0_6, .int .i64 a0_7, .slice A0_8 l0_8.length c0_8, .int .i64 a0_9], .int .i64 a2, .int .i64 a3] rfl mp_ ?_; (with_reducible refine (spec_NodeAt.calls k a0_0 _ _ l0_1 _ _ l0_2 a0_3 a0_4 a0_5 a0_6 a0_7 _ _ l0_8 a0_9 a2 a3 t177 t178 _ ?side1 ?side2 ?side3 ?side4 ?side5 ?side6 A11.out).mono ?_); (case side1 => exact Kd.C_below HR0_1.out (bl2_ HB GE172 GE176)); (case side2 => exact HC0_1.out); (case side3 => exact Kd.C_below HR0_2.out (bl2_ HB GE172 GE176)); (case side4 => exact HC0_2.out); (case side5 => exact Kd.C_below HR0_8.out (bl2_ HB GE172 GE176)); (case side6 => exact HC0_8.out); rintro e w25 ⟨rfl, hb⟩; refine ⟨_, rfl, sh3_ (blk_below (g := gb172) (o := .cells #[.int .i64 a0_0, .slice A0_1 l0_1.length c0_1, .slice A0_2 l0_2.length c0_2, .int .i64 a0_3, .int .i64 a0_4, .int .i64 a0_5, .int .i64 a0_6, .int .i64 a0_7, .slice A0_8 l0_8.length c0_8, .int .i64 a0_9] 34 (0, 0)) (bp_ BK172) hb) (blk_below (g := gb176) (o := .cells #[.int .i64 t174, .int .i64 t175] 113 (0, 0)) (bp_ BK176) hb) (below_step (bl2_ HB GE172 GE176) hb) ?_⟩; clear BK172 BK176 HB hb; intro BK172 BK176 HB) | ((with_reducible refine gd_ 11 ?_); refine bx_ 11 113 #[.int .i64 0, .int .i64 0] ?_; intro gb179 hg w26 hbox hb; refine sh9_ (blk_below (bk_ BK172) hb) (blk_below (bk_ BK176) hb) (below_step (bl2_ HB GE172 GE176) hb) hbox (ge_ hg (bl2_ HB GE172 GE176)) (nl_ hg (bk_ BK172)) (ng_ hg (bk_ BK172)) (nl_ hg (bk_ BK176)) (ng_ hg (bk_ BK176)) ?_; clear BK172 BK176 HB hb hbox hg; intro BK172 BK176 HB BK179 GE179 NB172_179 NB179_172 NB176_179 NB179_176; have hnb27 := NB179_172.out; have hnc27 := NB172_179.out; have hnb28 := NB179_176.out; have hnc28 := NB176_179.out; have hcz29 := cf2_ BK179))
   have n0_ : Aside0 (((w26.setCell ⟨gb179, 0, none⟩ (.int .i64 t177)).setCell ⟨gb179, 1, none⟩ (.int .i64 t178)).heap[gb172]? = some (.cells #[.int .i64 a0_0, .slice A0_1 l0_1.length c0_1, .slice A0_2 l0_2.length c0_2, .int .i64 a0_3, .int .i64 a0_4, .int .i64 a0_5, .int .i64 a0_6, .int .i64 a0_7, .slice A0_8 l0_8.length c0_8, .int .i64 a0_9] 34 (0, 0))) := ⟨by (with_reducible repeat (first | refine blk_drewN ?_ _ | refine blk_drew ?_ | refine blk_alloc ?_ _)); refine blk_far ?_ NB172_179.out _; (with_reducible repeat (first | refine blk_drewN ?_ _ | refine blk_drew ?_ | refine blk_alloc ?_ _)); refine blk_far ?_ NB172_179.out _; (with_reducible repeat (first | refine blk_drewN ?_ _ | refine blk_drew ?_ | refine blk_alloc ?_ _)); exact BK172.out⟩
   have n1_ : Aside0 (((w26.setCell ⟨gb179, 0, none⟩ (.int .i64 t177)).setCell ⟨gb179, 1, none⟩ (.int .i64 t178)).heap[gb176]? = some (.cells #[.int .i64 t174, .int .i64 t175] 113 (0, 0))) := ⟨by (with_reducible repeat (first | refine blk_drewN ?_ _ | refine blk_drew ?_ | refine blk_alloc ?_ _)); refine blk_far ?_ NB176_179.out _; (with_reducible repeat (first | refine blk_drewN ?_ _ | refine blk_drew ?_ | refine blk_alloc ?_ _)); refine blk_far ?_ NB176_179.out _; (with_reducible repeat (first | refine blk_drewN ?_ _ | refine blk_drew ?_ | refine blk_alloc ?_ _)); exact BK176.out⟩
   have n2_ : Aside0 (((w26.setCell ⟨gb179, 0, none⟩ (.int .i64 t177)).setCell ⟨gb179, 1, none⟩ (.int .i64 t178)).heap[gb179]? = some (.cells #[.int .i64 t177, .int .i64 t178] 113 (0, 0))) := ⟨by (with_reducible repeat (first | refine blk_drewN ?_ _ | refine blk_drew ?_ | refine blk_alloc ?_ _)); refine blk_put (cs := #[.int .i64 t177, .int .i64 0]) ?_ 1 _ rfl; (with_reducible repeat (first | refine blk_drewN ?_ _ | refine blk_drew ?_ | refine blk_alloc ?_ _)); refine blk_put (cs := #[.int .i64 0, .int .i64 0]) ?_ 0 _ rfl; (with_reducible repeat (first | refine blk_drewN ?_ _ | refine blk_drew ?_ | refine blk_alloc ?_ _)); exact BK179.out⟩
   have n3_ : Aside0 (Below w.heap.size w ((w26.setCell ⟨gb179, 0, none⟩ (.int .i64 t177)).setCell ⟨gb179, 1, none⟩ (.int .i64 t178))) := ⟨bl3_ HB GE172 GE176 GE179⟩
   (try clear BK172)
   (try clear BK176)
   (try clear BK179)
   (try clear HB)
   generalize ((w26.setCell ⟨gb179, 0, none⟩ (.int .i64 t177)).setCell ⟨gb179, 1, none⟩ (.int .i64 t178)) = w30 at n0_ n1_ n2_ n3_ ⊢
   have BK172 := n0_
   have BK176 := n1_
   have BK179 := n2_
   have HB := n3_
   clear n0_ n1_ n2_ n3_
   refine sh4_ (blk_drew BK172.out) (blk_drew BK176.out) (blk_drew BK179.out) (below_drew1 HB.out) ?_
   clear BK172 BK176 BK179 HB
   intro BK172 BK176 BK179 HB
   refine start_ (n := 6) (S := fun w' => Ck2 w' gb176 (.int .i64 t174) (.int .i64 t175) (Cz2 w' gb179 (.int .i64 t177) (.int .i64 t178))) (ds := []) #[false, false, false, false, false, false] (by kernel_rfl) rfl rfl ⟨(bc_ BK176 0 rfl), (bc_ BK176 1 rfl), cz2_ BK179⟩ (fun hHeld => ?_)
   generalize w30.drew = w31 at BK172 BK176 BK179 HB hHeld ⊢
   refine take_ (i := 0) (N := some 28) (v := ?_) (a' := ?_) #[true, false, false, false, false, false] rfl rfl (by kernel_rfl) (fun _ _ _ h => h) (Or.inl ⟨by rfl, ?_⟩) hHeld ?_ ?_
   rotate_left
   ·rintro w' ⟨s0, s1, s2, s3⟩
    go_simp
    with_reducible rfl
   rotate_left
   ·simp only [Act.put, List.setIfInBounds_toArray, List.set_cons_zero, List.set_cons_succ, i64_w, i32_w]
    rfl
   refine take_ (i := 2) (N := some 30) (v := ?_) (a' := ?_) #[true, false, true, false, false, false] rfl rfl (by kernel_rfl) (fun _ _ _ h => h) (Or.inl ⟨by rfl, ?_⟩) hHeld ?_ ?_
   rotate_left
   ·rintro w' ⟨s0, s1, s2, s3⟩
    go_simp
    with_reducible rfl
   rotate_left
   ·simp only [Act.put, List.setIfInBounds_toArray, List.set_cons_zero, List.set_cons_succ, i64_w, i32_w]
    rfl
   refine one_ (i := 1) (N := some 29) #[true, true, true, false, false, false] rfl rfl (by kernel_rfl) (by decide) (fun K hK => ?_)
   refine goes_ Try.func112 (by kernel_rfl) rfl #[.agg #[.int .i64 t174, .int .i64 t175]] (by rfl) rfl rfl mp_ ?_
   with_reducible refine (spec_MiddleOf.calls t174 t175 t180 _ A12.out).mono ?_
   rintro e w32 ⟨rfl, hb⟩
   refine ⟨_, rfl, sh4_ (blk_below (bk_ BK172) hb) (blk_below (bk_ BK176) hb) (blk_below (bk_ BK179) hb) (below_step (bl3_ HB GE172 GE176 GE179) hb) ?_⟩
   clear BK172 BK176 BK179 HB hb
   intro BK172 BK176 BK179 HB
   refine hK.out _ _ ⟨(bc_ BK176 0 rfl), (bc_ BK176 1 rfl), cz2_ BK179⟩ (fun hHeld => ?_)
   clear hK K
   refine norm_ (show Act.put _ (some 29) _ = _ from pt_) ?_
   refine one_ (i := 3) (N := some 31) #[true, true, true, true, false, false] rfl rfl (by kernel_rfl) (by decide) (fun K hK => ?_)
   refine goes_ Try.func112 (by kernel_rfl) rfl #[.agg #[.int .i64 t177, .int .i64 t178]] (by rfl) rfl rfl mp_ ?_
   with_reducible refine (spec_MiddleOf.calls t177 t178 t181 _ A13.out).mono ?_
   rintro e w33 ⟨rfl, hb⟩
   refine ⟨_, rfl, sh4_ (blk_below (bk_ BK172) hb) (blk_below (bk_ BK176) hb) (blk_below (bk_ BK179) hb) (below_step (bl3_ HB GE172 GE176 GE179) hb) ?_⟩
   clear BK172 BK176 BK179 HB hb
   intro BK172 BK176 BK179 HB
   refine hK.out _ _ ⟨(bc_ BK176 0 rfl), (bc_ BK176 1 rfl), cz2_ BK179⟩ (fun hHeld => ?_)
   clear hK K
   refine norm_ (show Act.put _ (some 31) _ = _ from pt_) ?_
   refine one_ (i := 4) (N := some 32) #[true, true, true, true, true, false] rfl rfl (by kernel_rfl) (by decide) (fun K hK => ?_)
   refine goes_ Try.func111 (by kernel_rfl) rfl #[.int .i64 t180, .int .i64 t181] (by rfl) rfl rfl mp_ ?_
   with_reducible refine (spec_GapOf.calls t180 t181 t182 _ A14.out).mono ?_
   rintro e w' ⟨rfl, ⟨nd, rfl⟩⟩
   refine ⟨_, rfl, ?_⟩
   refine hK.out _ _ ⟨(bc_ BK176 0 rfl), (bc_ BK176 1 rfl), cz2_ BK179⟩ (fun hHeld => ?_)
   clear hK K
   refine norm_ (show Act.put _ (some 32) _ = _ from pt_) ?_
   refine pu0_ 5 #[true, true, true, true, true, true] (some 12) ?_
   refine done_ (by kernel_rfl) ?_
   have hcz34 := cf2_ BK176
   have hcz35 := cf2_ BK179
   try go_wp2
   go_ret
   exact ⟨er_, bl3_ HB GE172 GE176 GE179⟩
  ·rw [if_neg c15] at H
   have c15b0 : decide (t173 < (wrap64 (t182 - (wrap64 ((wrap64 ((wrap64 (Int.tdiv t175 2)) + (wrap64 (Int.tdiv t178 2)))) + (wrap64 (Int.tdiv (wrap64 ((Int.tmod t175 2) + (Int.tmod t178 2))) 2))))))) = false := decide_eq_false c15
   clear c15
   by_cases c36 : (wrap64 (t182 + (wrap64 ((wrap64 ((wrap64 (Int.tdiv t175 2)) + (wrap64 (Int.tdiv t178 2)))) + (wrap64 (Int.tdiv (wrap64 ((Int.tmod t175 2) + (Int.tmod t178 2))) 2)))))) ≤ t173
   ·rw [if_pos c36] at H
    have c36b0 := decide_eq_true c36
    clear c36
    obtain rfl := Option.some.inj H
    go_enter Try.func97, Try.ntmps97
    try go_wp2_with (first | ((with_reducible refine gd_ 4 ?_); refine bx_ 4 34 #[.int .i64 a0_0, .slice A0_1 l0_1.length c0_1, .slice A0_2 l0_2.length c0_2, .int .i64 a0_3, .int .i64 a0_4, .int .i64 a0_5, .int .i64 a0_6, .int .i64 a0_7, .slice A0_8 l0_8.length c0_8, .int .i64 a0_9] ?_; intro gb172 hg w37 hbox hb; refine sh3_ (below_step (bl_ HB) hb) hbox (ge_ hg (bl_ HB)) ?_; clear HB hb hbox hg; intro HB BK172 GE172; have hcz38 := cf10_ BK172) | ((with_reducible refine gate_callee (f := 110) rfl ?_); refine gl_ 17 Try.func110 (spec_LimitOf.calls k a0_0 _ _ l0_1 _ _ l0_2 a0_3 a0_4 a0_5 a0_6 a0_7 _ _ l0_8 a0_9 a1 a2 t173 _ (ck_ HR0_1 HB) HC0_1.out (ck_ HR0_2 HB) HC0_2.out (ck_ HR0_8 HB) HC0_8.out A5.out) ?_; rintro e w39 ⟨rfl, hb⟩; refine ⟨_, rfl, sh2_ (blk_below (bk_ BK172) hb) (below_step (bl1_ HB GE172) hb) ?_⟩; clear BK172 HB hb; intro BK172 HB; have hcz40 := cf10_ BK172) | ((with_reducible refine gate_callee (f := 103) rfl ?_); refine gl_ 23 Try.func103 (spec_NodeAt.calls k a0_0 _ _ l0_1 _ _ l0_2 a0_3 a0_4 a0_5 a0_6 a0_7 _ _ l0_8 a0_9 a1 a3 t174 t175 _ (ck_ HR0_1 HB) HC0_1.out (ck_ HR0_2 HB) HC0_2.out (ck_ HR0_8 HB) HC0_8.out A10.out) ?_; rintro e w41 ⟨rfl, hb⟩; refine ⟨_, rfl, sh2_ (blk_below (bk_ BK172) hb) (below_step (bl1_ HB GE172) hb) ?_⟩; clear BK172 HB hb; intro BK172 HB) | ((with_reducible refine gd_ 10 ?_); refine bx_ 10 113 #[.int .i64 0, .int .i64 0] ?_; intro gb176 hg w42 hbox hb; refine sh6_ (blk_below (bk_ BK172) hb) (below_step (bl1_ HB GE172) hb) hbox (ge_ hg (bl1_ HB GE172)) (nl_ hg (bk_ BK172)) (ng_ hg (bk_ BK172)) ?_; clear BK172 HB hb hbox hg; intro BK172 HB BK176 GE176 NB172_176 NB176_172; have hnb43 := NB176_172.out; have hnc43 := NB172_176.out; have hcz44 := cf2_ BK176; have hcz45 := cf10_ BK172) | ((with_reducible refine gate_callee (f := 103) rfl ?_); refine goesL_ (some 27) rfl rfl Try.func103 (by kernel_rfl) rfl #[.agg #[.int .i64 a0_0, .slice A0_1 l0_1.length c0_1, .slice A0_2 l0_2.length c0_2, .int .i64 a0_3, .int .i64 a0_4, .int .i64 a0_5, .int .i64 a0_6, .int .i64 a0_7, .slice A0_8 l0_8.length c0_8, .int .i64 a0_9], .int .i64 a2, .int .i64 a3] rfl mp_ ?_; (with_reducible refine (spec_NodeAt.calls k a0_0 _ _ l0_1 _ _ l0_2 a0_3 a0_4 a0_5 a0_6 a0_7 _ _ l0_8 a0_9 a2 a3 t177 t178 _ ?side1 ?side2 ?side3 ?side4 ?side5 ?side6 A11.out).mono ?_); (case side1 => exact Kd.C_below HR0_1.out (bl2_ HB GE172 GE176)); (case side2 => exact HC0_1.out); (case side3 => exact Kd.C_below HR0_2.out (bl2_ HB GE172 GE176)); (case side4 => exact HC0_2.out); (case side5 => exact Kd.C_below HR0_8.out (bl2_ HB GE172 GE176)); (case side6 => exact HC0_8.out); rintro e w46 ⟨rfl, hb⟩; refine ⟨_, rfl, sh3_ (blk_below (g := gb172) (o := .cells #[.int .i64 a0_0, .slice A0_1 l0_1.length c0_1, .slice A0_2 l0_2.length c0_2, .int .i64 a0_3, .int .i64 a0_4, .int .i64 a0_5, .int .i64 a0_6, .int .i64 a0_7, .slice A0_8 l0_8.length c0_8, .int .i64 a0_9] 34 (0, 0)) (bp_ BK172) hb) (blk_below (g := gb176) (o := .cells #[.int .i64 t174, .int .i64 t175] 113 (0, 0)) (bp_ BK176) hb) (below_step (bl2_ HB GE172 GE176) hb) ?_⟩; clear BK172 BK176 HB hb; intro BK172 BK176 HB) | ((with_reducible refine gd_ 11 ?_); refine bx_ 11 113 #[.int .i64 0, .int .i64 0] ?_; intro gb179 hg w47 hbox hb; refine sh9_ (blk_below (bk_ BK172) hb) (blk_below (bk_ BK176) hb) (below_step (bl2_ HB GE172 GE176) hb) hbox (ge_ hg (bl2_ HB GE172 GE176)) (nl_ hg (bk_ BK172)) (ng_ hg (bk_ BK172)) (nl_ hg (bk_ BK176)) (ng_ hg (bk_ BK176)) ?_; clear BK172 BK176 HB hb hbox hg; intro BK172 BK176 HB BK179 GE179 NB172_179 NB179_172 NB176_179 NB179_176; have hnb48 := NB179_172.out; have hnc48 := NB172_179.out; have hnb49 := NB179_176.out; have hnc49 := NB176_179.out; have hcz50 := cf2_ BK179))
    have n0_ : Aside0 (((w47.setCell ⟨gb179, 0, none⟩ (.int .i64 t177)).setCell ⟨gb179, 1, none⟩ (.int .i64 t178)).heap[gb172]? = some (.cells #[.int .i64 a0_0, .slice A0_1 l0_1.length c0_1, .slice A0_2 l0_2.length c0_2, .int .i64 a0_3, .int .i64 a0_4, .int .i64 a0_5, .int .i64 a0_6, .int .i64 a0_7, .slice A0_8 l0_8.length c0_8, .int .i64 a0_9] 34 (0, 0))) := ⟨by (with_reducible repeat (first | refine blk_drewN ?_ _ | refine blk_drew ?_ | refine blk_alloc ?_ _)); refine blk_far ?_ NB172_179.out _; (with_reducible repeat (first | refine blk_drewN ?_ _ | refine blk_drew ?_ | refine blk_alloc ?_ _)); refine blk_far ?_ NB172_179.out _; (with_reducible repeat (first | refine blk_drewN ?_ _ | refine blk_drew ?_ | refine blk_alloc ?_ _)); exact BK172.out⟩
    have n1_ : Aside0 (((w47.setCell ⟨gb179, 0, none⟩ (.int .i64 t177)).setCell ⟨gb179, 1, none⟩ (.int .i64 t178)).heap[gb176]? = some (.cells #[.int .i64 t174, .int .i64 t175] 113 (0, 0))) := ⟨by (with_reducible repeat (first | refine blk_drewN ?_ _ | refine blk_drew ?_ | refine blk_alloc ?_ _)); refine blk_far ?_ NB176_179.out _; (with_reducible repeat (first | refine blk_drewN ?_ _ | refine blk_drew ?_ | refine blk_alloc ?_ _)); refine blk_far ?_ NB176_179.out _; (with_reducible repeat (first | refine blk_drewN ?_ _ | refine blk_drew ?_ | refine blk_alloc ?_ _)); exact BK176.out⟩
    have n2_ : Aside0 (((w47.setCell ⟨gb179, 0, none⟩ (.int .i64 t177)).setCell ⟨gb179, 1, none⟩ (.int .i64 t178)).heap[gb179]? = some (.cells #[.int .i64 t177, .int .i64 t178] 113 (0, 0))) := ⟨by (with_reducible repeat (first | refine blk_drewN ?_ _ | refine blk_drew ?_ | refine blk_alloc ?_ _)); refine blk_put (cs := #[.int .i64 t177, .int .i64 0]) ?_ 1 _ rfl; (with_reducible repeat (first | refine blk_drewN ?_ _ | refine blk_drew ?_ | refine blk_alloc ?_ _)); refine blk_put (cs := #[.int .i64 0, .int .i64 0]) ?_ 0 _ rfl; (with_reducible repeat (first | refine blk_drewN ?_ _ | refine blk_drew ?_ | refine blk_alloc ?_ _)); exact BK179.out⟩
    have n3_ : Aside0 (Below w.heap.size w ((w47.setCell ⟨gb179, 0, none⟩ (.int .i64 t177)).setCell ⟨gb179, 1, none⟩ (.int .i64 t178))) := ⟨bl3_ HB GE172 GE176 GE179⟩
    (try clear BK172)
    (try clear BK176)
    (try clear BK179)
    (try clear HB)
    generalize ((w47.setCell ⟨gb179, 0, none⟩ (.int .i64 t177)).setCell ⟨gb179, 1, none⟩ (.int .i64 t178)) = w51 at n0_ n1_ n2_ n3_ ⊢
    have BK172 := n0_
    have BK176 := n1_
    have BK179 := n2_
    have HB := n3_
    clear n0_ n1_ n2_ n3_
    refine sh4_ (blk_drew BK172.out) (blk_drew BK176.out) (blk_drew BK179.out) (below_drew1 HB.out) ?_
    clear BK172 BK176 BK179 HB
    intro BK172 BK176 BK179 HB
    refine start_ (n := 6) (S := fun w' => Ck2 w' gb176 (.int .i64 t174) (.int .i64 t175) (Cz2 w' gb179 (.int .i64 t177) (.int .i64 t178))) (ds := []) #[false, false, false, false, false, false] (by kernel_rfl) rfl rfl ⟨(bc_ BK176 0 rfl), (bc_ BK176 1 rfl), cz2_ BK179⟩ (fun hHeld => ?_)
    generalize w51.drew = w52 at BK172 BK176 BK179 HB hHeld ⊢
    refine take_ (i := 0) (N := some 28) (v := ?_) (a' := ?_) #[true, false, false, false, false, false] rfl rfl (by kernel_rfl) (fun _ _ _ h => h) (Or.inl ⟨by rfl, ?_⟩) hHeld ?_ ?_
    rotate_left
    ·rintro w' ⟨s0, s1, s2, s3⟩
     go_simp
     with_reducible rfl
    rotate_left
    ·simp only [Act.put, List.setIfInBounds_toArray, List.set_cons_zero, List.set_cons_succ, i64_w, i32_w]
     rfl
    refine take_ (i := 2) (N := some 30) (v := ?_) (a' := ?_) #[true, false, true, false, false, false] rfl rfl (by kernel_rfl) (fun _ _ _ h => h) (Or.inl ⟨by rfl, ?_⟩) hHeld ?_ ?_
    rotate_left
    ·rintro w' ⟨s0, s1, s2, s3⟩
     go_simp
     with_reducible rfl
    rotate_left
    ·simp only [Act.put, List.setIfInBounds_toArray, List.set_cons_zero, List.set_cons_succ, i64_w, i32_w]
     rfl
    refine one_ (i := 1) (N := some 29) #[true, true, true, false, false, false] rfl rfl (by kernel_rfl) (by decide) (fun K hK => ?_)
    refine goes_ Try.func112 (by kernel_rfl) rfl #[.agg #[.int .i64 t174, .int .i64 t175]] (by rfl) rfl rfl mp_ ?_
    with_reducible refine (spec_MiddleOf.calls t174 t175 t180 _ A12.out).mono ?_
    rintro e w53 ⟨rfl, hb⟩
    refine ⟨_, rfl, sh4_ (blk_below (bk_ BK172) hb) (blk_below (bk_ BK176) hb) (blk_below (bk_ BK179) hb) (below_step (bl3_ HB GE172 GE176 GE179) hb) ?_⟩
    clear BK172 BK176 BK179 HB hb
    intro BK172 BK176 BK179 HB
    refine hK.out _ _ ⟨(bc_ BK176 0 rfl), (bc_ BK176 1 rfl), cz2_ BK179⟩ (fun hHeld => ?_)
    clear hK K
    refine norm_ (show Act.put _ (some 29) _ = _ from pt_) ?_
    refine one_ (i := 3) (N := some 31) #[true, true, true, true, false, false] rfl rfl (by kernel_rfl) (by decide) (fun K hK => ?_)
    refine goes_ Try.func112 (by kernel_rfl) rfl #[.agg #[.int .i64 t177, .int .i64 t178]] (by rfl) rfl rfl mp_ ?_
    with_reducible refine (spec_MiddleOf.calls t177 t178 t181 _ A13.out).mono ?_
    rintro e w54 ⟨rfl, hb⟩
    refine ⟨_, rfl, sh4_ (blk_below (bk_ BK172) hb) (blk_below (bk_ BK176) hb) (blk_below (bk_ BK179) hb) (below_step (bl3_ HB GE172 GE176 GE179) hb) ?_⟩
    clear BK172 BK176 BK179 HB hb
    intro BK172 BK176 BK179 HB
    refine hK.out _ _ ⟨(bc_ BK176 0 rfl), (bc_ BK176 1 rfl), cz2_ BK179⟩ (fun hHeld => ?_)
    clear hK K
    refine norm_ (show Act.put _ (some 31) _ = _ from pt_) ?_
    refine one_ (i := 4) (N := some 32) #[true, true, true, true, true, false] rfl rfl (by kernel_rfl) (by decide) (fun K hK => ?_)
    refine goes_ Try.func111 (by kernel_rfl) rfl #[.int .i64 t180, .int .i64 t181] (by rfl) rfl rfl mp_ ?_
    with_reducible refine (spec_GapOf.calls t180 t181 t182 _ A14.out).mono ?_
    rintro e w' ⟨rfl, ⟨nd, rfl⟩⟩
    refine ⟨_, rfl, ?_⟩
    refine hK.out _ _ ⟨(bc_ BK176 0 rfl), (bc_ BK176 1 rfl), cz2_ BK179⟩ (fun hHeld => ?_)
    clear hK K
    refine norm_ (show Act.put _ (some 32) _ = _ from pt_) ?_
    refine pu0_ 5 #[true, true, true, true, true, true] (some 12) ?_
    refine done_ (by kernel_rfl) ?_
    have hcz55 := cf2_ BK176
    have hcz56 := cf2_ BK179
    try go_wp2
    go_ret
    exact ⟨er_, bl3_ HB GE172 GE176 GE179⟩
   ·rw [if_neg c36] at H
    have c36b0 : decide ((wrap64 (t182 + (wrap64 ((wrap64 ((wrap64 (Int.tdiv t175 2)) + (wrap64 (Int.tdiv t178 2)))) + (wrap64 (Int.tdiv (wrap64 ((Int.tmod t175 2) + (Int.tmod t178 2))) 2)))))) ≤ t173) = false := decide_eq_false c36
    clear c36
    obtain rfl := Option.some.inj H
    go_enter Try.func97, Try.ntmps97
    try go_wp2_with (first | ((with_reducible refine gd_ 4 ?_); refine bx_ 4 34 #[.int .i64 a0_0, .slice A0_1 l0_1.length c0_1, .slice A0_2 l0_2.length c0_2, .int .i64 a0_3, .int .i64 a0_4, .int .i64 a0_5, .int .i64 a0_6, .int .i64 a0_7, .slice A0_8 l0_8.length c0_8, .int .i64 a0_9] ?_; intro gb172 hg w57 hbox hb; refine sh3_ (below_step (bl_ HB) hb) hbox (ge_ hg (bl_ HB)) ?_; clear HB hb hbox hg; intro HB BK172 GE172; have hcz58 := cf10_ BK172) | ((with_reducible refine gate_callee (f := 110) rfl ?_); refine gl_ 17 Try.func110 (spec_LimitOf.calls k a0_0 _ _ l0_1 _ _ l0_2 a0_3 a0_4 a0_5 a0_6 a0_7 _ _ l0_8 a0_9 a1 a2 t173 _ (ck_ HR0_1 HB) HC0_1.out (ck_ HR0_2 HB) HC0_2.out (ck_ HR0_8 HB) HC0_8.out A5.out) ?_; rintro e w59 ⟨rfl, hb⟩; refine ⟨_, rfl, sh2_ (blk_below (bk_ BK172) hb) (below_step (bl1_ HB GE172) hb) ?_⟩; clear BK172 HB hb; intro BK172 HB; have hcz60 := cf10_ BK172) | ((with_reducible refine gate_callee (f := 103) rfl ?_); refine gl_ 23 Try.func103 (spec_NodeAt.calls k a0_0 _ _ l0_1 _ _ l0_2 a0_3 a0_4 a0_5 a0_6 a0_7 _ _ l0_8 a0_9 a1 a3 t174 t175 _ (ck_ HR0_1 HB) HC0_1.out (ck_ HR0_2 HB) HC0_2.out (ck_ HR0_8 HB) HC0_8.out A10.out) ?_; rintro e w61 ⟨rfl, hb⟩; refine ⟨_, rfl, sh2_ (blk_below (bk_ BK172) hb) (below_step (bl1_ HB GE172) hb) ?_⟩; clear BK172 HB hb; intro BK172 HB) | ((with_reducible refine gd_ 10 ?_); refine bx_ 10 113 #[.int .i64 0, .int .i64 0] ?_; intro gb176 hg w62 hbox hb; refine sh6_ (blk_below (bk_ BK172) hb) (below_step (bl1_ HB GE172) hb) hbox (ge_ hg (bl1_ HB GE172)) (nl_ hg (bk_ BK172)) (ng_ hg (bk_ BK172)) ?_; clear BK172 HB hb hbox hg; intro BK172 HB BK176 GE176 NB172_176 NB176_172; have hnb63 := NB176_172.out; have hnc63 := NB172_176.out; have hcz64 := cf2_ BK176; have hcz65 := cf10_ BK172) | ((with_reducible refine gate_callee (f := 103) rfl ?_); refine goesL_ (some 27) rfl rfl Try.func103 (by kernel_rfl) rfl #[.agg #[.int .i64 a0_0, .slice A0_1 l0_1.length c0_1, .slice A0_2 l0_2.length c0_2, .int .i64 a0_3, .int .i64 a0_4, .int .i64 a0_5, .int .i64 a0_6, .int .i64 a0_7, .slice A0_8 l0_8.length c0_8, .int .i64 a0_9], .int .i64 a2, .int .i64 a3] rfl mp_ ?_; (with_reducible refine (spec_NodeAt.calls k a0_0 _ _ l0_1 _ _ l0_2 a0_3 a0_4 a0_5 a0_6 a0_7 _ _ l0_8 a0_9 a2 a3 t177 t178 _ ?side1 ?side2 ?side3 ?side4 ?side5 ?side6 A11.out).mono ?_); (case side1 => exact Kd.C_below HR0_1.out (bl2_ HB GE172 GE176)); (case side2 => exact HC0_1.out); (case side3 => exact Kd.C_below HR0_2.out (bl2_ HB GE172 GE176)); (case side4 => exact HC0_2.out); (case side5 => exact Kd.C_below HR0_8.out (bl2_ HB GE172 GE176)); (case side6 => exact HC0_8.out); rintro e w66 ⟨rfl, hb⟩; refine ⟨_, rfl, sh3_ (blk_below (g := gb172) (o := .cells #[.int .i64 a0_0, .slice A0_1 l0_1.length c0_1, .slice A0_2 l0_2.length c0_2, .int .i64 a0_3, .int .i64 a0_4, .int .i64 a0_5, .int .i64 a0_6, .int .i64 a0_7, .slice A0_8 l0_8.length c0_8, .int .i64 a0_9] 34 (0, 0)) (bp_ BK172) hb) (blk_below (g := gb176) (o := .cells #[.int .i64 t174, .int .i64 t175] 113 (0, 0)) (bp_ BK176) hb) (below_step (bl2_ HB GE172 GE176) hb) ?_⟩; clear BK172 BK176 HB hb; intro BK172 BK176 HB) | ((with_reducible refine gd_ 11 ?_); refine bx_ 11 113 #[.int .i64 0, .int .i64 0] ?_; intro gb179 hg w67 hbox hb; refine sh9_ (blk_below (bk_ BK172) hb) (blk_below (bk_ BK176) hb) (below_step (bl2_ HB GE172 GE176) hb) hbox (ge_ hg (bl2_ HB GE172 GE176)) (nl_ hg (bk_ BK172)) (ng_ hg (bk_ BK172)) (nl_ hg (bk_ BK176)) (ng_ hg (bk_ BK176)) ?_; clear BK172 BK176 HB hb hbox hg; intro BK172 BK176 HB BK179 GE179 NB172_179 NB179_172 NB176_179 NB179_176; have hnb68 := NB179_172.out; have hnc68 := NB172_179.out; have hnb69 := NB179_176.out; have hnc69 := NB176_179.out; have hcz70 := cf2_ BK179))
    have n0_ : Aside0 (((w67.setCell ⟨gb179, 0, none⟩ (.int .i64 t177)).setCell ⟨gb179, 1, none⟩ (.int .i64 t178)).heap[gb172]? = some (.cells #[.int .i64 a0_0, .slice A0_1 l0_1.length c0_1, .slice A0_2 l0_2.length c0_2, .int .i64 a0_3, .int .i64 a0_4, .int .i64 a0_5, .int .i64 a0_6, .int .i64 a0_7, .slice A0_8 l0_8.length c0_8, .int .i64 a0_9] 34 (0, 0))) := ⟨by (with_reducible repeat (first | refine blk_drewN ?_ _ | refine blk_drew ?_ | refine blk_alloc ?_ _)); refine blk_far ?_ NB172_179.out _; (with_reducible repeat (first | refine blk_drewN ?_ _ | refine blk_drew ?_ | refine blk_alloc ?_ _)); refine blk_far ?_ NB172_179.out _; (with_reducible repeat (first | refine blk_drewN ?_ _ | refine blk_drew ?_ | refine blk_alloc ?_ _)); exact BK172.out⟩
    have n1_ : Aside0 (((w67.setCell ⟨gb179, 0, none⟩ (.int .i64 t177)).setCell ⟨gb179, 1, none⟩ (.int .i64 t178)).heap[gb176]? = some (.cells #[.int .i64 t174, .int .i64 t175] 113 (0, 0))) := ⟨by (with_reducible repeat (first | refine blk_drewN ?_ _ | refine blk_drew ?_ | refine blk_alloc ?_ _)); refine blk_far ?_ NB176_179.out _; (with_reducible repeat (first | refine blk_drewN ?_ _ | refine blk_drew ?_ | refine blk_alloc ?_ _)); refine blk_far ?_ NB176_179.out _; (with_reducible repeat (first | refine blk_drewN ?_ _ | refine blk_drew ?_ | refine blk_alloc ?_ _)); exact BK176.out⟩
    have n2_ : Aside0 (((w67.setCell ⟨gb179, 0, none⟩ (.int .i64 t177)).setCell ⟨gb179, 1, none⟩ (.int .i64 t178)).heap[gb179]? = some (.cells #[.int .i64 t177, .int .i64 t178] 113 (0, 0))) := ⟨by (with_reducible repeat (first | refine blk_drewN ?_ _ | refine blk_drew ?_ | refine blk_alloc ?_ _)); refine blk_put (cs := #[.int .i64 t177, .int .i64 0]) ?_ 1 _ rfl; (with_reducible repeat (first | refine blk_drewN ?_ _ | refine blk_drew ?_ | refine blk_alloc ?_ _)); refine blk_put (cs := #[.int .i64 0, .int .i64 0]) ?_ 0 _ rfl; (with_reducible repeat (first | refine blk_drewN ?_ _ | refine blk_drew ?_ | refine blk_alloc ?_ _)); exact BK179.out⟩
    have n3_ : Aside0 (Below w.heap.size w ((w67.setCell ⟨gb179, 0, none⟩ (.int .i64 t177)).setCell ⟨gb179, 1, none⟩ (.int .i64 t178))) := ⟨bl3_ HB GE172 GE176 GE179⟩
    (try clear BK172)
    (try clear BK176)
    (try clear BK179)
    (try clear HB)
    generalize ((w67.setCell ⟨gb179, 0, none⟩ (.int .i64 t177)).setCell ⟨gb179, 1, none⟩ (.int .i64 t178)) = w71 at n0_ n1_ n2_ n3_ ⊢
    have BK172 := n0_
    have BK176 := n1_
    have BK179 := n2_
    have HB := n3_
    clear n0_ n1_ n2_ n3_
    refine sh4_ (blk_drew BK172.out) (blk_drew BK176.out) (blk_drew BK179.out) (below_drew1 HB.out) ?_
    clear BK172 BK176 BK179 HB
    intro BK172 BK176 BK179 HB
    refine start_ (n := 6) (S := fun w' => Ck2 w' gb176 (.int .i64 t174) (.int .i64 t175) (Cz2 w' gb179 (.int .i64 t177) (.int .i64 t178))) (ds := []) #[false, false, false, false, false, false] (by kernel_rfl) rfl rfl ⟨(bc_ BK176 0 rfl), (bc_ BK176 1 rfl), cz2_ BK179⟩ (fun hHeld => ?_)
    generalize w71.drew = w72 at BK172 BK176 BK179 HB hHeld ⊢
    refine take_ (i := 0) (N := some 28) (v := ?_) (a' := ?_) #[true, false, false, false, false, false] rfl rfl (by kernel_rfl) (fun _ _ _ h => h) (Or.inl ⟨by rfl, ?_⟩) hHeld ?_ ?_
    rotate_left
    ·rintro w' ⟨s0, s1, s2, s3⟩
     go_simp
     with_reducible rfl
    rotate_left
    ·simp only [Act.put, List.setIfInBounds_toArray, List.set_cons_zero, List.set_cons_succ, i64_w, i32_w]
     rfl
    refine take_ (i := 2) (N := some 30) (v := ?_) (a' := ?_) #[true, false, true, false, false, false] rfl rfl (by kernel_rfl) (fun _ _ _ h => h) (Or.inl ⟨by rfl, ?_⟩) hHeld ?_ ?_
    rotate_left
    ·rintro w' ⟨s0, s1, s2, s3⟩
     go_simp
     with_reducible rfl
    rotate_left
    ·simp only [Act.put, List.setIfInBounds_toArray, List.set_cons_zero, List.set_cons_succ, i64_w, i32_w]
     rfl
    refine one_ (i := 1) (N := some 29) #[true, true, true, false, false, false] rfl rfl (by kernel_rfl) (by decide) (fun K hK => ?_)
    refine goes_ Try.func112 (by kernel_rfl) rfl #[.agg #[.int .i64 t174, .int .i64 t175]] (by rfl) rfl rfl mp_ ?_
    with_reducible refine (spec_MiddleOf.calls t174 t175 t180 _ A12.out).mono ?_
    rintro e w73 ⟨rfl, hb⟩
    refine ⟨_, rfl, sh4_ (blk_below (bk_ BK172) hb) (blk_below (bk_ BK176) hb) (blk_below (bk_ BK179) hb) (below_step (bl3_ HB GE172 GE176 GE179) hb) ?_⟩
    clear BK172 BK176 BK179 HB hb
    intro BK172 BK176 BK179 HB
    refine hK.out _ _ ⟨(bc_ BK176 0 rfl), (bc_ BK176 1 rfl), cz2_ BK179⟩ (fun hHeld => ?_)
    clear hK K
    refine norm_ (show Act.put _ (some 29) _ = _ from pt_) ?_
    refine one_ (i := 3) (N := some 31) #[true, true, true, true, false, false] rfl rfl (by kernel_rfl) (by decide) (fun K hK => ?_)
    refine goes_ Try.func112 (by kernel_rfl) rfl #[.agg #[.int .i64 t177, .int .i64 t178]] (by rfl) rfl rfl mp_ ?_
    with_reducible refine (spec_MiddleOf.calls t177 t178 t181 _ A13.out).mono ?_
    rintro e w74 ⟨rfl, hb⟩
    refine ⟨_, rfl, sh4_ (blk_below (bk_ BK172) hb) (blk_below (bk_ BK176) hb) (blk_below (bk_ BK179) hb) (below_step (bl3_ HB GE172 GE176 GE179) hb) ?_⟩
    clear BK172 BK176 BK179 HB hb
    intro BK172 BK176 BK179 HB
    refine hK.out _ _ ⟨(bc_ BK176 0 rfl), (bc_ BK176 1 rfl), cz2_ BK179⟩ (fun hHeld => ?_)
    clear hK K
    refine norm_ (show Act.put _ (some 31) _ = _ from pt_) ?_
    refine one_ (i := 4) (N := some 32) #[true, true, true, true, true, false] rfl rfl (by kernel_rfl) (by decide) (fun K hK => ?_)
    refine goes_ Try.func111 (by kernel_rfl) rfl #[.int .i64 t180, .int .i64 t181] (by rfl) rfl rfl mp_ ?_
    with_reducible refine (spec_GapOf.calls t180 t181 t182 _ A14.out).mono ?_
    rintro e w' ⟨rfl, ⟨nd, rfl⟩⟩
    refine ⟨_, rfl, ?_⟩
    refine hK.out _ _ ⟨(bc_ BK176 0 rfl), (bc_ BK176 1 rfl), cz2_ BK179⟩ (fun hHeld => ?_)
    clear hK K
    refine norm_ (show Act.put _ (some 32) _ = _ from pt_) ?_
    refine pu0_ 5 #[true, true, true, true, true, true] (some 12) ?_
    refine done_ (by kernel_rfl) ?_
    have hcz75 := cf2_ BK176
    have hcz76 := cf2_ BK179
    try go_wp2
    go_ret
    exact ⟨er_, bl3_ HB GE172 GE176 GE179⟩

/-! ### spec_IsSure: function 68 -/
def spec_IsSure.f (k : Nat) (a0_0 : Int) (l0_1 : List (S105)) (l0_2 : List (S109)) (a0_3 : Int) (a0_4 : Int) (a0_5 : Int) (a0_6 : Int) (a0_7 : Int) (l0_8 : List (S115)) (a0_9 : Int) (a1 : Int) (a2 : Int) (a3 : Int) : Option (Bool) := (spec_SightAt.f k a0_0 l0_1 l0_2 a0_3 a0_4 a0_5 a0_6 a0_7 l0_8 a0_9 a1 a2 a3).bind fun t184 => (some (t184 == 2))
theorem spec_IsSure.mono : ∀ a0 a1 a2 a3 a4 a5 a6 a7 a8 a9 a10 a11 a12 k, LeO (spec_IsSure.f k a0 a1 a2 a3 a4 a5 a6 a7 a8 a9 a10 a11 a12) (spec_IsSure.f (k + 1) a0 a1 a2 a3 a4 a5 a6 a7 a8 a9 a10 a11 a12) := by
 intro a0 a1 a2 a3 a4 a5 a6 a7 a8 a9 a10 a11 a12 k
 unfold spec_IsSure.f
 repeat' first | (with_reducible first | exact spec_SightAt.mono _ _ _ _ _ _ _ _ _ _ _ _ _ _ | exact LeO.refl _ | exact LeO.none _ | refine LeO.ite ?_ ?_ | refine LeO.bind ?_ (fun _ => ?_)) | exact LeO.none _ | refine LeO.ite ?_ ?_ | refine LeO.bind ?_ (fun _ => ?_)
set_option maxHeartbeats 8000000 in
set_option maxRecDepth 100000 in
theorem spec_IsSure.calls (k : Nat) (a0_0 : Int) (A0_1 : Option Addr) (c0_1 : Nat) (l0_1 : List (S105)) (A0_2 : Option Addr) (c0_2 : Nat) (l0_2 : List (S109)) (a0_3 : Int) (a0_4 : Int) (a0_5 : Int) (a0_6 : Int) (a0_7 : Int) (A0_8 : Option Addr) (c0_8 : Nat) (l0_8 : List (S115)) (a0_9 : Int) (a1 : Int) (a2 : Int) (a3 : Int) (r : Bool) (w : World) (hr0_1 : Kd.C k105 w A0_1 l0_1.length l0_1) (hc0_1 : l0_1.length ≤ c0_1) (hr0_2 : Kd.C k109 w A0_2 l0_2.length l0_2) (hc0_2 : l0_2.length ≤ c0_2) (hr0_8 : Kd.C k115 w A0_8 l0_8.length l0_8) (hc0_8 : l0_8.length ≤ c0_8) (h : spec_IsSure.f k a0_0 l0_1 l0_2 a0_3 a0_4 a0_5 a0_6 a0_7 l0_8 a0_9 a1 a2 a3 = some r) :
  Calls Try.prog 68 #[.agg #[.int .i64 a0_0, .slice A0_1 l0_1.length c0_1, .slice A0_2 l0_2.length c0_2, .int .i64 a0_3, .int .i64 a0_4, .int .i64 a0_5, .int .i64 a0_6, .int .i64 a0_7, .slice A0_8 l0_8.length c0_8, .int .i64 a0_9], .int .i64 a1, .int .i64 a2, .int .i64 a3] w fun e w' => e = .returned (.bool r) ∧ Below w.heap.size w w' := by
 have hu34 := Try.underlying34
 have HR0_1 := Aside0.mk hr0_1
 have HC0_1 := Aside0.mk hc0_1
 clear hr0_1 hc0_1
 have HR0_2 := Aside0.mk hr0_2
 have HC0_2 := Aside0.mk hc0_2
 clear hr0_2 hc0_2
 have HR0_8 := Aside0.mk hr0_8
 have HC0_8 := Aside0.mk hc0_8
 clear hr0_8 hc0_8
 have HB := Aside0.mk (Below.refl w.heap.size w)
 have H := h
 clear h
 unfold spec_IsSure.f at H
 replace H := bs_ H
 obtain ⟨t184, A5, H⟩ := H
 obtain rfl := Option.some.inj H
 go_enter Try.func68, Try.ntmps68
 go_wp2_with (first | ((with_reducible refine gd_ 4 ?_); refine bx_ 4 34 #[.int .i64 a0_0, .slice A0_1 l0_1.length c0_1, .slice A0_2 l0_2.length c0_2, .int .i64 a0_3, .int .i64 a0_4, .int .i64 a0_5, .int .i64 a0_6, .int .i64 a0_7, .slice A0_8 l0_8.length c0_8, .int .i64 a0_9] ?_; intro gb183 hg w6 hbox hb; refine sh3_ (below_step (bl_ HB) hb) hbox (ge_ hg (bl_ HB)) ?_; clear HB hb hbox hg; intro HB BK183 GE183; have hcz7 := cf10_ BK183) | ((with_reducible refine gate_callee (f := 97) rfl ?_); refine gl_ 13 Try.func97 (spec_SightAt.calls k a0_0 _ _ l0_1 _ _ l0_2 a0_3 a0_4 a0_5 a0_6 a0_7 _ _ l0_8 a0_9 a1 a2 a3 t184 _ (ck_ HR0_1 HB) HC0_1.out (ck_ HR0_2 HB) HC0_2.out (ck_ HR0_8 HB) HC0_8.out A5.out) ?_; rintro e w8 ⟨rfl, hb⟩; refine ⟨_, rfl, sh2_ (blk_below (bk_ BK183) hb) (below_step (bl1_ HB GE183) hb) ?_⟩; clear BK183 HB hb; intro BK183 HB))
 go_ret
 exact ⟨er_, bl1_ HB GE183⟩

/-! ### spec_l8Ticks: function 71 -/
def spec_l8Ticks.f (a0 : Int) (a1 : Int) : Option (Int × Int) := (spec_Max.f 0 a0).bind fun t185 => ((spec_Min.f 1000 t185).bind fun t186 => ((spec_Min.f 1000 a1).bind fun t187 => ((spec_Max.f 0 t187).bind fun t188 => (some (t186, t188)))))
set_option maxHeartbeats 8000000 in
set_option maxRecDepth 100000 in
theorem spec_l8Ticks.calls (a0 : Int) (a1 : Int) (r1 : Int) (r2 : Int) (w : World) (h : spec_l8Ticks.f a0 a1 = some (r1, r2)) :
  Calls Try.prog 71 #[.int .i64 a0, .int .i64 a1] w fun e w' => e = .returned (.tuple #[.int .i64 r1, .int .i64 r2]) ∧ Drawn0 w w' := by
 have H := h
 clear h
 unfold spec_l8Ticks.f at H
 replace H := bs_ H
 obtain ⟨t185, A3, H⟩ := H
 replace H := bs_ H
 obtain ⟨t186, A4, H⟩ := H
 replace H := bs_ H
 obtain ⟨t187, A5, H⟩ := H
 replace H := bs_ H
 obtain ⟨t188, A6, H⟩ := H
 simp only [Option.some.injEq, Prod.mk.injEq] at H
 obtain ⟨rfl, rfl⟩ := H
 go_enter Try.func71, Try.ntmps71
 go_wp2_with (first | ((with_reducible refine gate_callee (f := 73) rfl ?_); refine gl_ 7 Try.func73 (spec_Max.calls 0 a0 t185 _ A3.out) ?_; rintro e w' ⟨rfl, ⟨nd, rfl⟩⟩; refine ⟨_, rfl, ?_⟩) | ((with_reducible refine gate_callee (f := 99) rfl ?_); refine gl_ 8 Try.func99 (spec_Min.calls 1000 t185 t186 _ A4.out) ?_; rintro e w' ⟨rfl, ⟨nd, rfl⟩⟩; refine ⟨_, rfl, ?_⟩) | ((with_reducible refine gate_callee (f := 99) rfl ?_); refine gl_ 10 Try.func99 (spec_Min.calls 1000 a1 t187 _ A5.out) ?_; rintro e w' ⟨rfl, ⟨nd, rfl⟩⟩; refine ⟨_, rfl, ?_⟩) | ((with_reducible refine gate_callee (f := 73) rfl ?_); refine gl_ 11 Try.func73 (spec_Max.calls 0 t187 t188 _ A6.out) ?_; rintro e w' ⟨rfl, ⟨nd, rfl⟩⟩; refine ⟨_, rfl, ?_⟩))
 go_ret2
 exact ⟨by first | rfl | (simp; done) | (simp [*]; done), by repeat (first | exact Drawn0.refl _ | apply Drawn0.step)⟩

/-! ### spec_l4Put: function 77 -/
def spec_l4Put.f (l0 : List (S73)) (a1 : Int) : Option ((List (S73))) := if (l0.length : Int) > 0 then (if 0 ≤ (wrap64 ((l0.length : Int) - 1)) then (if (wrap64 ((l0.length : Int) - 1)) < (l0.length : Int) then (if ((rd_T73 l0 (wrap64 ((l0.length : Int) - 1))).f1) = a1 then (some (l0.set ((wrap64 ((l0.length : Int) - 1)) : Int).toNat (⟨(rd_T73 l0 (wrap64 ((l0.length : Int) - 1))).f0, wrap64 (a1 + 1)⟩ : S73))) else (if l0.length < 8796093022208 then (some (l0 ++ [(⟨a1, wrap64 (a1 + 1)⟩ : S73)])) else (none))) else (none)) else (none)) else (if l0.length < 8796093022208 then (some (l0 ++ [(⟨a1, wrap64 (a1 + 1)⟩ : S73)])) else (none))
set_option maxHeartbeats 8000000 in
set_option maxRecDepth 100000 in
theorem spec_l4Put.calls (P0_ : Nat → Prop) (u9000_ : Value) (l0 : List (S73)) (a1 : Int) (r : List (S73)) (w0 w : World) (hB : Below w0.heap.size w0 w) (ho0 : Kd.R k73 73 w w0.heap.size P0_ u9000_ l0) (h : spec_l4Put.f l0 a1 = some r) :
  Calls Try.prog 77 #[u9000_, .int .i64 a1] w fun e w' => ∃ v0_ : Value, e = .returned (v0_) ∧ Kd.R k73 73 w' w0.heap.size (fun k_ => (P0_ k_ ∨ w.heap.size ≤ k_)) v0_ r ∧ Below w0.heap.size w0 w' ∧ Kept w w' (fun k_ => P0_ k_) := by
 have hu73 := Try.underlying73
 have HO0 := Aside0.mk (show Kd.R k73 73 w w0.heap.size (fun k_ => (P0_ k_ ∨ w.heap.size ≤ k_)) u9000_ l0 from Kd.R_mono ho0 (fun k_ hk => (.inl hk)))
 have HK := Aside0.mk (Kept.refl w (fun k_ => P0_ k_))
 have HW0 := Aside0.mk hB.size
 have HB := Aside0.mk hB
 clear hB
 have H := h
 clear h
 unfold spec_l4Put.f at H
 by_cases c3 : (l0.length : Int) > 0
 ·rw [if_pos c3] at H
  have c3b0 : decide (0 < (l0.length : Int)) = true := decide_eq_true c3
  have c3b1 : decide (0 < l0.length) = true := decide_eq_true (by omega)
  clear c3
  obtain ⟨ji4, hji4⟩ : ∃ j_ : Int, (wrap64 ((l0.length : Int) - 1)) = j_ := ⟨_, rfl⟩
  replace H : (if 0 ≤ (ji4) then (if (ji4) < (l0.length : Int) then (if ((rd_T73 l0 (ji4)).f1) = a1 then (some (l0.set ((ji4) : Int).toNat (⟨(rd_T73 l0 (ji4)).f0, wrap64 (a1 + 1)⟩ : S73))) else (if l0.length < 8796093022208 then (some (l0 ++ [(⟨a1, wrap64 (a1 + 1)⟩ : S73)])) else (none))) else (none)) else (none)) = some r := by first | (rw [hji4] at H; exact H) | (simp only [hji4] at H ⊢; exact H)
  have hji4w : (IntKind.i64.wrap ((l0.length : Int) - 1)) = ji4 := (i64_w _).trans hji4
  replace H := ifn_ H
  obtain ⟨c5, H⟩ := H
  have c5b0 := decide_eq_true c5
  clear c5
  replace H := ifn_ H
  obtain ⟨c6, H⟩ := H
  have c6b0 := decide_eq_true c6
  clear c6
  by_cases c7 : ((rd_T73 l0 (ji4)).f1) = a1
  ·rw [if_pos c7] at H
   obtain ⟨c7b0, c7b1⟩ := bt_ c7
   clear c7
   replace H : ∃ y_ : List (S73), Aside0 (y_ = (l0.set ((ji4) : Int).toNat (⟨(rd_T73 l0 (ji4)).f0, wrap64 (a1 + 1)⟩ : S73))) ∧ (some y_) = some r := ⟨_, ⟨rfl⟩, yh_ H⟩
   obtain ⟨y190, Ny190, H⟩ := H
   obtain rfl := Option.some.inj H
   obtain ⟨Ao9, co9, eo9⟩ := Kd.R_slice HO0.out
   subst eo9
   have p189 : 0 ≤ ((ji4) : Int) := od_
   have q189 : (ji4) < (l0.length : Int) := od_
   obtain ⟨ad189, e189, hx189_0, hx189_1⟩ := at_T73 (Kd.R_reads' HO0.out).2.2 (ji4) p189 q189
   cases e189
   replace p189 := eq_true p189
   replace q189 := eq_true q189
   have p8 : 0 ≤ ((ji4) : Int) := od_
   have q8 : ((ji4) : Int) < ((l0.length : Int) : Int) := od_
   obtain ⟨go8, co8, eo8, gb8, gl8, cl8, HG8⟩ := Kd.R_form HO0.out (by omega)
   (first | cases eo8 | (injection eo8 with ea_ en_ ec_; (first | subst ea_ | (injection ea_ with ea_; subst ea_)); subst ec_; clear en_))
   have GB8 := Aside0.mk gb8
   have GG8 := Aside0.mk HG8
   clear gb8 gl8 HG8
   have HMgo8 := Aside0.mk (show (P0_ go8 ∨ w.heap.size ≤ go8) from (HO0.out.1 _ rfl))
   (first | simp only [add_plain] at hx189_0 | skip)
   (first | simp only [add_plain] at hx189_1 | skip)
   obtain ⟨ce8, hcl8, hM8, hcc8, hfr8⟩ := Kd.R_elem HO0.out z73 ((ji4) : Int) p8 q8
   obtain rfl := k73_openM hM8
   have hx8_0 : w.cell? ⟨go8, ((ji4) : Int).toNat * 2, none⟩ = some (.int .i64 ((rd_T73 l0 (ji4)).f0)) := hcc8 0 _ rfl
   have hx8_1 : w.cell? ⟨go8, ((ji4) : Int).toNat * 2 + 1, none⟩ = some (.int .i64 ((rd_T73 l0 (ji4)).f1)) := hcc8 1 _ rfl
   have hf8_0 : w.frozen? ⟨go8, ((ji4) : Int).toNat * 2, none⟩ = false := hfr8 0
   have hf8_1 : w.frozen? ⟨go8, ((ji4) : Int).toNat * 2 + 1, none⟩ = false := hfr8 1
   clear hcl8 hcc8 hfr8 hM8
   replace p8 := eq_true p8
   replace q8 := eq_true q8
   have HX10 := Aside0.mk (show Kd.R k73 73 w w0.heap.size (fun k_ => (P0_ k_ ∨ w.heap.size ≤ k_)) (.slice (some ⟨go8, 0, none⟩) l0.length co9) l0 from (ra_ HO0))
   obtain ⟨ce10, hcl10, hM10, hcc10, hfr10⟩ := Kd.R_elem HX10.out z73 ((ji4) : Int) od_ (by have h_ : ((ji4) : Int) < ((l0.length : Int) : Int) := od_; first | exact h_ | (have e_ := (Kd.R_reads' HO0.out).1; omega) | simpa using h_)
   obtain rfl := k73_openM hM10
   have HP10 := Kd.R_seg HX10.out ((ji4) : Int) od_ (by have h_ : ((ji4) : Int) < ((l0.length : Int) : Int) := od_; first | exact h_ | (have e_ := (Kd.R_reads' HO0.out).1; omega) | simpa using h_) (seg := [.int .i64 (wrap64 (a1 + 1))]) (j := 1) hcl10 hcc10 (show 2 ≤ 2 from by decide) (x' := (⟨(rd_T73 l0 (ji4)).f0, wrap64 (a1 + 1)⟩ : S73)) (k73_mkM _ _ _ (⟨(rd_T73 l0 (ji4)).f0, wrap64 (a1 + 1)⟩ : S73) ) (fun _ hk => hk)
   have hx10_1 := hcc10 1 _ rfl
   (try simp only [show (k73).sz = 2 from rfl, Nat.mul_one, Nat.add_zero] at hx10_1)
   have hf10_1 := hfr10 1
   (try simp only [show (k73).sz = 2 from rfl, Nat.mul_one, Nat.add_zero] at hf10_1)
   clear hcl10 hcc10 hfr10 hM10
   go_enter Try.func77, Try.ntmps77
   go_wp2_with (first | ((with_reducible refine gate_store (t := 3) (p := 26) rfl ?_); refine store_event (t := 3) (p := 26) (v := ?vo_w11) (w1 := (w.setCell ⟨go8, ((ji4) : Int).toNat * 2 + 1, none⟩ (.int .i64 (wrap64 (a1 + 1))))) ?hg ?ho ?hn ?hr ?_; (case ho => rfl); (case hg => rfl); (case hn => rfl); (case hr => first | (go_simp; done) | (go_simp; rfl)); intro w11 hw; have hg : w.grownBy w11 (some go8) := (by rw [hw]; exact HP10.2); have hp_ : Kd.R k73 73 w11 w0.heap.size (fun k_ => (P0_ k_ ∨ w.heap.size ≤ k_)) (.slice (some ⟨go8, 0, none⟩) l0.length co9) y190 := (by rw [hw, Ny190.out]; exact HP10.1); clear HP10; refine sh3_ hp_ ((by rw [hw]; exact below_set (HB.out) GB8.out : Below w0.heap.size w0 w11)) (Kept.of_grown (S := (fun k_ => P0_ k_)) hg (by repeat (first | (with_reducible first | exact HK.out | apply Kept.alloc | apply Kept.drewN | apply Kept.drew) | exact HK.out)) (fun k_ e_ => (HO0.out.1 k_ e_))) ?_; clear HO0 HB HK; intro HO0 HB HK; clear hg hw hp_))
   go_ret
   exact ⟨_, by first | rfl | (simp [errW_none, errW_some] <;> rfl) | (simp only [← hji4]; first | rfl | (simp [errW_none, errW_some] <;> rfl)) | (simp [*, errW_none, errW_some] <;> rfl), ra_ HO0, bl_ HB, by repeat (first | (with_reducible first | exact HK.out | apply Kept.alloc | apply Kept.drewN | apply Kept.drew) | exact HK.out)⟩
  ·rw [if_neg c7] at H
   obtain ⟨c7b0, c7b1⟩ := bn_ c7
   replace H := ifn_ H
   obtain ⟨c12, H⟩ := H
   have LMc12 := Aside0.mk c12
   clear c12
   replace H : ∃ y_ : List (S73), Aside0 (y_ = (l0 ++ [(⟨a1, wrap64 (a1 + 1)⟩ : S73)])) ∧ (some y_) = some r := ⟨_, ⟨rfl⟩, yh_ H⟩
   obtain ⟨y191, Ny191, H⟩ := H
   obtain rfl := Option.some.inj H
   obtain ⟨Ao13, co13, eo13⟩ := Kd.R_slice HO0.out
   subst eo13
   have p189 : 0 ≤ ((ji4) : Int) := od_
   have q189 : (ji4) < (l0.length : Int) := od_
   obtain ⟨ad189, e189, hx189_0, hx189_1⟩ := at_T73 (Kd.R_reads' HO0.out).2.2 (ji4) p189 q189
   cases e189
   replace p189 := eq_true p189
   replace q189 := eq_true q189
   go_enter Try.func77, Try.ntmps77
   go_wp2_with (first | ((with_reducible refine gate_builtin (b := .append) (xs := #[.tmp 28, .tmp 33]) rfl ?_); (try (refine gate_guard (by rfl) ?_; dsimp only)); at_builtin; refine Kd.R_append k73 (w0 := w0) w0.heap.size rfl (.tmp 28) (.tmp 33) 28 73 (.agg #[(.int .i64 0), (.int .i64 0)]) 16 rfl Try.underlying28 info73 rfl (by decide) (by omega) (.slice (some ad189) l0.length co13) l0 (⟨a1, wrap64 (a1 + 1)⟩ : S73) [.int .i64 a1, .int .i64 (wrap64 (a1 + 1))] (fun k_ => (P0_ k_ ∨ w.heap.size ≤ k_)) (fun _ => False) rfl rfl ?aP (fun _ hk => hk.elim) ?aF ?aO ?aB ?aS ?aL ?_; (case aP => exact k73_mkM _ _ _ (⟨a1, wrap64 (a1 + 1)⟩ : S73)); (case aB => exact (bl_ HB)); (case aF => exact (fun k_ hk => (.inr (Nat.le_trans (by first | exact HK.out.1 | exact (show Kept w _ (fun k_ => P0_ k_) from by repeat (first | (with_reducible first | exact HK.out | apply Kept.alloc | apply Kept.drewN | apply Kept.drew) | exact HK.out)).1) hk)))); (case aO => exact (ra_ HO0)); (case aS => exact (below_size (bl_ HB))); (case aL => have := LMc12.out; omega); intro v192 w14 ho hb hg hat; rw [← Ny191.out] at ho; refine sh3_ hb (Kept.of_grown (S := (fun k_ => P0_ k_)) hg (by repeat (first | (with_reducible first | exact HK.out | apply Kept.alloc | apply Kept.drewN | apply Kept.drew) | exact HK.out)) (fun k_ e_ => (HO0.out.1 k_ e_))) ho ?_; clear HB HK HO0 ho hb hg hat; intro HB HK HO193))
   go_ret
   exact ⟨_, by first | rfl | (simp [errW_none, errW_some] <;> rfl) | (simp only [← hji4]; first | rfl | (simp [errW_none, errW_some] <;> rfl)) | (simp [*, errW_none, errW_some] <;> rfl), ra_ HO193, bl_ HB, by repeat (first | (with_reducible first | exact HK.out | apply Kept.alloc | apply Kept.drewN | apply Kept.drew) | exact HK.out)⟩
 ·rw [if_neg c3] at H
  have c3b0 : decide (0 < (l0.length : Int)) = false := decide_eq_false c3
  have c3b1 : decide (0 < l0.length) = false := decide_eq_false (by omega)
  clear c3
  replace H := ifn_ H
  obtain ⟨c15, H⟩ := H
  have LMc15 := Aside0.mk c15
  clear c15
  replace H : ∃ y_ : List (S73), Aside0 (y_ = (l0 ++ [(⟨a1, wrap64 (a1 + 1)⟩ : S73)])) ∧ (some y_) = some r := ⟨_, ⟨rfl⟩, yh_ H⟩
  obtain ⟨y194, Ny194, H⟩ := H
  obtain rfl := Option.some.inj H
  obtain ⟨Ao16, co16, eo16⟩ := Kd.R_slice HO0.out
  subst eo16
  go_enter Try.func77, Try.ntmps77
  go_wp2_with (first | ((with_reducible refine gate_builtin (b := .append) (xs := #[.tmp 28, .tmp 33]) rfl ?_); (try (refine gate_guard (by rfl) ?_; dsimp only)); at_builtin; refine Kd.R_append k73 (w0 := w0) w0.heap.size rfl (.tmp 28) (.tmp 33) 28 73 (.agg #[(.int .i64 0), (.int .i64 0)]) 16 rfl Try.underlying28 info73 rfl (by decide) (by omega) (.slice Ao16 l0.length co16) l0 (⟨a1, wrap64 (a1 + 1)⟩ : S73) [.int .i64 a1, .int .i64 (wrap64 (a1 + 1))] (fun k_ => (P0_ k_ ∨ w.heap.size ≤ k_)) (fun _ => False) rfl rfl ?aP (fun _ hk => hk.elim) ?aF ?aO ?aB ?aS ?aL ?_; (case aP => exact k73_mkM _ _ _ (⟨a1, wrap64 (a1 + 1)⟩ : S73)); (case aB => exact (bl_ HB)); (case aF => exact (fun k_ hk => (.inr (Nat.le_trans (by first | exact HK.out.1 | exact (show Kept w _ (fun k_ => P0_ k_) from by repeat (first | (with_reducible first | exact HK.out | apply Kept.alloc | apply Kept.drewN | apply Kept.drew) | exact HK.out)).1) hk)))); (case aO => exact (ra_ HO0)); (case aS => exact (below_size (bl_ HB))); (case aL => have := LMc15.out; omega); intro v195 w17 ho hb hg hat; rw [← Ny194.out] at ho; refine sh3_ hb (Kept.of_grown (S := (fun k_ => P0_ k_)) hg (by repeat (first | (with_reducible first | exact HK.out | apply Kept.alloc | apply Kept.drewN | apply Kept.drew) | exact HK.out)) (fun k_ e_ => (HO0.out.1 k_ e_))) ho ?_; clear HB HK HO0 ho hb hg hat; intro HB HK HO196))
  go_ret
  exact ⟨_, er_, ra_ HO196, bl_ HB, by repeat (first | (with_reducible first | exact HK.out | apply Kept.alloc | apply Kept.drewN | apply Kept.drew) | exact HK.out)⟩

/-! ### spec_SureWindows: function 38 -/
def spec_SureWindows.l0 : Nat → Int → Int → List (S73) → Int → Int → Int → List (S105) → List (S109) → Int → Int → Int → Int → Int → List (S115) → Int → Option ((List (S73)))
 | 0, _, _, _, _, _, _, _, _, _, _, _, _, _, _, _ => none
 | k + 1, x1, x2, x11, x13, x14, x198000, x198001, x198002, x198003, x198004, x198005, x198006, x198007, x198008, x198009 => if x14 < x13 then ((spec_IsSure.f k x198000 x198001 x198002 x198003 x198004 x198005 x198006 x198007 x198008 x198009 x1 x2 x14).bind fun t203 => (if t203 = true then ((spec_l4Put.f x11 x14).bind fun t204 => (spec_SureWindows.l0 k x1 x2 t204 x13 (wrap64 (x14 + 1)) x198000 x198001 x198002 x198003 x198004 x198005 x198006 x198007 x198008 x198009)) else (spec_SureWindows.l0 k x1 x2 x11 x13 (wrap64 (x14 + 1)) x198000 x198001 x198002 x198003 x198004 x198005 x198006 x198007 x198008 x198009))) else (some x11)
def spec_SureWindows.f (k : Nat) (a0_0 : Int) (l0_1 : List (S105)) (l0_2 : List (S109)) (a0_3 : Int) (a0_4 : Int) (a0_5 : Int) (a0_6 : Int) (a0_7 : Int) (l0_8 : List (S115)) (a0_9 : Int) (a1 : Int) (a2 : Int) (a3 : Int) (a4 : Int) : Option ((List (S73))) := (spec_l8Ticks.f a3 a4).bind fun bt201 => (spec_SureWindows.l0 k a1 a2 (([] : List (S73))) bt201.2 bt201.1 a0_0 l0_1 l0_2 a0_3 a0_4 a0_5 a0_6 a0_7 l0_8 a0_9)
theorem spec_SureWindows.mono_l : ∀ k, (∀ y0 y1 y2 y3 y4 y5 y6 y7 y8 y9 y10 y11 y12 y13 y14, LeO (spec_SureWindows.l0 k y0 y1 y2 y3 y4 y5 y6 y7 y8 y9 y10 y11 y12 y13 y14) (spec_SureWindows.l0 (k + 1) y0 y1 y2 y3 y4 y5 y6 y7 y8 y9 y10 y11 y12 y13 y14))
 | 0 => fun _ _ _ _ _ _ _ _ _ _ _ _ _ _ _ r h => by simp [spec_SureWindows.l0] at h
 | k + 1 => by
  have ih0 := spec_SureWindows.mono_l k
  ·intro y0 y1 y2 y3 y4 y5 y6 y7 y8 y9 y10 y11 y12 y13 y14
   unfold spec_SureWindows.l0
   repeat' first | (with_reducible first | exact ih0 _ _ _ _ _ _ _ _ _ _ _ _ _ _ _ | exact spec_IsSure.mono _ _ _ _ _ _ _ _ _ _ _ _ _ _ | exact LeO.refl _ | exact LeO.none _ | refine LeO.ite ?_ ?_ | refine LeO.bind ?_ (fun _ => ?_)) | exact LeO.none _ | refine LeO.ite ?_ ?_ | refine LeO.bind ?_ (fun _ => ?_)
theorem spec_SureWindows.mono : ∀ a0 a1 a2 a3 a4 a5 a6 a7 a8 a9 a10 a11 a12 a13 k, LeO (spec_SureWindows.f k a0 a1 a2 a3 a4 a5 a6 a7 a8 a9 a10 a11 a12 a13) (spec_SureWindows.f (k + 1) a0 a1 a2 a3 a4 a5 a6 a7 a8 a9 a10 a11 a12 a13) := by
 intro a0 a1 a2 a3 a4 a5 a6 a7 a8 a9 a10 a11 a12 a13 k
 have ih0 := spec_SureWindows.mono_l k
 unfold spec_SureWindows.f
 repeat' first | (with_reducible first | exact ih0 _ _ _ _ _ _ _ _ _ _ _ _ _ _ _ | exact spec_IsSure.mono _ _ _ _ _ _ _ _ _ _ _ _ _ _ | exact LeO.refl _ | exact LeO.none _ | refine LeO.ite ?_ ?_ | refine LeO.bind ?_ (fun _ => ?_)) | exact LeO.none _ | refine LeO.ite ?_ ?_ | refine LeO.bind ?_ (fun _ => ?_)
set_option maxHeartbeats 8000000 in
set_option maxRecDepth 100000 in
theorem spec_SureWindows.calls (k : Nat) (a0_0 : Int) (A0_1 : Option Addr) (c0_1 : Nat) (l0_1 : List (S105)) (A0_2 : Option Addr) (c0_2 : Nat) (l0_2 : List (S109)) (a0_3 : Int) (a0_4 : Int) (a0_5 : Int) (a0_6 : Int) (a0_7 : Int) (A0_8 : Option Addr) (c0_8 : Nat) (l0_8 : List (S115)) (a0_9 : Int) (a1 : Int) (a2 : Int) (a3 : Int) (a4 : Int) (r : List (S73)) (w : World) (hr0_1 : Kd.C k105 w A0_1 l0_1.length l0_1) (hc0_1 : l0_1.length ≤ c0_1) (hr0_2 : Kd.C k109 w A0_2 l0_2.length l0_2) (hc0_2 : l0_2.length ≤ c0_2) (hr0_8 : Kd.C k115 w A0_8 l0_8.length l0_8) (hc0_8 : l0_8.length ≤ c0_8) (h : spec_SureWindows.f k a0_0 l0_1 l0_2 a0_3 a0_4 a0_5 a0_6 a0_7 l0_8 a0_9 a1 a2 a3 a4 = some r) :
  Calls Try.prog 38 #[.agg #[.int .i64 a0_0, .slice A0_1 l0_1.length c0_1, .slice A0_2 l0_2.length c0_2, .int .i64 a0_3, .int .i64 a0_4, .int .i64 a0_5, .int .i64 a0_6, .int .i64 a0_7, .slice A0_8 l0_8.length c0_8, .int .i64 a0_9], .int .i64 a1, .int .i64 a2, .int .i64 a3, .int .i64 a4] w fun e w' => ∃ v0_ : Value, e = .returned (v0_) ∧ Kd.R k73 73 w' w.heap.size (fun _ => True) v0_ r ∧ Below w.heap.size w w' := by
 have hu34 := Try.underlying34
 have HR0_1 := Aside0.mk hr0_1
 have HC0_1 := Aside0.mk hc0_1
 clear hr0_1 hc0_1
 have HR0_2 := Aside0.mk hr0_2
 have HC0_2 := Aside0.mk hc0_2
 clear hr0_2 hc0_2
 have HR0_8 := Aside0.mk hr0_8
 have HC0_8 := Aside0.mk hc0_8
 clear hr0_8 hc0_8
 have HB := Aside0.mk (Below.refl w.heap.size w)
 have H := h
 clear h
 unfold spec_SureWindows.f at H
 replace H : ∃ y_ : List (S73), Aside0 (y_ = (([] : List (S73)))) ∧ ((spec_l8Ticks.f a3 a4).bind fun bt201 => (spec_SureWindows.l0 k a1 a2 y_ bt201.2 bt201.1 a0_0 l0_1 l0_2 a0_3 a0_4 a0_5 a0_6 a0_7 l0_8 a0_9)) = some r := ⟨_, ⟨rfl⟩, yh_ H⟩
 obtain ⟨y198, Ny198, H⟩ := H
 replace H := bs_ H
 obtain ⟨⟨t201, t202⟩, A6, H⟩ := H
 dsimp only at H
 have H' := Aside0.mk H
 clear H
 go_enter Try.func38, Try.ntmps38
 go_wp2_with (first | ((with_reducible refine gd_ 5 ?_); refine bx_ 5 34 #[.int .i64 a0_0, .slice A0_1 l0_1.length c0_1, .slice A0_2 l0_2.length c0_2, .int .i64 a0_3, .int .i64 a0_4, .int .i64 a0_5, .int .i64 a0_6, .int .i64 a0_7, .slice A0_8 l0_8.length c0_8, .int .i64 a0_9] ?_; intro gb197 hg w7 hbox hb; refine sh3_ (below_step (bl_ HB) hb) hbox (ge_ hg (bl_ HB)) ?_; clear HB hb hbox hg; intro HB BK197 GE197) | ((with_reducible refine gate_dst (N := 15) rfl ?_); refine Kd.R_lit k73 _ 73 ?hg (N := 15) ?hd (xs := ([] : List (S73))) (inner := []) (ok := fun _ => True) (okp := fun _ => True) ?hr ?hp (fun _ hk => hk) trivial (Below.refl _ _) (Nat.le_refl _) (by simp) ?_; (case hd => rfl); (case hg => rfl); (case hr => first | (go_simp; done) | (go_simp; rfl)); (case hp => exact (Reps.none _ _)); intro v199 w8 ho9 hb hg_ hnew_; clear hg_ hnew_; (first | rw [← Ny198.out] at ho9 | (simp only [Int.reduceToNat] at ho9; rw [← Ny198.out] at ho9)); refine sh3_ (Kd.R_lower ho9 (below_size (bl1_ HB GE197))) (blk_below (bk_ BK197) hb) (below_step (bl1_ HB GE197) hb) ?_; clear BK197 HB hb ho9; intro HO200 BK197 HB) | ((with_reducible refine gate_callee (f := 71) rfl ?_); refine gl_ 19 Try.func71 (spec_l8Ticks.calls a3 a4 t201 t202 _ A6.out) ?_; rintro e w' ⟨rfl, ⟨nd, rfl⟩⟩; refine ⟨_, rfl, ?_⟩))
 go_loopg [11, 14] k (fun kq v11 v14 w' => ∃ (x11_1 : List (S73)) (x14_1 : Int), v14 = .int .i64 x14_1 ∧ Aside0 (spec_SureWindows.l0 kq a1 a2 x11_1 t202 x14_1 a0_0 l0_1 l0_2 a0_3 a0_4 a0_5 a0_6 a0_7 l0_8 a0_9 = some r) ∧ Aside0 (kq ≤ k) ∧ Aside0 (Kd.R k73 73 w' w.heap.size (fun _ => True) v11 x11_1) ∧ Aside0 (w'.heap[gb197]? = some (.cells #[.int .i64 a0_0, (.slice A0_1 l0_1.length c0_1), (.slice A0_2 l0_2.length c0_2), .int .i64 a0_3, .int .i64 a0_4, .int .i64 a0_5, .int .i64 a0_6, .int .i64 a0_7, (.slice A0_8 l0_8.length c0_8), .int .i64 a0_9] 34 (0, 0))) ∧ Aside0 (Below w.heap.size w w'))
 case atStart => exact ⟨(y198), (t201), (by first | rfl | (simp; done) | (simp [*]; done)), H', ⟨Nat.le_refl _⟩, ⟨ra_ HO200⟩, ⟨by (with_reducible repeat (first | refine blk_drewN ?_ _ | refine blk_drew ?_ | refine blk_alloc ?_ _)); exact BK197.out⟩, ⟨bl1_ HB GE197⟩⟩
 case round =>
  clear H'
  try clear p2
  try clear c3
  try clear c7
  obtain ⟨x11_1, x14_1, rfl, HA, HK1, HO_11, BK197, HB⟩ := hrel
  cases gk with
  | zero => exact absurd HA.out (by simp [spec_SureWindows.l0])
  | succ k1 =>
   have H := HA.out
   clear HA
   simp only [spec_SureWindows.l0] at H
   by_cases c10 : x14_1 < t202
   ·rw [if_pos c10] at H
    have c10b0 := decide_eq_true c10
    clear c10
    replace H := bs_ H
    obtain ⟨t203, A11, H⟩ := H
    by_cases c12 : t203 = true
    ·subst c12
     rw [if_pos rfl] at H
     replace H := bs_ H
     obtain ⟨t204, A13, H⟩ := H
     have H' := Aside0.mk H
     clear H
     have hcz14 := cf10_ BK197
     go_wp2_with (first | ((with_reducible refine gate_callee (f := 68) rfl ?_); refine gl_ 32 Try.func68 (spec_IsSure.calls k1 a0_0 _ _ l0_1 _ _ l0_2 a0_3 a0_4 a0_5 a0_6 a0_7 _ _ l0_8 a0_9 a1 a2 x14_1 true _ (ck_ HR0_1 HB) HC0_1.out (ck_ HR0_2 HB) HC0_2.out (ck_ HR0_8 HB) HC0_8.out A11.out) ?_; rintro e w15 ⟨rfl, hb⟩; refine ⟨_, rfl, sh3_ (Kd.R_below (ra_ HO_11) hb) (blk_below (bk_ BK197) hb) (below_step (bl1_ HB GE197) hb) ?_⟩; clear HO_11 BK197 HB hb; intro HO_11 BK197 HB; obtain ⟨Ao16, co16, eo16⟩ := Kd.R_slice HO_11.out; subst eo16) | ((with_reducible refine gate_callee (f := 77) rfl ?_); refine goesL_ (some 35) rfl rfl Try.func77 (by kernel_rfl) rfl #[.slice Ao16 x11_1.length co16, .int .i64 x14_1] rfl mp_ ?_; (with_reducible refine (spec_l4Put.calls (fun k_ => some k_ = (.slice Ao16 x11_1.length co16 : Value).ownBlock) (.slice Ao16 x11_1.length co16) x11_1 x14_1 t204 w _ ?side1 ?side2 A13.out).mono ?_); (case side1 => repeat (first | (with_reducible first | exact HB.out | apply below_alloc | apply pw_below_drewN | apply below_drew1 | refine below_set ?_ GE197.out) | exact HB.out)); (case side2 => exact Kd.R_tight rfl HO_11.out); rintro e w17 ⟨v205, rfl, ho0, hb, hkp⟩; refine ⟨_, rfl, sh3_ (blk_kept (bk_ BK197) hkp (fun hs_ => (fun e_ => (Kd.R_ne HO_11.out BK197.out (by decide)) e_) hs_)) (Kd.R_mono (ok' := fun k_ => True) ho0 (fun k_ hk_ => trivial)) hb ?_⟩; clear BK197 HB HO_11 hb hkp ho0; intro BK197 HO206 HB))
     go_roundg k1
     case measure => have := HK1.out; omega
     case rel => exact ⟨(t204), (wrap64 (x14_1 + 1)), (by first | rfl | (simp; done) | (simp [*]; done)), H', ⟨by have := HK1.out; omega⟩, ⟨ra_ HO206⟩, ⟨by (with_reducible repeat (first | refine blk_drewN ?_ _ | refine blk_drew ?_ | refine blk_alloc ?_ _)); exact BK197.out⟩, ⟨bl1_ HB GE197⟩⟩
    ·replace c12 := Bool.eq_false_iff.mpr c12
     subst c12
     have H1 : (spec_SureWindows.l0 k1 a1 a2 x11_1 t202 (wrap64 (x14_1 + 1)) a0_0 l0_1 l0_2 a0_3 a0_4 a0_5 a0_6 a0_7 l0_8 a0_9) = some r := by rw [if_neg (show ¬ (false = true) by decide)] at H; exact H
     clear H
     have H := H1
     clear H1
     have H' := Aside0.mk H
     clear H
     have hcz18 := cf10_ BK197
     go_wp2_with (first | ((with_reducible refine gate_callee (f := 68) rfl ?_); refine gl_ 32 Try.func68 (spec_IsSure.calls k1 a0_0 _ _ l0_1 _ _ l0_2 a0_3 a0_4 a0_5 a0_6 a0_7 _ _ l0_8 a0_9 a1 a2 x14_1 false _ (ck_ HR0_1 HB) HC0_1.out (ck_ HR0_2 HB) HC0_2.out (ck_ HR0_8 HB) HC0_8.out A11.out) ?_; rintro e w19 ⟨rfl, hb⟩; refine ⟨_, rfl, sh3_ (Kd.R_below (ra_ HO_11) hb) (blk_below (bk_ BK197) hb) (below_step (bl1_ HB GE197) hb) ?_⟩; clear HO_11 BK197 HB hb; intro HO_11 BK197 HB))
     go_roundg k1
     case measure => have := HK1.out; omega
     case rel => exact ⟨(x11_1), (wrap64 (x14_1 + 1)), (by first | rfl | (simp; done) | (simp [*]; done)), H', ⟨by have := HK1.out; omega⟩, ⟨ra_ HO_11⟩, ⟨by (with_reducible repeat (first | refine blk_drewN ?_ _ | refine blk_drew ?_ | refine blk_alloc ?_ _)); exact BK197.out⟩, ⟨bl1_ HB GE197⟩⟩
   ·rw [if_neg c10] at H
    have c10b0 := decide_eq_false c10
    clear c10
    obtain rfl := Option.some.inj H
    go_wp2
    go_ret
    exact ⟨_, er_, ra_ HO_11, bl1_ HB GE197⟩

/-! ### spec_IsSpan: function 95 -/
def spec_IsSpan.f (a0_0 : Int) (a0_1 : Int) : Option (Bool) := if a0_0 ≥ 0 then (if a0_1 ≤ 1000 then (some (decide (a0_0 < a0_1))) else (some false)) else (some false)
set_option maxHeartbeats 8000000 in
set_option maxRecDepth 100000 in
theorem spec_IsSpan.calls (a0_0 : Int) (a0_1 : Int) (r : Bool) (w : World) (h : spec_IsSpan.f a0_0 a0_1 = some r) :
  Calls Try.prog 95 #[.agg #[.int .i64 a0_0, .int .i64 a0_1]] w fun e w' => e = .returned (.bool r) ∧ Below w.heap.size w w' := by
 have hu73 := Try.underlying73
 have HB := Aside0.mk (Below.refl w.heap.size w)
 have H := h
 clear h
 unfold spec_IsSpan.f at H
 by_cases c2 : a0_0 ≥ 0
 ·rw [if_pos c2] at H
  have c2b0 : decide (0 ≤ a0_0) = true := decide_eq_true c2
  clear c2
  by_cases c3 : a0_1 ≤ 1000
  ·rw [if_pos c3] at H
   have c3b0 := decide_eq_true c3
   clear c3
   obtain rfl := Option.some.inj H
   go_enter Try.func95, Try.ntmps95
   go_wp2_with (first | ((with_reducible refine gd_ 1 ?_); refine bx_ 1 73 #[.int .i64 a0_0, .int .i64 a0_1] ?_; intro gb207 hg w4 hbox hb; refine sh3_ (below_step (bl_ HB) hb) hbox (ge_ hg (bl_ HB)) ?_; clear HB hb hbox hg; intro HB BK207 GE207; have hcz5 := cf2_ BK207))
   go_ret
   exact ⟨er_, bl1_ HB GE207⟩
  ·rw [if_neg c3] at H
   have c3b0 := decide_eq_false c3
   clear c3
   obtain rfl := Option.some.inj H
   go_enter Try.func95, Try.ntmps95
   go_wp2_with (first | ((with_reducible refine gd_ 1 ?_); refine bx_ 1 73 #[.int .i64 a0_0, .int .i64 a0_1] ?_; intro gb207 hg w6 hbox hb; refine sh3_ (below_step (bl_ HB) hb) hbox (ge_ hg (bl_ HB)) ?_; clear HB hb hbox hg; intro HB BK207 GE207; have hcz7 := cf2_ BK207))
   go_ret
   exact ⟨er_, bl1_ HB GE207⟩
 ·rw [if_neg c2] at H
  have c2b0 : decide (0 ≤ a0_0) = false := decide_eq_false c2
  clear c2
  obtain rfl := Option.some.inj H
  go_enter Try.func95, Try.ntmps95
  go_wp2_with (first | ((with_reducible refine gd_ 1 ?_); refine bx_ 1 73 #[.int .i64 a0_0, .int .i64 a0_1] ?_; intro gb207 hg w8 hbox hb; refine sh3_ (below_step (bl_ HB) hb) hbox (ge_ hg (bl_ HB)) ?_; clear HB hb hbox hg; intro HB BK207 GE207; have hcz9 := cf2_ BK207))
  go_ret
  exact ⟨er_, bl1_ HB GE207⟩

/-! ### spec_l4Last: function 79 -/
def spec_l4Last.l0 : Nat → List (S73) → Int → Int → Option (Int)
 | 0, _, _, _ => none
 | k + 1, x0, x3, x4 => if x4 < (x0.length : Int) then (if 0 ≤ x4 then ((spec_IsSpan.f ((rd_T73 x0 x4).f0) ((rd_T73 x0 x4).f1)).bind fun t209 => (if t209 = true then ((spec_Max.f x3 ((rd_T73 x0 x4).f1)).bind fun t211 => (spec_l4Last.l0 k x0 t211 (wrap64 (x4 + 1)))) else (spec_l4Last.l0 k x0 x3 (wrap64 (x4 + 1))))) else (none)) else (some x3)
def spec_l4Last.f (k : Nat) (l0 : List (S73)) : Option (Int) := spec_l4Last.l0 k l0 0 0
theorem spec_l4Last.mono_l : ∀ k, (∀ y0 y1 y2, LeO (spec_l4Last.l0 k y0 y1 y2) (spec_l4Last.l0 (k + 1) y0 y1 y2))
 | 0 => fun _ _ _ r h => by simp [spec_l4Last.l0] at h
 | k + 1 => by
  have ih0 := spec_l4Last.mono_l k
  ·intro y0 y1 y2
   unfold spec_l4Last.l0
   repeat' first | (with_reducible first | exact ih0 _ _ _ | exact LeO.refl _ | exact LeO.none _ | refine LeO.ite ?_ ?_ | refine LeO.bind ?_ (fun _ => ?_)) | exact LeO.none _ | refine LeO.ite ?_ ?_ | refine LeO.bind ?_ (fun _ => ?_)
theorem spec_l4Last.mono : ∀ a0 k, LeO (spec_l4Last.f k a0) (spec_l4Last.f (k + 1) a0) := by
 intro a0 k
 have ih0 := spec_l4Last.mono_l k
 unfold spec_l4Last.f
 repeat' first | (with_reducible first | exact ih0 _ _ _ | exact LeO.refl _ | exact LeO.none _ | refine LeO.ite ?_ ?_ | refine LeO.bind ?_ (fun _ => ?_)) | exact LeO.none _ | refine LeO.ite ?_ ?_ | refine LeO.bind ?_ (fun _ => ?_)
set_option maxHeartbeats 8000000 in
set_option maxRecDepth 100000 in
theorem spec_l4Last.calls (k : Nat) (A0 : Option Addr) (c0 : Nat) (l0 : List (S73)) (r : Int) (w : World) (hr0 : Kd.C k73 w A0 l0.length l0) (hc0 : l0.length ≤ c0) (h : spec_l4Last.f k l0 = some r) :
  Calls Try.prog 79 #[.slice A0 l0.length c0] w fun e w' => e = .returned (.int .i64 r) ∧ Below w.heap.size w w' := by
 have hu73 := Try.underlying73
 have HR0 := Aside0.mk hr0
 have HC0 := Aside0.mk hc0
 clear hr0 hc0
 have HB := Aside0.mk (Below.refl w.heap.size w)
 have H := h
 clear h
 unfold spec_l4Last.f at H
 have H' := Aside0.mk H
 clear H
 go_enter Try.func79, Try.ntmps79
 go_wp2
 go_loopg [3, 4] k (fun kq v3 v4 w' => ∃ (x3_1 : Int) (x4_1 : Int), v3 = .int .i64 x3_1 ∧ v4 = .int .i64 x4_1 ∧ Aside0 (spec_l4Last.l0 kq l0 x3_1 x4_1 = some r) ∧ Aside0 (kq ≤ k) ∧ Aside0 (Below w.heap.size w w'))
 case atStart => exact ⟨(0), (0), (by first | rfl | (simp; done) | (simp [*]; done)), (by first | rfl | (simp; done) | (simp [*]; done)), H', ⟨Nat.le_refl _⟩, ⟨bl_ HB⟩⟩
 case round =>
  clear H'
  obtain ⟨x3_1, x4_1, rfl, rfl, HA, HK1, HB⟩ := hrel
  cases gk with
  | zero => exact absurd HA.out (by simp [spec_l4Last.l0])
  | succ k1 =>
   have H := HA.out
   clear HA
   simp only [spec_l4Last.l0] at H
   by_cases c2 : x4_1 < (l0.length : Int)
   ·rw [if_pos c2] at H
    have c2b0 := decide_eq_true c2
    clear c2
    replace H := ifn_ H
    obtain ⟨c3, H⟩ := H
    have c3b0 := decide_eq_true c3
    clear c3
    replace H := bs_ H
    obtain ⟨t209, A4, H⟩ := H
    by_cases c5 : t209 = true
    ·subst c5
     rw [if_pos rfl] at H
     replace H := bs_ H
     obtain ⟨t211, A6, H⟩ := H
     have H' := Aside0.mk H
     clear H
     have p208 : 0 ≤ (x4_1 : Int) := od_
     have q208 : x4_1 < (l0.length : Int) := od_
     obtain ⟨ad208, e208, hx208_0, hx208_1⟩ := at_T73 HR0.out x4_1 p208 q208
     cases e208
     replace hx208_0 := hbc_ HB hx208_0
     replace hx208_1 := hbc_ HB hx208_1
     replace p208 := eq_true p208
     replace q208 := eq_true q208
     go_wp2_with (first | ((with_reducible refine gate_callee (f := 95) rfl ?_); refine gl_ 15 Try.func95 (spec_IsSpan.calls ((rd_T73 l0 x4_1).f0) ((rd_T73 l0 x4_1).f1) true _ A4.out) ?_; rintro e w7 ⟨rfl, hb⟩; refine ⟨_, rfl, sh1_ (below_step (bl_ HB) hb) ?_⟩; clear HB hb; intro HB; have p210 : 0 ≤ (x4_1 : Int) := od_; have q210 : x4_1 < (l0.length : Int) := od_; obtain ⟨ad210, e210, hx210_0, hx210_1⟩ := at_T73 HR0.out x4_1 p210 q210; obtain rfl : ad208 = ad210 := (by injection e210); replace hx210_0 := hbc_ HB hx210_0; replace hx210_1 := hbc_ HB hx210_1; replace p210 := eq_true p210; replace q210 := eq_true q210) | ((with_reducible refine gate_callee (f := 73) rfl ?_); refine gl_ 22 Try.func73 (spec_Max.calls x3_1 ((rd_T73 l0 x4_1).f1) t211 _ A6.out) ?_; rintro e w' ⟨rfl, ⟨nd, rfl⟩⟩; refine ⟨_, rfl, ?_⟩))
     go_roundg k1
     case measure => have := HK1.out; omega
     case rel => exact ⟨(t211), (wrap64 (x4_1 + 1)), (by first | rfl | (simp; done) | (simp [*]; done)), (by first | rfl | (simp; done) | (simp [*]; done)), H', ⟨by have := HK1.out; omega⟩, ⟨bl_ HB⟩⟩
    ·replace c5 := Bool.eq_false_iff.mpr c5
     subst c5
     have H1 : (spec_l4Last.l0 k1 l0 x3_1 (wrap64 (x4_1 + 1))) = some r := by rw [if_neg (show ¬ (false = true) by decide)] at H; exact H
     clear H
     have H := H1
     clear H1
     have H' := Aside0.mk H
     clear H
     have p208 : 0 ≤ (x4_1 : Int) := od_
     have q208 : x4_1 < (l0.length : Int) := od_
     obtain ⟨ad208, e208, hx208_0, hx208_1⟩ := at_T73 HR0.out x4_1 p208 q208
     cases e208
     replace hx208_0 := hbc_ HB hx208_0
     replace hx208_1 := hbc_ HB hx208_1
     replace p208 := eq_true p208
     replace q208 := eq_true q208
     go_wp2_with (first | ((with_reducible refine gate_callee (f := 95) rfl ?_); refine gl_ 15 Try.func95 (spec_IsSpan.calls ((rd_T73 l0 x4_1).f0) ((rd_T73 l0 x4_1).f1) false _ A4.out) ?_; rintro e w8 ⟨rfl, hb⟩; refine ⟨_, rfl, sh1_ (below_step (bl_ HB) hb) ?_⟩; clear HB hb; intro HB))
     go_roundg k1
     case measure => have := HK1.out; omega
     case rel => exact ⟨(x3_1), (wrap64 (x4_1 + 1)), (by first | rfl | (simp; done) | (simp [*]; done)), (by first | rfl | (simp; done) | (simp [*]; done)), H', ⟨by have := HK1.out; omega⟩, ⟨bl_ HB⟩⟩
   ·rw [if_neg c2] at H
    have c2b0 := decide_eq_false c2
    clear c2
    obtain rfl := Option.some.inj H
    go_wp2
    go_ret
    exact ⟨er_, bl_ HB⟩

/-! ### spec_InSpan: function 100 -/
def spec_InSpan.f (a0_0 : Int) (a0_1 : Int) (a1 : Int) : Option (Bool) := (spec_IsSpan.f a0_0 a0_1).bind fun t213 => (if t213 = true then (if a0_0 ≤ a1 then (some (decide (a1 < a0_1))) else (some false)) else (some false))
set_option maxHeartbeats 8000000 in
set_option maxRecDepth 100000 in
theorem spec_InSpan.calls (a0_0 : Int) (a0_1 : Int) (a1 : Int) (r : Bool) (w : World) (h : spec_InSpan.f a0_0 a0_1 a1 = some r) :
  Calls Try.prog 100 #[.agg #[.int .i64 a0_0, .int .i64 a0_1], .int .i64 a1] w fun e w' => e = .returned (.bool r) ∧ Below w.heap.size w w' := by
 have hu73 := Try.underlying73
 have HB := Aside0.mk (Below.refl w.heap.size w)
 have H := h
 clear h
 unfold spec_InSpan.f at H
 replace H := bs_ H
 obtain ⟨t213, A3, H⟩ := H
 by_cases c4 : t213 = true
 ·subst c4
  rw [if_pos rfl] at H
  by_cases c5 : a0_0 ≤ a1
  ·rw [if_pos c5] at H
   have c5b0 := decide_eq_true c5
   clear c5
   obtain rfl := Option.some.inj H
   go_enter Try.func100, Try.ntmps100
   go_wp2_with (first | ((with_reducible refine gd_ 2 ?_); refine bx_ 2 73 #[.int .i64 a0_0, .int .i64 a0_1] ?_; intro gb212 hg w6 hbox hb; refine sh3_ (below_step (bl_ HB) hb) hbox (ge_ hg (bl_ HB)) ?_; clear HB hb hbox hg; intro HB BK212 GE212; have hcz7 := cf2_ BK212) | ((with_reducible refine gate_callee (f := 95) rfl ?_); refine gl_ 6 Try.func95 (spec_IsSpan.calls a0_0 a0_1 true _ A3.out) ?_; rintro e w8 ⟨rfl, hb⟩; refine ⟨_, rfl, sh2_ (blk_below (bk_ BK212) hb) (below_step (bl1_ HB GE212) hb) ?_⟩; clear BK212 HB hb; intro BK212 HB; have hcz9 := cf2_ BK212))
   go_ret
   exact ⟨er_, bl1_ HB GE212⟩
  ·rw [if_neg c5] at H
   have c5b0 := decide_eq_false c5
   clear c5
   obtain rfl := Option.some.inj H
   go_enter Try.func100, Try.ntmps100
   go_wp2_with (first | ((with_reducible refine gd_ 2 ?_); refine bx_ 2 73 #[.int .i64 a0_0, .int .i64 a0_1] ?_; intro gb212 hg w10 hbox hb; refine sh3_ (below_step (bl_ HB) hb) hbox (ge_ hg (bl_ HB)) ?_; clear HB hb hbox hg; intro HB BK212 GE212; have hcz11 := cf2_ BK212) | ((with_reducible refine gate_callee (f := 95) rfl ?_); refine gl_ 6 Try.func95 (spec_IsSpan.calls a0_0 a0_1 true _ A3.out) ?_; rintro e w12 ⟨rfl, hb⟩; refine ⟨_, rfl, sh2_ (blk_below (bk_ BK212) hb) (below_step (bl1_ HB GE212) hb) ?_⟩; clear BK212 HB hb; intro BK212 HB; have hcz13 := cf2_ BK212))
   go_ret
   exact ⟨er_, bl1_ HB GE212⟩
 ·replace c4 := Bool.eq_false_iff.mpr c4
  subst c4
  have H1 : (some false) = some r := by rw [if_neg (show ¬ (false = true) by decide)] at H; exact H
  clear H
  have H := H1
  clear H1
  obtain rfl := Option.some.inj H
  go_enter Try.func100, Try.ntmps100
  go_wp2_with (first | ((with_reducible refine gd_ 2 ?_); refine bx_ 2 73 #[.int .i64 a0_0, .int .i64 a0_1] ?_; intro gb212 hg w14 hbox hb; refine sh3_ (below_step (bl_ HB) hb) hbox (ge_ hg (bl_ HB)) ?_; clear HB hb hbox hg; intro HB BK212 GE212; have hcz15 := cf2_ BK212) | ((with_reducible refine gate_callee (f := 95) rfl ?_); refine gl_ 6 Try.func95 (spec_IsSpan.calls a0_0 a0_1 false _ A3.out) ?_; rintro e w16 ⟨rfl, hb⟩; refine ⟨_, rfl, sh2_ (blk_below (bk_ BK212) hb) (below_step (bl1_ HB GE212) hb) ?_⟩; clear BK212 HB hb; intro BK212 HB))
  go_ret
  exact ⟨er_, bl1_ HB GE212⟩

/-! ### spec_InSpans: function 80 -/
def spec_InSpans.l0 : Nat → List (S73) → Int → Int → Option (Bool)
 | 0, _, _, _ => none
 | k + 1, x0, x1, x5 => if x5 < (x0.length : Int) then (if 0 ≤ x5 then ((spec_InSpan.f ((rd_T73 x0 x5).f0) ((rd_T73 x0 x5).f1) x1).bind fun t215 => (if t215 = true then (some true) else (spec_InSpans.l0 k x0 x1 (wrap64 (x5 + 1))))) else (none)) else (some false)
def spec_InSpans.f (k : Nat) (l0 : List (S73)) (a1 : Int) : Option (Bool) := spec_InSpans.l0 k l0 a1 0
theorem spec_InSpans.mono_l : ∀ k, (∀ y0 y1 y2, LeO (spec_InSpans.l0 k y0 y1 y2) (spec_InSpans.l0 (k + 1) y0 y1 y2))
 | 0 => fun _ _ _ r h => by simp [spec_InSpans.l0] at h
 | k + 1 => by
  have ih0 := spec_InSpans.mono_l k
  ·intro y0 y1 y2
   unfold spec_InSpans.l0
   repeat' first | (with_reducible first | exact ih0 _ _ _ | exact LeO.refl _ | exact LeO.none _ | refine LeO.ite ?_ ?_ | refine LeO.bind ?_ (fun _ => ?_)) | exact LeO.none _ | refine LeO.ite ?_ ?_ | refine LeO.bind ?_ (fun _ => ?_)
theorem spec_InSpans.mono : ∀ a0 a1 k, LeO (spec_InSpans.f k a0 a1) (spec_InSpans.f (k + 1) a0 a1) := by
 intro a0 a1 k
 have ih0 := spec_InSpans.mono_l k
 unfold spec_InSpans.f
 repeat' first | (with_reducible first | exact ih0 _ _ _ | exact LeO.refl _ | exact LeO.none _ | refine LeO.ite ?_ ?_ | refine LeO.bind ?_ (fun _ => ?_)) | exact LeO.none _ | refine LeO.ite ?_ ?_ | refine LeO.bind ?_ (fun _ => ?_)
set_option maxHeartbeats 8000000 in
set_option maxRecDepth 100000 in
theorem spec_InSpans.calls (k : Nat) (A0 : Option Addr) (c0 : Nat) (l0 : List (S73)) (a1 : Int) (r : Bool) (w : World) (hr0 : Kd.C k73 w A0 l0.length l0) (hc0 : l0.length ≤ c0) (h : spec_InSpans.f k l0 a1 = some r) :
  Calls Try.prog 80 #[.slice A0 l0.length c0, .int .i64 a1] w fun e w' => e = .returned (.bool r) ∧ Below w.heap.size w w' := by
 have hu73 := Try.underlying73
 have HR0 := Aside0.mk hr0
 have HC0 := Aside0.mk hc0
 clear hr0 hc0
 have HB := Aside0.mk (Below.refl w.heap.size w)
 have H := h
 clear h
 unfold spec_InSpans.f at H
 have H' := Aside0.mk H
 clear H
 go_enter Try.func80, Try.ntmps80
 go_wp2
 go_loopg [5] k (fun kq v5 w' => ∃ (x5_1 : Int), v5 = .int .i64 x5_1 ∧ Aside0 (spec_InSpans.l0 kq l0 a1 x5_1 = some r) ∧ Aside0 (kq ≤ k) ∧ Aside0 (Below w.heap.size w w'))
 case atStart => exact ⟨(0), (by first | rfl | (simp; done) | (simp [*]; done)), H', ⟨Nat.le_refl _⟩, ⟨bl_ HB⟩⟩
 case round =>
  clear H'
  try clear p2
  obtain ⟨x5_1, rfl, HA, HK1, HB⟩ := hrel
  cases gk with
  | zero => exact absurd HA.out (by simp [spec_InSpans.l0])
  | succ k1 =>
   have H := HA.out
   clear HA
   simp only [spec_InSpans.l0] at H
   by_cases c3 : x5_1 < (l0.length : Int)
   ·rw [if_pos c3] at H
    have c3b0 := decide_eq_true c3
    clear c3
    replace H := ifn_ H
    obtain ⟨c4, H⟩ := H
    have c4b0 := decide_eq_true c4
    clear c4
    replace H := bs_ H
    obtain ⟨t215, A5, H⟩ := H
    by_cases c6 : t215 = true
    ·subst c6
     rw [if_pos rfl] at H
     obtain rfl := Option.some.inj H
     have p214 : 0 ≤ (x5_1 : Int) := od_
     have q214 : x5_1 < (l0.length : Int) := od_
     obtain ⟨ad214, e214, hx214_0, hx214_1⟩ := at_T73 HR0.out x5_1 p214 q214
     cases e214
     replace hx214_0 := hbc_ HB hx214_0
     replace hx214_1 := hbc_ HB hx214_1
     replace p214 := eq_true p214
     replace q214 := eq_true q214
     go_wp2_with (first | ((with_reducible refine gate_callee (f := 100) rfl ?_); refine gl_ 17 Try.func100 (spec_InSpan.calls ((rd_T73 l0 x5_1).f0) ((rd_T73 l0 x5_1).f1) a1 true _ A5.out) ?_; rintro e w7 ⟨rfl, hb⟩; refine ⟨_, rfl, sh1_ (below_step (bl_ HB) hb) ?_⟩; clear HB hb; intro HB))
     go_ret
     exact ⟨er_, bl_ HB⟩
    ·replace c6 := Bool.eq_false_iff.mpr c6
     subst c6
     have H1 : (spec_InSpans.l0 k1 l0 a1 (wrap64 (x5_1 + 1))) = some r := by rw [if_neg (show ¬ (false = true) by decide)] at H; exact H
     clear H
     have H := H1
     clear H1
     have H' := Aside0.mk H
     clear H
     have p214 : 0 ≤ (x5_1 : Int) := od_
     have q214 : x5_1 < (l0.length : Int) := od_
     obtain ⟨ad214, e214, hx214_0, hx214_1⟩ := at_T73 HR0.out x5_1 p214 q214
     cases e214
     replace hx214_0 := hbc_ HB hx214_0
     replace hx214_1 := hbc_ HB hx214_1
     replace p214 := eq_true p214
     replace q214 := eq_true q214
     go_wp2_with (first | ((with_reducible refine gate_callee (f := 100) rfl ?_); refine gl_ 17 Try.func100 (spec_InSpan.calls ((rd_T73 l0 x5_1).f0) ((rd_T73 l0 x5_1).f1) a1 false _ A5.out) ?_; rintro e w8 ⟨rfl, hb⟩; refine ⟨_, rfl, sh1_ (below_step (bl_ HB) hb) ?_⟩; clear HB hb; intro HB))
     go_roundg k1
     case measure => have := HK1.out; omega
     case rel => exact ⟨(wrap64 (x5_1 + 1)), (by first | rfl | (simp; done) | (simp [*]; done)), H', ⟨by have := HK1.out; omega⟩, ⟨bl_ HB⟩⟩
   ·rw [if_neg c3] at H
    have c3b0 := decide_eq_false c3
    clear c3
    obtain rfl := Option.some.inj H
    go_wp2
    go_ret
    exact ⟨er_, bl_ HB⟩

/-! ### spec_CutSpans: function 43 -/
def spec_CutSpans.l0 : Nat → List (S73) → List (S73) → List (S73) → Int → Int → Option ((List (S73)))
 | 0, _, _, _, _, _ => none
 | k + 1, x0, x1, x5, x6, x7 => if x7 < x6 then ((spec_InSpans.f k x0 x7).bind fun t220 => (if t220 = true then ((spec_InSpans.f k x1 x7).bind fun t221 => (if t221 = true then (spec_CutSpans.l0 k x0 x1 x5 x6 (wrap64 (x7 + 1))) else ((spec_l4Put.f x5 x7).bind fun t222 => (spec_CutSpans.l0 k x0 x1 t222 x6 (wrap64 (x7 + 1)))))) else (spec_CutSpans.l0 k x0 x1 x5 x6 (wrap64 (x7 + 1))))) else (some x5)
def spec_CutSpans.f (k : Nat) (l0 : List (S73)) (l1 : List (S73)) : Option ((List (S73))) := (spec_l4Last.f k l0).bind fun t219 => (spec_CutSpans.l0 k l0 l1 (([] : List (S73))) t219 0)
theorem spec_CutSpans.mono_l : ∀ k, (∀ y0 y1 y2 y3 y4, LeO (spec_CutSpans.l0 k y0 y1 y2 y3 y4) (spec_CutSpans.l0 (k + 1) y0 y1 y2 y3 y4))
 | 0 => fun _ _ _ _ _ r h => by simp [spec_CutSpans.l0] at h
 | k + 1 => by
  have ih0 := spec_CutSpans.mono_l k
  ·intro y0 y1 y2 y3 y4
   unfold spec_CutSpans.l0
   repeat' first | (with_reducible first | exact ih0 _ _ _ _ _ | exact spec_InSpans.mono _ _ _ | exact spec_l4Last.mono _ _ | exact LeO.refl _ | exact LeO.none _ | refine LeO.ite ?_ ?_ | refine LeO.bind ?_ (fun _ => ?_)) | exact LeO.none _ | refine LeO.ite ?_ ?_ | refine LeO.bind ?_ (fun _ => ?_)
theorem spec_CutSpans.mono : ∀ a0 a1 k, LeO (spec_CutSpans.f k a0 a1) (spec_CutSpans.f (k + 1) a0 a1) := by
 intro a0 a1 k
 have ih0 := spec_CutSpans.mono_l k
 unfold spec_CutSpans.f
 repeat' first | (with_reducible first | exact ih0 _ _ _ _ _ | exact spec_InSpans.mono _ _ _ | exact spec_l4Last.mono _ _ | exact LeO.refl _ | exact LeO.none _ | refine LeO.ite ?_ ?_ | refine LeO.bind ?_ (fun _ => ?_)) | exact LeO.none _ | refine LeO.ite ?_ ?_ | refine LeO.bind ?_ (fun _ => ?_)
set_option maxHeartbeats 8000000 in
set_option maxRecDepth 100000 in
theorem spec_CutSpans.calls (k : Nat) (A0 : Option Addr) (c0 : Nat) (l0 : List (S73)) (A1 : Option Addr) (c1 : Nat) (l1 : List (S73)) (r : List (S73)) (w : World) (hr0 : Kd.C k73 w A0 l0.length l0) (hc0 : l0.length ≤ c0) (hr1 : Kd.C k73 w A1 l1.length l1) (hc1 : l1.length ≤ c1) (h : spec_CutSpans.f k l0 l1 = some r) :
  Calls Try.prog 43 #[.slice A0 l0.length c0, .slice A1 l1.length c1] w fun e w' => ∃ v0_ : Value, e = .returned (v0_) ∧ Kd.R k73 73 w' w.heap.size (fun _ => True) v0_ r ∧ Below w.heap.size w w' := by
 have HR0 := Aside0.mk hr0
 have HC0 := Aside0.mk hc0
 clear hr0 hc0
 have HR1 := Aside0.mk hr1
 have HC1 := Aside0.mk hc1
 clear hr1 hc1
 have HB := Aside0.mk (Below.refl w.heap.size w)
 have H := h
 clear h
 unfold spec_CutSpans.f at H
 replace H : ∃ y_ : List (S73), Aside0 (y_ = (([] : List (S73)))) ∧ ((spec_l4Last.f k l0).bind fun t219 => (spec_CutSpans.l0 k l0 l1 y_ t219 0)) = some r := ⟨_, ⟨rfl⟩, yh_ H⟩
 obtain ⟨y216, Ny216, H⟩ := H
 replace H := bs_ H
 obtain ⟨t219, A3, H⟩ := H
 have H' := Aside0.mk H
 clear H
 go_enter Try.func43, Try.ntmps43
 go_wp2_with (first | ((with_reducible refine gate_dst (N := 8) rfl ?_); refine Kd.R_lit k73 _ 73 ?hg (N := 8) ?hd (xs := ([] : List (S73))) (inner := []) (ok := fun _ => True) (okp := fun _ => True) ?hr ?hp (fun _ hk => hk) trivial (Below.refl _ _) (Nat.le_refl _) (by simp) ?_; (case hd => rfl); (case hg => rfl); (case hr => first | (go_simp; done) | (go_simp; rfl)); (case hp => exact (Reps.none _ _)); intro v217 w4 ho5 hb hg_ hnew_; clear hg_ hnew_; (first | rw [← Ny216.out] at ho5 | (simp only [Int.reduceToNat] at ho5; rw [← Ny216.out] at ho5)); refine sh2_ (Kd.R_lower ho5 (below_size (bl_ HB))) (below_step (bl_ HB) hb) ?_; clear HB hb ho5; intro HO218 HB) | ((with_reducible refine gate_callee (f := 79) rfl ?_); refine gl_ 10 Try.func79 (spec_l4Last.calls k _ _ l0 t219 _ (ck_ HR0 HB) HC0.out A3.out) ?_; rintro e w6 ⟨rfl, hb⟩; refine ⟨_, rfl, sh2_ (Kd.R_below (ra_ HO218) hb) (below_step (bl_ HB) hb) ?_⟩; clear HO218 HB hb; intro HO218 HB))
 go_loopg [5, 7] k (fun kq v5 v7 w' => ∃ (x5_1 : List (S73)) (x7_1 : Int), v7 = .int .i64 x7_1 ∧ Aside0 (spec_CutSpans.l0 kq l0 l1 x5_1 t219 x7_1 = some r) ∧ Aside0 (kq ≤ k) ∧ Aside0 (Kd.R k73 73 w' w.heap.size (fun _ => True) v5 x5_1) ∧ Aside0 (Below w.heap.size w w'))
 case atStart => exact ⟨(y216), (0), (by first | rfl | (simp; done) | (simp [*]; done)), H', ⟨Nat.le_refl _⟩, ⟨ra_ HO218⟩, ⟨bl_ HB⟩⟩
 case round =>
  clear H'
  try clear c1
  try clear p2
  try clear c4
  obtain ⟨x5_1, x7_1, rfl, HA, HK1, HO_5, HB⟩ := hrel
  cases gk with
  | zero => exact absurd HA.out (by simp [spec_CutSpans.l0])
  | succ k1 =>
   have H := HA.out
   clear HA
   simp only [spec_CutSpans.l0] at H
   by_cases c7 : x7_1 < t219
   ·rw [if_pos c7] at H
    have c7b0 := decide_eq_true c7
    clear c7
    replace H := bs_ H
    obtain ⟨t220, A8, H⟩ := H
    by_cases c9 : t220 = true
    ·subst c9
     rw [if_pos rfl] at H
     replace H := bs_ H
     obtain ⟨t221, A10, H⟩ := H
     by_cases c11 : t221 = true
     ·subst c11
      rw [if_pos rfl] at H
      have H' := Aside0.mk H
      clear H
      go_wp2_with (first | ((with_reducible refine gate_callee (f := 80) rfl ?_); refine gl_ 18 Try.func80 (spec_InSpans.calls k1 _ _ l0 x7_1 true _ (ck_ HR0 HB) HC0.out A8.out) ?_; rintro e w12 ⟨rfl, hb⟩; refine ⟨_, rfl, sh2_ (Kd.R_below (ra_ HO_5) hb) (below_step (bl_ HB) hb) ?_⟩; clear HO_5 HB hb; intro HO_5 HB) | (go_at_call 80; (with_reducible refine (spec_InSpans.calls k1 _ _ l1 x7_1 true _ ?side1 ?side2 A10.out).mono ?_); (case side1 => exact ck_ HR1 HB); (case side2 => exact HC1.out); rintro e w13 ⟨rfl, hb⟩; refine sh2_ (Kd.R_below (ra_ HO_5) hb) (below_step (bl_ HB) hb) ?_; clear HO_5 HB hb; intro HO_5 HB))
      go_roundg k1
      case measure => have := HK1.out; omega
      case rel => exact ⟨(x5_1), (wrap64 (x7_1 + 1)), (by first | rfl | (simp; done) | (simp [*]; done)), H', ⟨by have := HK1.out; omega⟩, ⟨ra_ HO_5⟩, ⟨bl_ HB⟩⟩
     ·replace c11 := Bool.eq_false_iff.mpr c11
      subst c11
      have H1 : ((spec_l4Put.f x5_1 x7_1).bind fun t222 => (spec_CutSpans.l0 k1 l0 l1 t222 t219 (wrap64 (x7_1 + 1)))) = some r := by rw [if_neg (show ¬ (false = true) by decide)] at H; exact H
      clear H
      have H := H1
      clear H1
      replace H := bs_ H
      obtain ⟨t222, A14, H⟩ := H
      have H' := Aside0.mk H
      clear H
      go_wp2_with (first | ((with_reducible refine gate_callee (f := 80) rfl ?_); refine gl_ 18 Try.func80 (spec_InSpans.calls k1 _ _ l0 x7_1 true _ (ck_ HR0 HB) HC0.out A8.out) ?_; rintro e w15 ⟨rfl, hb⟩; refine ⟨_, rfl, sh2_ (Kd.R_below (ra_ HO_5) hb) (below_step (bl_ HB) hb) ?_⟩; clear HO_5 HB hb; intro HO_5 HB) | (go_at_call 80; (with_reducible refine (spec_InSpans.calls k1 _ _ l1 x7_1 false _ ?side1 ?side2 A10.out).mono ?_); (case side1 => exact ck_ HR1 HB); (case side2 => exact HC1.out); rintro e w16 ⟨rfl, hb⟩; refine sh2_ (Kd.R_below (ra_ HO_5) hb) (below_step (bl_ HB) hb) ?_; clear HO_5 HB hb; intro HO_5 HB; obtain ⟨Ao17, co17, eo17⟩ := Kd.R_slice HO_5.out; subst eo17) | ((with_reducible refine gate_callee (f := 77) rfl ?_); refine goesL_ (some 27) rfl rfl Try.func77 (by kernel_rfl) rfl #[.slice Ao17 x5_1.length co17, .int .i64 x7_1] rfl mp_ ?_; (with_reducible refine (spec_l4Put.calls (fun k_ => some k_ = (.slice Ao17 x5_1.length co17 : Value).ownBlock) (.slice Ao17 x5_1.length co17) x5_1 x7_1 t222 w _ ?side1 ?side2 A14.out).mono ?_); (case side1 => repeat (first | (with_reducible first | exact HB.out | apply below_alloc | apply pw_below_drewN | apply below_drew1) | exact HB.out)); (case side2 => exact Kd.R_tight rfl HO_5.out); rintro e w18 ⟨v223, rfl, ho0, hb, hkp⟩; refine ⟨_, rfl, sh2_ (Kd.R_mono (ok' := fun k_ => True) ho0 (fun k_ hk_ => trivial)) hb ?_⟩; clear HB HO_5 hb hkp ho0; intro HO224 HB))
      go_roundg k1
      case measure => have := HK1.out; omega
      case rel => exact ⟨(t222), (wrap64 (x7_1 + 1)), (by first | rfl | (simp; done) | (simp [*]; done)), H', ⟨by have := HK1.out; omega⟩, ⟨ra_ HO224⟩, ⟨bl_ HB⟩⟩
    ·replace c9 := Bool.eq_false_iff.mpr c9
     subst c9
     have H1 : (spec_CutSpans.l0 k1 l0 l1 x5_1 t219 (wrap64 (x7_1 + 1))) = some r := by rw [if_neg (show ¬ (false = true) by decide)] at H; exact H
     clear H
     have H := H1
     clear H1
     have H' := Aside0.mk H
     clear H
     go_wp2_with (first | ((with_reducible refine gate_callee (f := 80) rfl ?_); refine gl_ 18 Try.func80 (spec_InSpans.calls k1 _ _ l0 x7_1 false _ (ck_ HR0 HB) HC0.out A8.out) ?_; rintro e w19 ⟨rfl, hb⟩; refine ⟨_, rfl, sh2_ (Kd.R_below (ra_ HO_5) hb) (below_step (bl_ HB) hb) ?_⟩; clear HO_5 HB hb; intro HO_5 HB))
     go_roundg k1
     case measure => have := HK1.out; omega
     case rel => exact ⟨(x5_1), (wrap64 (x7_1 + 1)), (by first | rfl | (simp; done) | (simp [*]; done)), H', ⟨by have := HK1.out; omega⟩, ⟨ra_ HO_5⟩, ⟨bl_ HB⟩⟩
   ·rw [if_neg c7] at H
    have c7b0 := decide_eq_false c7
    clear c7
    obtain rfl := Option.some.inj H
    go_wp2
    go_ret
    exact ⟨_, er_, ra_ HO_5, bl_ HB⟩

end Go.Proofs.Ytcjfalmhohcifaa.PFnExactSpeakingSpans
