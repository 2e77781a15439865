-- Written by a program of this session for this claim (the kit's printer with changes).
import Derived.Test.YtcjfalmhohcifaaQFnExactSureSharex0
import Derived.Test.YtcjfalmhohcifaaQFnExactSureSharex2
import Derived.Test.YtcjfalmhohcifaaQFnExactSureSharex3
namespace Go.Proofs.Ytcjfalmhohcifaa.PFnExactSureShare
open Go.RowKit Go.Proofs.YtcjfalmhohcifaaW.PrintWords Go.Proofs.YtcjfalmhohcifaaW.PrintLast Go.Proofs.YtcjfalmhohcifaaW.PrintMore
attribute [local go_sem] max2_int min2_int max_two min_two max_three min_three max_four min_four   -- for this text's walks alone
set_option linter.unusedVariables false
set_option linter.unusedSimpArgs false

/-! ### spec_SightAt: function 97 -/
def spec_SightAt.f (k : Nat) (a0_0 : Int) (l0_1 : List (S105)) (l0_2 : List (S109)) (a0_3 : Int) (a0_4 : Int) (a0_5 : Int) (a0_6 : Int) (a0_7 : Int) (l0_8 : List (S115)) (a0_9 : Int) (a1 : Int) (a2 : Int) (a3 : Int) : Option (Int) := (spec_LimitOf.f k a0_0 l0_1 l0_2 a0_3 a0_4 a0_5 a0_6 a0_7 l0_8 a0_9 a1 a2).bind fun t247 => (if t247 < 0 then (some 0) else ((spec_NodeAt.f k a0_0 l0_1 l0_2 a0_3 a0_4 a0_5 a0_6 a0_7 l0_8 a0_9 a1 a3).bind fun bt248 => ((spec_NodeAt.f k a0_0 l0_1 l0_2 a0_3 a0_4 a0_5 a0_6 a0_7 l0_8 a0_9 a2 a3).bind fun bt251 => ((spec_MiddleOf.f bt248.1 bt248.2).bind fun t254 => ((spec_MiddleOf.f bt251.1 bt251.2).bind fun t255 => ((spec_GapOf.f t254 t255).bind fun t256 => (if (wrap64 (t256 - (wrap64 ((wrap64 ((wrap64 (Int.tdiv bt248.2 2)) + (wrap64 (Int.tdiv bt251.2 2)))) + (wrap64 (Int.tdiv (wrap64 ((Int.tmod bt248.2 2) + (Int.tmod bt251.2 2))) 2)))))) > t247 then (some 0) else (if (wrap64 (t256 + (wrap64 ((wrap64 ((wrap64 (Int.tdiv bt248.2 2)) + (wrap64 (Int.tdiv bt251.2 2)))) + (wrap64 (Int.tdiv (wrap64 ((Int.tmod bt248.2 2) + (Int.tmod bt251.2 2))) 2)))))) ≤ t247 then (some 2) else (some 1)))))))))
theorem spec_SightAt.mono : ∀ a0 a1 a2 a3 a4 a5 a6 a7 a8 a9 a10 a11 a12 k, LeO (spec_SightAt.f k a0 a1 a2 a3 a4 a5 a6 a7 a8 a9 a10 a11 a12) (spec_SightAt.f (k + 1) a0 a1 a2 a3 a4 a5 a6 a7 a8 a9 a10 a11 a12) := by
 intro a0 a1 a2 a3 a4 a5 a6 a7 a8 a9 a10 a11 a12 k
 unfold spec_SightAt.f
 repeat' first | (with_reducible first | exact spec_LimitOf.mono _ _ _ _ _ _ _ _ _ _ _ _ _ | exact spec_NodeAt.mono _ _ _ _ _ _ _ _ _ _ _ _ _ | exact LeO.refl _ | exact LeO.none _ | refine LeO.ite ?_ ?_ | refine LeO.bind ?_ (fun _ => ?_)) | exact LeO.none _ | refine LeO.ite ?_ ?_ | refine LeO.bind ?_ (fun _ => ?_)
set_option maxHeartbeats 8000000 in
set_option maxRecDepth 100000 in
theorem spec_SightAt.calls (k : Nat) (a0_0 : Int) (A0_1 : Option Addr) (c0_1 : Nat) (l0_1 : List (S105)) (A0_2 : Option Addr) (c0_2 : Nat) (l0_2 : List (S109)) (a0_3 : Int) (a0_4 : Int) (a0_5 : Int) (a0_6 : Int) (a0_7 : Int) (A0_8 : Option Addr) (c0_8 : Nat) (l0_8 : List (S115)) (a0_9 : Int) (a1 : Int) (a2 : Int) (a3 : Int) (r : Int) (w : World) (hr0_1 : Kd.C k105 w A0_1 l0_1.length l0_1) (hc0_1 : l0_1.length ≤ c0_1) (hr0_2 : Kd.C k109 w A0_2 l0_2.length l0_2) (hc0_2 : l0_2.length ≤ c0_2) (hr0_8 : Kd.C k115 w A0_8 l0_8.length l0_8) (hc0_8 : l0_8.length ≤ c0_8) (h : spec_SightAt.f k a0_0 l0_1 l0_2 a0_3 a0_4 a0_5 a0_6 a0_7 l0_8 a0_9 a1 a2 a3 = some r) :
  Calls Try.prog 97 #[.agg #[.int .i64 a0_0, .slice A0_1 l0_1.length c0_1, .slice A0_2 l0_2.length c0_2, .int .i64 a0_3, .int .i64 a0_4, .int .i64 a0_5, .int .i64 a0_6, .int .i64 a0_7, .slice A0_8 l0_8.length c0_8, .int .i64 a0_9], .int .i64 a1, .int .i64 a2, .int .i64 a3] w fun e w' => e = .returned (.int .i64 r) ∧ Below w.heap.size w w' := by
 have hu34 := Try.underlying34
 have hu113 := Try.underlying113
 have HR0_1 := Aside0.mk hr0_1
 have HC0_1 := Aside0.mk hc0_1
 clear hr0_1 hc0_1
 have HR0_2 := Aside0.mk hr0_2
 have HC0_2 := Aside0.mk hc0_2
 clear hr0_2 hc0_2
 have HR0_8 := Aside0.mk hr0_8
 have HC0_8 := Aside0.mk hc0_8
 clear hr0_8 hc0_8
 have HB := Aside0.mk (Below.refl w.heap.size w)
 have H := h
 clear h
 unfold spec_SightAt.f at H
 replace H := bs_ H
 obtain ⟨t247, A5, H⟩ := H
 by_cases c6 : t247 < 0
 ·rw [if_pos c6] at H
  have c6b0 := decide_eq_true c6
  clear c6
  obtain rfl := Option.some.inj H
  go_enter Try.func97, Try.ntmps97
  go_wp2_with (first | ((with_reducible refine gd_ 4 ?_); refine bx_ 4 34 #[.int .i64 a0_0, .slice A0_1 l0_1.length c0_1, .slice A0_2 l0_2.length c0_2, .int .i64 a0_3, .int .i64 a0_4, .int .i64 a0_5, .int .i64 a0_6, .int .i64 a0_7, .slice A0_8 l0_8.length c0_8, .int .i64 a0_9] ?_; intro gb246 hg w7 hbox hb; refine sh4_ (below_step (bl_ HB) hb) hbox (ge_ hg (bl_ HB)) (ge_ hg (bl_ HB)) ?_; clear HB hb hbox hg; intro HB BK246 GW246 GE246; have hcz8 := cf10_ BK246) | ((with_reducible refine gate_callee (f := 110) rfl ?_); refine gl_ 17 Try.func110 (spec_LimitOf.calls k a0_0 _ _ l0_1 _ _ l0_2 a0_3 a0_4 a0_5 a0_6 a0_7 _ _ l0_8 a0_9 a1 a2 t247 _ (ck_ HR0_1 HB) HC0_1.out (ck_ HR0_2 HB) HC0_2.out (ck_ HR0_8 HB) HC0_8.out A5.out) ?_; rintro e w9 ⟨rfl, hb⟩; refine ⟨_, rfl, sh2_ (blk_below (bk_ BK246) hb) (below_step (bl1_ HB GE246) hb) ?_⟩; clear BK246 HB hb; intro BK246 HB))
  go_ret
  exact ⟨er_, bl1_ HB GE246⟩
 ·rw [if_neg c6] at H
  have c6b0 := decide_eq_false c6
  clear c6
  replace H := bs_ H
  obtain ⟨⟨t248, t249⟩, A10, H⟩ := H
  dsimp only at H
  replace H := bs_ H
  obtain ⟨⟨t251, t252⟩, A11, H⟩ := H
  dsimp only at H
  replace H := bs_ H
  obtain ⟨t254, A12, H⟩ := H
  replace H := bs_ H
  obtain ⟨t255, A13, H⟩ := H
  replace H := bs_ H
  obtain ⟨t256, A14, H⟩ := H
  by_cases c15 : (wrap64 (t256 - (wrap64 ((wrap64 ((wrap64 (Int.tdiv t249 2)) + (wrap64 (Int.tdiv t252 2)))) + (wrap64 (Int.tdiv (wrap64 ((Int.tmod t249 2) + (Int.tmod t252 2))) 2)))))) > t247
  ·rw [if_pos c15] at H
   have c15b0 : decide (t247 < (wrap64 (t256 - (wrap64 ((wrap64 ((wrap64 (Int.tdiv t249 2)) + (wrap64 (Int.tdiv t252 2)))) + (wrap64 (Int.tdiv (wrap64 ((Int.tmod t249 2) + (Int.tmod t252 2))) 2))))))) = true := decide_eq_true c15
   clear c15
   obtain rfl := Option.some.inj H
   go_enter Try.func97, Try.ntmps97
   try go_wp2_with (first | ((with_reducible refine gd_ 4 ?_); refine bx_ 4 34 #[.int .i64 a0_0, .slice A0_1 l0_1.length c0_1, .slice A0_2 l0_2.length c0_2, .int .i64 a0_3, .int .i64 a0_4, .int .i64 a0_5, .int .i64 a0_6, .int .i64 a0_7, .slice A0_8 l0_8.length c0_8, .int .i64 a0_9] ?_; intro gb246 hg w16 hbox hb; refine sh4_ (below_step (bl_ HB) hb) hbox (ge_ hg (bl_ HB)) (ge_ hg (bl_ HB)) ?_; clear HB hb hbox hg; intro HB BK246 GW246 GE246; have hcz17 := cf10_ BK246) | ((with_reducible refine gate_callee (f := 110) rfl ?_); refine gl_ 17 Try.func110 (spec_LimitOf.calls k a0_0 _ _ l0_1 _ _ l0_2 a0_3 a0_4 a0_5 a0_6 a0_7 _ _ l0_8 a0_9 a1 a2 t247 _ (ck_ HR0_1 HB) HC0_1.out (ck_ HR0_2 HB) HC0_2.out (ck_ HR0_8 HB) HC0_8.out A5.out) ?_; rintro e w18 ⟨rfl, hb⟩; refine ⟨_, rfl, sh2_ (blk_below (bk_ BK246) hb) (below_step (bl1_ HB GE246) hb) ?_⟩; clear BK246 HB hb; intro BK246 HB; have hcz19 := cf10_ BK246) | ((with_reducible refine gate_callee (f := 103) rfl ?_); refine gl_ 23 Try.func103 (spec_NodeAt.calls k a0_0 _ _ l0_1 _ _ l0_2 a0_3 a0_4 a0_5 a0_6 a0_7 _ _ l0_8 a0_9 a1 a3 t248 t249 _ (ck_ HR0_1 HB) HC0_1.out (ck_ HR0_2 HB) HC0_2.out (ck_ HR0_8 HB) HC0_8.out A10.out) ?_; rintro e w20 ⟨rfl, hb⟩; refine ⟨_, rfl, sh2_ (blk_below (bk_ BK246) hb) (below_step (bl1_ HB GE246) hb) ?_⟩; clear BK246 HB hb; intro BK246 HB) | ((with_reducible refine gd_ 10 ?_); refine bx_ 10 113 #[.int .i64 0, .int .i64 0] ?_; intro gb250 hg w21 hbox hb; refine sh7_ (blk_below (bk_ BK246) hb) (below_step (bl1_ HB GE246) hb) hbox (ge_ hg (bl1_ HB GE246)) (ge_ hg (bl1_ HB GE246)) (nl_ hg (bk_ BK246)) (ng_ hg (bk_ BK246)) ?_; clear BK246 HB hb hbox hg; intro BK246 HB BK250 GW250 GE250 NB246_250 NB250_246; have hnb22 := NB250_246.out; have hnc22 := NB246_250.out; have hcz23 := cf2_ BK250; have hcz24 := cf10_ BK246) | ((with_reducible refine gate_callee (f := 103) rfl ?_); refine goesL_ (some 27) rfl rfl Try.func103 (by kernel_rfl) rfl #[.agg #[.int .i64 a0_0, .slice A0_1 l0_1.length c0_1, .slice A0_2 l0_2.length c0_2, .int .i64 a0_3, .int .i64 a0_4, .int .i64 a0_5, .int .i64 a0_6, .int .i64 a0_7, .slice A0_8 l0_8.length c0_8, .int .i64 a0_9], .int .i64 a2, .int .i64 a3] rfl mp_ ?_; (with_reducible refine (spec_NodeAt.calls k a0_0 _ _ l0_1 _ _ l0_2 a0_3 a0_4 a0_5 a0_6 a0_7 _ _ l0_8 a0_9 a2 a3 t251 t252 _ ?side1 ?side2 ?side3 ?side4 ?side5 ?side6 A11.out).mono ?_); (case side1 => exact Kd.C_below HR0_1.out (bl2_ HB GE246 GE250)); (case side2 => exact HC0_1.out); (case side3 => exact Kd.C_below HR0_2.out (bl2_ HB GE246 GE250)); (case side4 => exact HC0_2.out); (case side5 => exact Kd.C_below HR0_8.out (bl2_ HB GE246 GE250)); (case side6 => exact HC0_8.out); rintro e w25 ⟨rfl, hb⟩; refine ⟨_, rfl, sh3_ (blk_below (g := gb246) (o := .cells #[.int .i64 a0_0, .slice A0_1 l0_1.length c0_1, .slice A0_2 l0_2.length c0_2, .int .i64 a0_3, .int .i64 a0_4, .int .i64 a0_5, .int .i64 a0_6, .int .i64 a0_7, .slice A0_8 l0_8.length c0_8, .int .i64 a0_9] 34 (0, 0)) (by (with_reducible repeat (first | refine blk_drewN ?_ _ | refine blk_drew ?_ | refine blk_alloc ?_ _)); refine blk_far ?_ NB246_250.out _; (with_reducible repeat (first | refine blk_drewN ?_ _ | refine blk_drew ?_ | refine blk_alloc ?_ _)); refine blk_far ?_ NB246_250.out _; (with_reducible repeat (first | refine blk_drewN ?_ _ | refine blk_drew ?_ | refine blk_alloc ?_ _)); exact BK246.out) hb) (blk_below (g := gb250) (o := .cells #[.int .i64 t248, .int .i64 t249] 113 (0, 0)) (by (with_reducible repeat (first | refine blk_drewN ?_ _ | refine blk_drew ?_ | refine blk_alloc ?_ _)); refine blk_put (cs := #[.int .i64 t248, .int .i64 0]) ?_ 1 _ rfl; (with_reducible repeat (first | refine blk_drewN ?_ _ | refine blk_drew ?_ | refine blk_alloc ?_ _)); refine blk_put (cs := #[.int .i64 0, .int .i64 0]) ?_ 0 _ rfl; (with_reducible repeat (first | refine blk_drewN ?_ _ | refine blk_drew ?_ | refine blk_alloc ?_ _)); exact BK250.out) hb) (below_step (bl2_ HB GE246 GE250) hb) ?_⟩; clear BK246 BK250 HB hb; intro BK246 BK250 HB) | ((with_reducible refine gd_ 11 ?_); refine bx_ 11 113 #[.int .i64 0, .int .i64 0] ?_; intro gb253 hg w26 hbox hb; refine sh10_ (blk_below (bk_ BK246) hb) (blk_below (bk_ BK250) hb) (below_step (bl2_ HB GE246 GE250) hb) hbox (ge_ hg (bl2_ HB GE246 GE250)) (ge_ hg (bl2_ HB GE246 GE250)) (nl_ hg (bk_ BK246)) (ng_ hg (bk_ BK246)) (nl_ hg (bk_ BK250)) (ng_ hg (bk_ BK250)) ?_; clear BK246 BK250 HB hb hbox hg; intro BK246 BK250 HB BK253 GW253 GE253 NB246_253 NB253_246 NB250_253 NB253_250; have hnb27 := NB253_246.out; have hnc27 := NB246_253.out; have hnb28 := NB253_250.out; have hnc28 := NB250_253.out; have hcz29 := cf2_ BK253))
   have n0_ : Aside0 (((w26.setCell ⟨gb253, 0, none⟩ (.int .i64 t251)).setCell ⟨gb253, 1, none⟩ (.int .i64 t252)).heap[gb246]? = some (.cells #[.int .i64 a0_0, .slice A0_1 l0_1.length c0_1, .slice A0_2 l0_2.length c0_2, .int .i64 a0_3, .int .i64 a0_4, .int .i64 a0_5, .int .i64 a0_6, .int .i64 a0_7, .slice A0_8 l0_8.length c0_8, .int .i64 a0_9] 34 (0, 0))) := ⟨by (with_reducible repeat (first | refine blk_drewN ?_ _ | refine blk_drew ?_ | refine blk_alloc ?_ _)); refine blk_far ?_ NB246_253.out _; (with_reducible repeat (first | refine blk_drewN ?_ _ | refine blk_drew ?_ | refine blk_alloc ?_ _)); refine blk_far ?_ NB246_253.out _; (with_reducible repeat (first | refine blk_drewN ?_ _ | refine blk_drew ?_ | refine blk_alloc ?_ _)); exact BK246.out⟩
   have n1_ : Aside0 (((w26.setCell ⟨gb253, 0, none⟩ (.int .i64 t251)).setCell ⟨gb253, 1, none⟩ (.int .i64 t252)).heap[gb250]? = some (.cells #[.int .i64 t248, .int .i64 t249] 113 (0, 0))) := ⟨by (with_reducible repeat (first | refine blk_drewN ?_ _ | refine blk_drew ?_ | refine blk_alloc ?_ _)); refine blk_far ?_ NB250_253.out _; (with_reducible repeat (first | refine blk_drewN ?_ _ | refine blk_drew ?_ | refine blk_alloc ?_ _)); refine blk_far ?_ NB250_253.out _; (with_reducible repeat (first | refine blk_drewN ?_ _ | refine blk_drew ?_ | refine blk_alloc ?_ _)); exact BK250.out⟩
   have n2_ : Aside0 (((w26.setCell ⟨gb253, 0, none⟩ (.int .i64 t251)).setCell ⟨gb253, 1, none⟩ (.int .i64 t252)).heap[gb253]? = some (.cells #[.int .i64 t251, .int .i64 t252] 113 (0, 0))) := ⟨by (with_reducible repeat (first | refine blk_drewN ?_ _ | refine blk_drew ?_ | refine blk_alloc ?_ _)); refine blk_put (cs := #[.int .i64 t251, .int .i64 0]) ?_ 1 _ rfl; (with_reducible repeat (first | refine blk_drewN ?_ _ | refine blk_drew ?_ | refine blk_alloc ?_ _)); refine blk_put (cs := #[.int .i64 0, .int .i64 0]) ?_ 0 _ rfl; (with_reducible repeat (first | refine blk_drewN ?_ _ | refine blk_drew ?_ | refine blk_alloc ?_ _)); exact BK253.out⟩
   have n3_ : Aside0 (Below w.heap.size w ((w26.setCell ⟨gb253, 0, none⟩ (.int .i64 t251)).setCell ⟨gb253, 1, none⟩ (.int .i64 t252))) := ⟨bl3_ HB GE246 GE250 GE253⟩
   (try clear BK246)
   (try clear BK250)
   (try clear BK253)
   (try clear HB)
   generalize ((w26.setCell ⟨gb253, 0, none⟩ (.int .i64 t251)).setCell ⟨gb253, 1, none⟩ (.int .i64 t252)) = w30 at n0_ n1_ n2_ n3_ ⊢
   have BK246 := n0_
   have BK250 := n1_
   have BK253 := n2_
   have HB := n3_
   clear n0_ n1_ n2_ n3_
   refine sh4_ (blk_drew BK246.out) (blk_drew BK250.out) (blk_drew BK253.out) (below_drew1 HB.out) ?_
   clear BK246 BK250 BK253 HB
   intro BK246 BK250 BK253 HB
   refine start_ (n := 6) (S := fun w' => w'.cell? ⟨gb250, 0, none⟩ = some (.int .i64 t248) ∧ w'.cell? ⟨gb250, 1, none⟩ = some (.int .i64 t249) ∧ w'.cell? ⟨gb253, 0, none⟩ = some (.int .i64 t251) ∧ w'.cell? ⟨gb253, 1, none⟩ = some (.int .i64 t252)) (ds := []) #[false, false, false, false, false, false] (by kernel_rfl) rfl rfl ⟨(bc_ BK250 0 rfl), (bc_ BK250 1 rfl), (bc_ BK253 0 rfl), (bc_ BK253 1 rfl)⟩ (fun hHeld => ?_)
   generalize w30.drew = w31 at BK246 BK250 BK253 HB hHeld ⊢
   refine take_ (i := 0) (N := some 28) (v := ?_) (a' := ?_) #[true, false, false, false, false, false] rfl rfl (by kernel_rfl) (fun _ _ _ h => h) (Or.inl ⟨by rfl, ?_⟩) hHeld ?_ ?_
   rotate_left
   ·rintro w' ⟨s0, s1, s2, s3⟩
    go_simp
    with_reducible rfl
   rotate_left
   ·simp only [Act.put, List.setIfInBounds_toArray, List.set_cons_zero, List.set_cons_succ, i64_w, i32_w]
    rfl
   refine take_ (i := 2) (N := some 30) (v := ?_) (a' := ?_) #[true, false, true, false, false, false] rfl rfl (by kernel_rfl) (fun _ _ _ h => h) (Or.inl ⟨by rfl, ?_⟩) hHeld ?_ ?_
   rotate_left
   ·rintro w' ⟨s0, s1, s2, s3⟩
    go_simp
    with_reducible rfl
   rotate_left
   ·simp only [Act.put, List.setIfInBounds_toArray, List.set_cons_zero, List.set_cons_succ, i64_w, i32_w]
    rfl
   refine one_ (i := 1) (N := some 29) #[true, true, true, false, false, false] rfl rfl (by kernel_rfl) (by decide) (fun K hK => ?_)
   refine goes_ Try.func112 (by kernel_rfl) rfl #[.agg #[.int .i64 t248, .int .i64 t249]] (by rfl) rfl rfl mp_ ?_
   with_reducible refine (spec_MiddleOf.calls t248 t249 t254 _ A12.out).mono ?_
   rintro e w32 ⟨rfl, hb⟩
   refine ⟨_, rfl, sh4_ (blk_below (bk_ BK246) hb) (blk_below (bk_ BK250) hb) (blk_below (bk_ BK253) hb) (below_step (bl3_ HB GE246 GE250 GE253) hb) ?_⟩
   clear BK246 BK250 BK253 HB hb
   intro BK246 BK250 BK253 HB
   refine hK.out _ _ ⟨(bc_ BK250 0 rfl), (bc_ BK250 1 rfl), (bc_ BK253 0 rfl), (bc_ BK253 1 rfl)⟩ (fun hHeld => ?_)
   clear hK K
   refine norm_ (a' := ?_) ?_ ?_
   rotate_left
   ·show Act.put _ (some 29) _ = _
    simp only [Act.put, List.setIfInBounds_toArray, List.set_cons_zero, List.set_cons_succ, i64_w, i32_w]
    rfl
   refine one_ (i := 3) (N := some 31) #[true, true, true, true, false, false] rfl rfl (by kernel_rfl) (by decide) (fun K hK => ?_)
   refine goes_ Try.func112 (by kernel_rfl) rfl #[.agg #[.int .i64 t251, .int .i64 t252]] (by rfl) rfl rfl mp_ ?_
   with_reducible refine (spec_MiddleOf.calls t251 t252 t255 _ A13.out).mono ?_
   rintro e w33 ⟨rfl, hb⟩
   refine ⟨_, rfl, sh4_ (blk_below (bk_ BK246) hb) (blk_below (bk_ BK250) hb) (blk_below (bk_ BK253) hb) (below_step (bl3_ HB GE246 GE250 GE253) hb) ?_⟩
   clear BK246 BK250 BK253 HB hb
   intro BK246 BK250 BK253 HB
   refine hK.out _ _ ⟨(bc_ BK250 0 rfl), (bc_ BK250 1 rfl), (bc_ BK253 0 rfl), (bc_ BK253 1 rfl)⟩ (fun hHeld => ?_)
   clear hK K
   refine norm_ (a' := ?_) ?_ ?_
   rotate_left
   ·show Act.put _ (some 31) _ = _
    simp only [Act.put, List.setIfInBounds_toArray, List.set_cons_zero, List.set_cons_succ, i64_w, i32_w]
    rfl
   refine one_ (i := 4) (N := some 32) #[true, true, true, true, true, false] rfl rfl (by kernel_rfl) (by decide) (fun K hK => ?_)
   refine goes_ Try.func111 (by kernel_rfl) rfl #[.int .i64 t254, .int .i64 t255] (by rfl) rfl rfl mp_ ?_
   with_reducible refine (spec_GapOf.calls t254 t255 t256 _ A14.out).mono ?_
   rintro e w' ⟨rfl, ⟨nd, rfl⟩⟩
   refine ⟨_, rfl, ?_⟩
   refine hK.out _ _ ⟨(bc_ BK250 0 rfl), (bc_ BK250 1 rfl), (bc_ BK253 0 rfl), (bc_ BK253 1 rfl)⟩ (fun hHeld => ?_)
   clear hK K
   refine norm_ (a' := ?_) ?_ ?_
   rotate_left
   ·show Act.put _ (some 32) _ = _
    simp only [Act.put, List.setIfInBounds_toArray, List.set_cons_zero, List.set_cons_succ, i64_w, i32_w]
    rfl
   refine pure_ (i := 5) (N := some 12) (v := ?_) (a' := ?_) #[true, true, true, true, true, true] rfl rfl (by kernel_rfl) (fun _ _ _ h => h) (Or.inl ⟨by rfl, ?_⟩) ?_ ?_
   rotate_left
   ·intro w'
    go_simp
    with_reducible rfl
   rotate_left
   ·simp only [Act.put, List.setIfInBounds_toArray, List.set_cons_zero, List.set_cons_succ, i64_w, i32_w]
    rfl
   refine done_ (by kernel_rfl) ?_
   have hcz34 := cf2_ BK250
   have hcz35 := cf2_ BK253
   try go_wp2
   go_ret
   exact ⟨er_, bl3_ HB GE246 GE250 GE253⟩
  ·rw [if_neg c15] at H
   have c15b0 : decide (t247 < (wrap64 (t256 - (wrap64 ((wrap64 ((wrap64 (Int.tdiv t249 2)) + (wrap64 (Int.tdiv t252 2)))) + (wrap64 (Int.tdiv (wrap64 ((Int.tmod t249 2) + (Int.tmod t252 2))) 2))))))) = false := decide_eq_false c15
   clear c15
   by_cases c36 : (wrap64 (t256 + (wrap64 ((wrap64 ((wrap64 (Int.tdiv t249 2)) + (wrap64 (Int.tdiv t252 2)))) + (wrap64 (Int.tdiv (wrap64 ((Int.tmod t249 2) + (Int.tmod t252 2))) 2)))))) ≤ t247
   ·rw [if_pos c36] at H
    have c36b0 := decide_eq_true c36
    clear c36
    obtain rfl := Option.some.inj H
    go_enter Try.func97, Try.ntmps97
    try go_wp2_with (first | ((with_reducible refine gd_ 4 ?_); refine bx_ 4 34 #[.int .i64 a0_0, .slice A0_1 l0_1.length c0_1, .slice A0_2 l0_2.length c0_2, .int .i64 a0_3, .int .i64 a0_4, .int .i64 a0_5, .int .i64 a0_6, .int .i64 a0_7, .slice A0_8 l0_8.length c0_8, .int .i64 a0_9] ?_; intro gb246 hg w37 hbox hb; refine sh4_ (below_step (bl_ HB) hb) hbox (ge_ hg (bl_ HB)) (ge_ hg (bl_ HB)) ?_; clear HB hb hbox hg; intro HB BK246 GW246 GE246; have hcz38 := cf10_ BK246) | ((with_reducible refine gate_callee (f := 110) rfl ?_); refine gl_ 17 Try.func110 (spec_LimitOf.calls k a0_0 _ _ l0_1 _ _ l0_2 a0_3 a0_4 a0_5 a0_6 a0_7 _ _ l0_8 a0_9 a1 a2 t247 _ (ck_ HR0_1 HB) HC0_1.out (ck_ HR0_2 HB) HC0_2.out (ck_ HR0_8 HB) HC0_8.out A5.out) ?_; rintro e w39 ⟨rfl, hb⟩; refine ⟨_, rfl, sh2_ (blk_below (bk_ BK246) hb) (below_step (bl1_ HB GE246) hb) ?_⟩; clear BK246 HB hb; intro BK246 HB; have hcz40 := cf10_ BK246) | ((with_reducible refine gate_callee (f := 103) rfl ?_); refine gl_ 23 Try.func103 (spec_NodeAt.calls k a0_0 _ _ l0_1 _ _ l0_2 a0_3 a0_4 a0_5 a0_6 a0_7 _ _ l0_8 a0_9 a1 a3 t248 t249 _ (ck_ HR0_1 HB) HC0_1.out (ck_ HR0_2 HB) HC0_2.out (ck_ HR0_8 HB) HC0_8.out A10.out) ?_; rintro e w41 ⟨rfl, hb⟩; refine ⟨_, rfl, sh2_ (blk_below (bk_ BK246) hb) (below_step (bl1_ HB GE246) hb) ?_⟩; clear BK246 HB hb; intro BK246 HB) | ((with_reducible refine gd_ 10 ?_); refine bx_ 10 113 #[.int .i64 0, .int .i64 0] ?_; intro gb250 hg w42 hbox hb; refine sh7_ (blk_below (bk_ BK246) hb) (below_step (bl1_ HB GE246) hb) hbox (ge_ hg (bl1_ HB GE246)) (ge_ hg (bl1_ HB GE246)) (nl_ hg (bk_ BK246)) (ng_ hg (bk_ BK246)) ?_; clear BK246 HB hb hbox hg; intro BK246 HB BK250 GW250 GE250 NB246_250 NB250_246; have hnb43 := NB250_246.out; have hnc43 := NB246_250.out; have hcz44 := cf2_ BK250; have hcz45 := cf10_ BK246) | ((with_reducible refine gate_callee (f := 103) rfl ?_); refine goesL_ (some 27) rfl rfl Try.func103 (by kernel_rfl) rfl #[.agg #[.int .i64 a0_0, .slice A0_1 l0_1.length c0_1, .slice A0_2 l0_2.length c0_2, .int .i64 a0_3, .int .i64 a0_4, .int .i64 a0_5, .int .i64 a0_6, .int .i64 a0_7, .slice A0_8 l0_8.length c0_8, .int .i64 a0_9], .int .i64 a2, .int .i64 a3] rfl mp_ ?_; (with_reducible refine (spec_NodeAt.calls k a0_0 _ _ l0_1 _ _ l0_2 a0_3 a0_4 a0_5 a0_6 a0_7 _ _ l0_8 a0_9 a2 a3 t251 t252 _ ?side1 ?side2 ?side3 ?side4 ?side5 ?side6 A11.out).mono ?_); (case side1 => exact Kd.C_below HR0_1.out (bl2_ HB GE246 GE250)); (case side2 => exact HC0_1.out); (case side3 => exact Kd.C_below HR0_2.out (bl2_ HB GE246 GE250)); (case side4 => exact HC0_2.out); (case side5 => exact Kd.C_below HR0_8.out (bl2_ HB GE246 GE250)); (case side6 => exact HC0_8.out); rintro e w46 ⟨rfl, hb⟩; refine ⟨_, rfl, sh3_ (blk_below (g := gb246) (o := .cells #[.int .i64 a0_0, .slice A0_1 l0_1.length c0_1, .slice A0_2 l0_2.length c0_2, .int .i64 a0_3, .int .i64 a0_4, .int .i64 a0_5, .int .i64 a0_6, .int .i64 a0_7, .slice A0_8 l0_8.length c0_8, .int .i64 a0_9] 34 (0, 0)) (by (with_reducible repeat (first | refine blk_drewN ?_ _ | refine blk_drew ?_ | refine blk_alloc ?_ _)); refine blk_far ?_ NB246_250.out _; (with_reducible repeat (first | refine blk_drewN ?_ _ | refine blk_drew ?_ | refine blk_alloc ?_ _)); refine blk_far ?_ NB246_250.out _; (with_reducible repeat (first | refine blk_drewN ?_ _ | refine blk_drew ?_ | refine blk_alloc ?_ _)); exact BK246.out) hb) (blk_below (g := gb250) (o := .cells #[.int .i64 t248, .int .i64 t249] 113 (0, 0)) (by (with_reducible repeat (first | refine blk_drewN ?_ _ | refine blk_drew ?_ | refine blk_alloc ?_ _)); refine blk_put (cs := #[.int .i64 t248, .int .i64 0]) ?_ 1 _ rfl; (with_reducible repeat (first | refine blk_drewN ?_ _ | refine blk_drew ?_ | refine blk_alloc ?_ _)); refine blk_put (cs := #[.int .i64 0, .int .i64 0]) ?_ 0 _ rfl; (with_reducible repeat (first | refine blk_drewN ?_ _ | refine blk_drew ?_ | refine blk_alloc ?_ _)); exact BK250.out) hb) (below_step (bl2_ HB GE246 GE250) hb) ?_⟩; clear BK246 BK250 HB hb; intro BK246 BK250 HB) | ((with_reducible refine gd_ 11 ?_); refine bx_ 11 113 #[.int .i64 0, .int .i64 0] ?_; intro gb253 hg w47 hbox hb; refine sh10_ (blk_below (bk_ BK246) hb) (blk_below (bk_ BK250) hb) (below_step (bl2_ HB GE246 GE250) hb) hbox (ge_ hg (bl2_ HB GE246 GE250)) (ge_ hg (bl2_ HB GE246 GE250)) (nl_ hg (bk_ BK246)) (ng_ hg (bk_ BK246)) (nl_ hg (bk_ BK250)) (ng_ hg (bk_ BK250)) ?_; clear BK246 BK250 HB hb hbox hg; intro BK246 BK250 HB BK253 GW253 GE253 NB246_253 NB253_246 NB250_253 NB253_250; have hnb48 := NB253_246.out; have hnc48 := NB246_253.out; have hnb49 := NB253_250.out; have hnc49 := NB250_253.out; have hcz50 := cf2_ BK253))
    have n0_ : Aside0 (((w47.setCell ⟨gb253, 0, none⟩ (.int .i64 t251)).setCell ⟨gb253, 1, none⟩ (.int .i64 t252)).heap[gb246]? = some (.cells #[.int .i64 a0_0, .slice A0_1 l0_1.length c0_1, .slice A0_2 l0_2.length c0_2, .int .i64 a0_3, .int .i64 a0_4, .int .i64 a0_5, .int .i64 a0_6, .int .i64 a0_7, .slice A0_8 l0_8.length c0_8, .int .i64 a0_9] 34 (0, 0))) := ⟨by (with_reducible repeat (first | refine blk_drewN ?_ _ | refine blk_drew ?_ | refine blk_alloc ?_ _)); refine blk_far ?_ NB246_253.out _; (with_reducible repeat (first | refine blk_drewN ?_ _ | refine blk_drew ?_ | refine blk_alloc ?_ _)); refine blk_far ?_ NB246_253.out _; (with_reducible repeat (first | refine blk_drewN ?_ _ | refine blk_drew ?_ | refine blk_alloc ?_ _)); exact BK246.out⟩
    have n1_ : Aside0 (((w47.setCell ⟨gb253, 0, none⟩ (.int .i64 t251)).setCell ⟨gb253, 1, none⟩ (.int .i64 t252)).heap[gb250]? = some (.cells #[.int .i64 t248, .int .i64 t249] 113 (0, 0))) := ⟨by (with_reducible repeat (first | refine blk_drewN ?_ _ | refine blk_drew ?_ | refine blk_alloc ?_ _)); refine blk_far ?_ NB250_253.out _; (with_reducible repeat (first | refine blk_drewN ?_ _ | refine blk_drew ?_ | refine blk_alloc ?_ _)); refine blk_far ?_ NB250_253.out _; (with_reducible repeat (first | refine blk_drewN ?_ _ | refine blk_drew ?_ | refine blk_alloc ?_ _)); exact BK250.out⟩
    have n2_ : Aside0 (((w47.setCell ⟨gb253, 0, none⟩ (.int .i64 t251)).setCell ⟨gb253, 1, none⟩ (.int .i64 t252)).heap[gb253]? = some (.cells #[.int .i64 t251, .int .i64 t252] 113 (0, 0))) := ⟨by (with_reducible repeat (first | refine blk_drewN ?_ _ | refine blk_drew ?_ | refine blk_alloc ?_ _)); refine blk_put (cs := #[.int .i64 t251, .int .i64 0]) ?_ 1 _ rfl; (with_reducible repeat (first | refine blk_drewN ?_ _ | refine blk_drew ?_ | refine blk_alloc ?_ _)); refine blk_put (cs := #[.int .i64 0, .int .i64 0]) ?_ 0 _ rfl; (with_reducible repeat (first | refine blk_drewN ?_ _ | refine blk_drew ?_ | refine blk_alloc ?_ _)); exact BK253.out⟩
    have n3_ : Aside0 (Below w.heap.size w ((w47.setCell ⟨gb253, 0, none⟩ (.int .i64 t251)).setCell ⟨gb253, 1, none⟩ (.int .i64 t252))) := ⟨bl3_ HB GE246 GE250 GE253⟩
    (try clear BK246)
    (try clear BK250)
    (try clear BK253)
    (try clear HB)
    generalize ((w47.setCell ⟨gb253, 0, none⟩ (.int .i64 t251)).setCell ⟨gb253, 1, none⟩ (.int .i64 t252)) = w51 at n0_ n1_ n2_ n3_ ⊢
    have BK246 := n0_
    have BK250 := n1_
    have BK253 := n2_
    have HB := n3_
    clear n0_ n1_ n2_ n3_
    refine sh4_ (blk_drew BK246.out) (blk_drew BK250.out) (blk_drew BK253.out) (below_drew1 HB.out) ?_
    clear BK246 BK250 BK253 HB
    intro BK246 BK250 BK253 HB
    refine start_ (n := 6) (S := fun w' => w'.cell? ⟨gb250, 0, none⟩ = some (.int .i64 t248) ∧ w'.cell? ⟨gb250, 1, none⟩ = some (.int .i64 t249) ∧ w'.cell? ⟨gb253, 0, none⟩ = some (.int .i64 t251) ∧ w'.cell? ⟨gb253, 1, none⟩ = some (.int .i64 t252)) (ds := []) #[false, false, false, false, false, false] (by kernel_rfl) rfl rfl ⟨(bc_ BK250 0 rfl), (bc_ BK250 1 rfl), (bc_ BK253 0 rfl), (bc_ BK253 1 rfl)⟩ (fun hHeld => ?_)
    generalize w51.drew = w52 at BK246 BK250 BK253 HB hHeld ⊢
    refine take_ (i := 0) (N := some 28) (v := ?_) (a' := ?_) #[true, false, false, false, false, false] rfl rfl (by kernel_rfl) (fun _ _ _ h => h) (Or.inl ⟨by rfl, ?_⟩) hHeld ?_ ?_
    rotate_left
    ·rintro w' ⟨s0, s1, s2, s3⟩
     go_simp
     with_reducible rfl
    rotate_left
    ·simp only [Act.put, List.setIfInBounds_toArray, List.set_cons_zero, List.set_cons_succ, i64_w, i32_w]
     rfl
    refine take_ (i := 2) (N := some 30) (v := ?_) (a' := ?_) #[true, false, true, false, false, false] rfl rfl (by kernel_rfl) (fun _ _ _ h => h) (Or.inl ⟨by rfl, ?_⟩) hHeld ?_ ?_
    rotate_left
    ·rintro w' ⟨s0, s1, s2, s3⟩
     go_simp
     with_reducible rfl
    rotate_left
    ·simp only [Act.put, List.setIfInBounds_toArray, List.set_cons_zero, List.set_cons_succ, i64_w, i32_w]
     rfl
    refine one_ (i := 1) (N := some 29) #[true, true, true, false, false, false] rfl rfl (by kernel_rfl) (by decide) (fun K hK => ?_)
    refine goes_ Try.func112 (by kernel_rfl) rfl #[.agg #[.int .i64 t248, .int .i64 t249]] (by rfl) rfl rfl mp_ ?_
    with_reducible refine (spec_MiddleOf.calls t248 t249 t254 _ A12.out).mono ?_
    rintro e w53 ⟨rfl, hb⟩
    refine ⟨_, rfl, sh4_ (blk_below (bk_ BK246) hb) (blk_below (bk_ BK250) hb) (blk_below (bk_ BK253) hb) (below_step (bl3_ HB GE246 GE250 GE253) hb) ?_⟩
    clear BK246 BK250 BK253 HB hb
    intro BK246 BK250 BK253 HB
    refine hK.out _ _ ⟨(bc_ BK250 0 rfl), (bc_ BK250 1 rfl), (bc_ BK253 0 rfl), (bc_ BK253 1 rfl)⟩ (fun hHeld => ?_)
    clear hK K
    refine norm_ (a' := ?_) ?_ ?_
    rotate_left
    ·show Act.put _ (some 29) _ = _
     simp only [Act.put, List.setIfInBounds_toArray, List.set_cons_zero, List.set_cons_succ, i64_w, i32_w]
     rfl
    refine one_ (i := 3) (N := some 31) #[true, true, true, true, false, false] rfl rfl (by kernel_rfl) (by decide) (fun K hK => ?_)
    refine goes_ Try.func112 (by kernel_rfl) rfl #[.agg #[.int .i64 t251, .int .i64 t252]] (by rfl) rfl rfl mp_ ?_
    with_reducible refine (spec_MiddleOf.calls t251 t252 t255 _ A13.out).mono ?_
    rintro e w54 ⟨rfl, hb⟩
    refine ⟨_, rfl, sh4_ (blk_below (bk_ BK246) hb) (blk_below (bk_ BK250) hb) (blk_below (bk_ BK253) hb) (below_step (bl3_ HB GE246 GE250 GE253) hb) ?_⟩
    clear BK246 BK250 BK253 HB hb
    intro BK246 BK250 BK253 HB
    refine hK.out _ _ ⟨(bc_ BK250 0 rfl), (bc_ BK250 1 rfl), (bc_ BK253 0 rfl), (bc_ BK253 1 rfl)⟩ (fun hHeld => ?_)
    clear hK K
    refine norm_ (a' := ?_) ?_ ?_
    rotate_left
    ·show Act.put _ (some 31) _ = _
     simp only [Act.put, List.setIfInBounds_toArray, List.set_cons_zero, List.set_cons_succ, i64_w, i32_w]
     rfl
    refine one_ (i := 4) (N := some 32) #[true, true, true, true, true, false] rfl rfl (by kernel_rfl) (by decide) (fun K hK => ?_)
    refine goes_ Try.func111 (by kernel_rfl) rfl #[.int .i64 t254, .int .i64 t255] (by rfl) rfl rfl mp_ ?_
    with_reducible refine (spec_GapOf.calls t254 t255 t256 _ A14.out).mono ?_
    rintro e w' ⟨rfl, ⟨nd, rfl⟩⟩
    refine ⟨_, rfl, ?_⟩
    refine hK.out _ _ ⟨(bc_ BK250 0 rfl), (bc_ BK250 1 rfl), (bc_ BK253 0 rfl), (bc_ BK253 1 rfl)⟩ (fun hHeld => ?_)
    clear hK K
    refine norm_ (a' := ?_) ?_ ?_
    rotate_left
    ·show Act.put _ (some 32) _ = _
     simp only [Act.put, List.setIfInBounds_toArray, List.set_cons_zero, List.set_cons_succ, i64_w, i32_w]
     rfl
    refine pure_ (i := 5) (N := some 12) (v := ?_) (a' := ?_) #[true, true, true, true, true, true] rfl rfl (by kernel_rfl) (fun _ _ _ h => h) (Or.inl ⟨by rfl, ?_⟩) ?_ ?_
    rotate_left
    ·intro w'
     go_simp
     with_reducible rfl
    rotate_left
    ·simp only [Act.put, List.setIfInBounds_toArray, List.set_cons_zero, List.set_cons_succ, i64_w, i32_w]
     rfl
    refine done_ (by kernel_rfl) ?_
    have hcz55 := cf2_ BK250
    have hcz56 := cf2_ BK253
    try go_wp2
    go_ret
    exact ⟨er_, bl3_ HB GE246 GE250 GE253⟩
   ·rw [if_neg c36] at H
    have c36b0 : decide ((wrap64 (t256 + (wrap64 ((wrap64 ((wrap64 (Int.tdiv t249 2)) + (wrap64 (Int.tdiv t252 2)))) + (wrap64 (Int.tdiv (wrap64 ((Int.tmod t249 2) + (Int.tmod t252 2))) 2)))))) ≤ t247) = false := decide_eq_false c36
    clear c36
    obtain rfl := Option.some.inj H
    go_enter Try.func97, Try.ntmps97
    try go_wp2_with (first | ((with_reducible refine gd_ 4 ?_); refine bx_ 4 34 #[.int .i64 a0_0, .slice A0_1 l0_1.length c0_1, .slice A0_2 l0_2.length c0_2, .int .i64 a0_3, .int .i64 a0_4, .int .i64 a0_5, .int .i64 a0_6, .int .i64 a0_7, .slice A0_8 l0_8.length c0_8, .int .i64 a0_9] ?_; intro gb246 hg w57 hbox hb; refine sh4_ (below_step (bl_ HB) hb) hbox (ge_ hg (bl_ HB)) (ge_ hg (bl_ HB)) ?_; clear HB hb hbox hg; intro HB BK246 GW246 GE246; have hcz58 := cf10_ BK246) | ((with_reducible refine gate_callee (f := 110) rfl ?_); refine gl_ 17 Try.func110 (spec_LimitOf.calls k a0_0 _ _ l0_1 _ _ l0_2 a0_3 a0_4 a0_5 a0_6 a0_7 _ _ l0_8 a0_9 a1 a2 t247 _ (ck_ HR0_1 HB) HC0_1.out (ck_ HR0_2 HB) HC0_2.out (ck_ HR0_8 HB) HC0_8.out A5.out) ?_; rintro e w59 ⟨rfl, hb⟩; refine ⟨_, rfl, sh2_ (blk_below (bk_ BK246) hb) (below_step (bl1_ HB GE246) hb) ?_⟩; clear BK246 HB hb; intro BK246 HB; have hcz60 := cf10_ BK246) | ((with_reducible refine gate_callee (f := 103) rfl ?_); refine gl_ 23 Try.func103 (spec_NodeAt.calls k a0_0 _ _ l0_1 _ _ l0_2 a0_3 a0_4 a0_5 a0_6 a0_7 _ _ l0_8 a0_9 a1 a3 t248 t249 _ (ck_ HR0_1 HB) HC0_1.out (ck_ HR0_2 HB) HC0_2.out (ck_ HR0_8 HB) HC0_8.out A10.out) ?_; rintro e w61 ⟨rfl, hb⟩; refine ⟨_, rfl, sh2_ (blk_below (bk_ BK246) hb) (below_step (bl1_ HB GE246) hb) ?_⟩; clear BK246 HB hb; intro BK246 HB) | ((with_reducible refine gd_ 10 ?_); refine bx_ 10 113 #[.int .i64 0, .int .i64 0] ?_; intro gb250 hg w62 hbox hb; refine sh7_ (blk_below (bk_ BK246) hb) (below_step (bl1_ HB GE246) hb) hbox (ge_ hg (bl1_ HB GE246)) (ge_ hg (bl1_ HB GE246)) (nl_ hg (bk_ BK246)) (ng_ hg (bk_ BK246)) ?_; clear BK246 HB hb hbox hg; intro BK246 HB BK250 GW250 GE250 NB246_250 NB250_246; have hnb63 := NB250_246.out; have hnc63 := NB246_250.out; have hcz64 := cf2_ BK250; have hcz65 := cf10_ BK246) | ((with_reducible refine gate_callee (f := 103) rfl ?_); refine goesL_ (some 27) rfl rfl Try.func103 (by kernel_rfl) rfl #[.agg #[.int .i64 a0_0, .slice A0_1 l0_1.length c0_1, .slice A0_2 l0_2.length c0_2, .int .i64 a0_3, .int .i64 a0_4, .int .i64 a0_5, .int .i64 a0_6, .int .i64 a0_7, .slice A0_8 l0_8.length c0_8, .int .i64 a0_9], .int .i64 a2, .int .i64 a3] rfl mp_ ?_; (with_reducible refine (spec_NodeAt.calls k a0_0 _ _ l0_1 _ _ l0_2 a0_3 a0_4 a0_5 a0_6 a0_7 _ _ l0_8 a0_9 a2 a3 t251 t252 _ ?side1 ?side2 ?side3 ?side4 ?side5 ?side6 A11.out).mono ?_); (case side1 => exact Kd.C_below HR0_1.out (bl2_ HB GE246 GE250)); (case side2 => exact HC0_1.out); (case side3 => exact Kd.C_below HR0_2.out (bl2_ HB GE246 GE250)); (case side4 => exact HC0_2.out); (case side5 => exact Kd.C_below HR0_8.out (bl2_ HB GE246 GE250)); (case side6 => exact HC0_8.out); rintro e w66 ⟨rfl, hb⟩; refine ⟨_, rfl, sh3_ (blk_below (g := gb246) (o := .cells #[.int .i64 a0_0, .slice A0_1 l0_1.length c0_1, .slice A0_2 l0_2.length c0_2, .int .i64 a0_3, .int .i64 a0_4, .int .i64 a0_5, .int .i64 a0_6, .int .i64 a0_7, .slice A0_8 l0_8.length c0_8, .int .i64 a0_9] 34 (0, 0)) (by (with_reducible repeat (first | refine blk_drewN ?_ _ | refine blk_drew ?_ | refine blk_alloc ?_ _)); refine blk_far ?_ NB246_250.out _; (with_reducible repeat (first | refine blk_drewN ?_ _ | refine blk_drew ?_ | refine blk_alloc ?_ _)); refine blk_far ?_ NB246_250.out _; (with_reducible repeat (first | refine blk_drewN ?_ _ | refine blk_drew ?_ | refine blk_alloc ?_ _)); exact BK246.out) hb) (blk_below (g := gb250) (o := .cells #[.int .i64 t248, .int .i64 t249] 113 (0, 0)) (by (with_reducible repeat (first | refine blk_drewN ?_ _ | refine blk_drew ?_ | refine blk_alloc ?_ _)); refine blk_put (cs := #[.int .i64 t248, .int .i64 0]) ?_ 1 _ rfl; (with_reducible repeat (first | refine blk_drewN ?_ _ | refine blk_drew ?_ | refine blk_alloc ?_ _)); refine blk_put (cs := #[.int .i64 0, .int .i64 0]) ?_ 0 _ rfl; (with_reducible repeat (first | refine blk_drewN ?_ _ | refine blk_drew ?_ | refine blk_alloc ?_ _)); exact BK250.out) hb) (below_step (bl2_ HB GE246 GE250) hb) ?_⟩; clear BK246 BK250 HB hb; intro BK246 BK250 HB) | ((with_reducible refine gd_ 11 ?_); refine bx_ 11 113 #[.int .i64 0, .int .i64 0] ?_; intro gb253 hg w67 hbox hb; refine sh10_ (blk_below (bk_ BK246) hb) (blk_below (bk_ BK250) hb) (below_step (bl2_ HB GE246 GE250) hb) hbox (ge_ hg (bl2_ HB GE246 GE250)) (ge_ hg (bl2_ HB GE246 GE250)) (nl_ hg (bk_ BK246)) (ng_ hg (bk_ BK246)) (nl_ hg (bk_ BK250)) (ng_ hg (bk_ BK250)) ?_; clear BK246 BK250 HB hb hbox hg; intro BK246 BK250 HB BK253 GW253 GE253 NB246_253 NB253_246 NB250_253 NB253_250; have hnb68 := NB253_246.out; have hnc68 := NB246_253.out; have hnb69 := NB253_250.out; have hnc69 := NB250_253.out; have hcz70 := cf2_ BK253))
    have n0_ : Aside0 (((w67.setCell ⟨gb253, 0, none⟩ (.int .i64 t251)).setCell ⟨gb253, 1, none⟩ (.int .i64 t252)).heap[gb246]? = some (.cells #[.int .i64 a0_0, .slice A0_1 l0_1.length c0_1, .slice A0_2 l0_2.length c0_2, .int .i64 a0_3, .int .i64 a0_4, .int .i64 a0_5, .int .i64 a0_6, .int .i64 a0_7, .slice A0_8 l0_8.length c0_8, .int .i64 a0_9] 34 (0, 0))) := ⟨by (with_reducible repeat (first | refine blk_drewN ?_ _ | refine blk_drew ?_ | refine blk_alloc ?_ _)); refine blk_far ?_ NB246_253.out _; (with_reducible repeat (first | refine blk_drewN ?_ _ | refine blk_drew ?_ | refine blk_alloc ?_ _)); refine blk_far ?_ NB246_253.out _; (with_reducible repeat (first | refine blk_drewN ?_ _ | refine blk_drew ?_ | refine blk_alloc ?_ _)); exact BK246.out⟩
    have n1_ : Aside0 (((w67.setCell ⟨gb253, 0, none⟩ (.int .i64 t251)).setCell ⟨gb253, 1, none⟩ (.int .i64 t252)).heap[gb250]? = some (.cells #[.int .i64 t248, .int .i64 t249] 113 (0, 0))) := ⟨by (with_reducible repeat (first | refine blk_drewN ?_ _ | refine blk_drew ?_ | refine blk_alloc ?_ _)); refine blk_far ?_ NB250_253.out _; (with_reducible repeat (first | refine blk_drewN ?_ _ | refine blk_drew ?_ | refine blk_alloc ?_ _)); refine blk_far ?_ NB250_253.out _; (with_reducible repeat (first | refine blk_drewN ?_ _ | refine blk_drew ?_ | refine blk_alloc ?_ _)); exact BK250.out⟩
    have n2_ : Aside0 (((w67.setCell ⟨gb253, 0, none⟩ (.int .i64 t251)).setCell ⟨gb253, 1, none⟩ (.int .i64 t252)).heap[gb253]? = some (.cells #[.int .i64 t251, .int .i64 t252] 113 (0, 0))) := ⟨by (with_reducible repeat (first | refine blk_drewN ?_ _ | refine blk_drew ?_ | refine blk_alloc ?_ _)); refine blk_put (cs := #[.int .i64 t251, .int .i64 0]) ?_ 1 _ rfl; (with_reducible repeat (first | refine blk_drewN ?_ _ | refine blk_drew ?_ | refine blk_alloc ?_ _)); refine blk_put (cs := #[.int .i64 0, .int .i64 0]) ?_ 0 _ rfl; (with_reducible repeat (first | refine blk_drewN ?_ _ | refine blk_drew ?_ | refine blk_alloc ?_ _)); exact BK253.out⟩
    have n3_ : Aside0 (Below w.heap.size w ((w67.setCell ⟨gb253, 0, none⟩ (.int .i64 t251)).setCell ⟨gb253, 1, none⟩ (.int .i64 t252))) := ⟨bl3_ HB GE246 GE250 GE253⟩
    (try clear BK246)
    (try clear BK250)
    (try clear BK253)
    (try clear HB)
    generalize ((w67.setCell ⟨gb253, 0, none⟩ (.int .i64 t251)).setCell ⟨gb253, 1, none⟩ (.int .i64 t252)) = w71 at n0_ n1_ n2_ n3_ ⊢
    have BK246 := n0_
    have BK250 := n1_
    have BK253 := n2_
    have HB := n3_
    clear n0_ n1_ n2_ n3_
    refine sh4_ (blk_drew BK246.out) (blk_drew BK250.out) (blk_drew BK253.out) (below_drew1 HB.out) ?_
    clear BK246 BK250 BK253 HB
    intro BK246 BK250 BK253 HB
    refine start_ (n := 6) (S := fun w' => w'.cell? ⟨gb250, 0, none⟩ = some (.int .i64 t248) ∧ w'.cell? ⟨gb250, 1, none⟩ = some (.int .i64 t249) ∧ w'.cell? ⟨gb253, 0, none⟩ = some (.int .i64 t251) ∧ w'.cell? ⟨gb253, 1, none⟩ = some (.int .i64 t252)) (ds := []) #[false, false, false, false, false, false] (by kernel_rfl) rfl rfl ⟨(bc_ BK250 0 rfl), (bc_ BK250 1 rfl), (bc_ BK253 0 rfl), (bc_ BK253 1 rfl)⟩ (fun hHeld => ?_)
    generalize w71.drew = w72 at BK246 BK250 BK253 HB hHeld ⊢
    refine take_ (i := 0) (N := some 28) (v := ?_) (a' := ?_) #[true, false, false, false, false, false] rfl rfl (by kernel_rfl) (fun _ _ _ h => h) (Or.inl ⟨by rfl, ?_⟩) hHeld ?_ ?_
    rotate_left
    ·rintro w' ⟨s0, s1, s2, s3⟩
     go_simp
     with_reducible rfl
    rotate_left
    ·simp only [Act.put, List.setIfInBounds_toArray, List.set_cons_zero, List.set_cons_succ, i64_w, i32_w]
     rfl
    refine take_ (i := 2) (N := some 30) (v := ?_) (a' := ?_) #[true, false, true, false, false, false] rfl rfl (by kernel_rfl) (fun _ _ _ h => h) (Or.inl ⟨by rfl, ?_⟩) hHeld ?_ ?_
    rotate_left
    ·rintro w' ⟨s0, s1, s2, s3⟩
     go_simp
     with_reducible rfl
    rotate_left
    ·simp only [Act.put, List.setIfInBounds_toArray, List.set_cons_zero, List.set_cons_succ, i64_w, i32_w]
     rfl
    refine one_ (i := 1) (N := some 29) #[true, true, true, false, false, false] rfl rfl (by kernel_rfl) (by decide) (fun K hK => ?_)
    refine goes_ Try.func112 (by kernel_rfl) rfl #[.agg #[.int .i64 t248, .int .i64 t249]] (by rfl) rfl rfl mp_ ?_
    with_reducible refine (spec_MiddleOf.calls t248 t249 t254 _ A12.out).mono ?_
    rintro e w73 ⟨rfl, hb⟩
    refine ⟨_, rfl, sh4_ (blk_below (bk_ BK246) hb) (blk_below (bk_ BK250) hb) (blk_below (bk_ BK253) hb) (below_step (bl3_ HB GE246 GE250 GE253) hb) ?_⟩
    clear BK246 BK250 BK253 HB hb
    intro BK246 BK250 BK253 HB
    refine hK.out _ _ ⟨(bc_ BK250 0 rfl), (bc_ BK250 1 rfl), (bc_ BK253 0 rfl), (bc_ BK253 1 rfl)⟩ (fun hHeld => ?_)
    clear hK K
    refine norm_ (a' := ?_) ?_ ?_
    rotate_left
    ·show Act.put _ (some 29) _ = _
     simp only [Act.put, List.setIfInBounds_toArray, List.set_cons_zero, List.set_cons_succ, i64_w, i32_w]
     rfl
    refine one_ (i := 3) (N := some 31) #[true, true, true, true, false, false] rfl rfl (by kernel_rfl) (by decide) (fun K hK => ?_)
    refine goes_ Try.func112 (by kernel_rfl) rfl #[.agg #[.int .i64 t251, .int .i64 t252]] (by rfl) rfl rfl mp_ ?_
    with_reducible refine (spec_MiddleOf.calls t251 t252 t255 _ A13.out).mono ?_
    rintro e w74 ⟨rfl, hb⟩
    refine ⟨_, rfl, sh4_ (blk_below (bk_ BK246) hb) (blk_below (bk_ BK250) hb) (blk_below (bk_ BK253) hb) (below_step (bl3_ HB GE246 GE250 GE253) hb) ?_⟩
    clear BK246 BK250 BK253 HB hb
    intro BK246 BK250 BK253 HB
    refine hK.out _ _ ⟨(bc_ BK250 0 rfl), (bc_ BK250 1 rfl), (bc_ BK253 0 rfl), (bc_ BK253 1 rfl)⟩ (fun hHeld => ?_)
    clear hK K
    refine norm_ (a' := ?_) ?_ ?_
    rotate_left
    ·show Act.put _ (some 31) _ = _
     simp only [Act.put, List.setIfInBounds_toArray, List.set_cons_zero, List.set_cons_succ, i64_w, i32_w]
     rfl
    refine one_ (i := 4) (N := some 32) #[true, true, true, true, true, false] rfl rfl (by kernel_rfl) (by decide) (fun K hK => ?_)
    refine goes_ Try.func111 (by kernel_rfl) rfl #[.int .i64 t254, .int .i64 t255] (by rfl) rfl rfl mp_ ?_
    with_reducible refine (spec_GapOf.calls t254 t255 t256 _ A14.out).mono ?_
    rintro e w' ⟨rfl, ⟨nd, rfl⟩⟩
    refine ⟨_, rfl, ?_⟩
    refine hK.out _ _ ⟨(bc_ BK250 0 rfl), (bc_ BK250 1 rfl), (bc_ BK253 0 rfl), (bc_ BK253 1 rfl)⟩ (fun hHeld => ?_)
    clear hK K
    refine norm_ (a' := ?_) ?_ ?_
    rotate_left
    ·show Act.put _ (some 32) _ = _
     simp only [Act.put, List.setIfInBounds_toArray, List.set_cons_zero, List.set_cons_succ, i64_w, i32_w]
     rfl
    refine pure_ (i := 5) (N := some 12) (v := ?_) (a' := ?_) #[true, true, true, true, true, true] rfl rfl (by kernel_rfl) (fun _ _ _ h => h) (Or.inl ⟨by rfl, ?_⟩) ?_ ?_
    rotate_left
    ·intro w'
     go_simp
     with_reducible rfl
    rotate_left
    ·simp only [Act.put, List.setIfInBounds_toArray, List.set_cons_zero, List.set_cons_succ, i64_w, i32_w]
     rfl
    refine done_ (by kernel_rfl) ?_
    have hcz75 := cf2_ BK250
    have hcz76 := cf2_ BK253
    try go_wp2
    go_ret
    exact ⟨er_, bl3_ HB GE246 GE250 GE253⟩

/-! ### spec_IsSure: function 68 -/
def spec_IsSure.f (k : Nat) (a0_0 : Int) (l0_1 : List (S105)) (l0_2 : List (S109)) (a0_3 : Int) (a0_4 : Int) (a0_5 : Int) (a0_6 : Int) (a0_7 : Int) (l0_8 : List (S115)) (a0_9 : Int) (a1 : Int) (a2 : Int) (a3 : Int) : Option (Bool) := (spec_SightAt.f k a0_0 l0_1 l0_2 a0_3 a0_4 a0_5 a0_6 a0_7 l0_8 a0_9 a1 a2 a3).bind fun t258 => (some (t258 == 2))
theorem spec_IsSure.mono : ∀ a0 a1 a2 a3 a4 a5 a6 a7 a8 a9 a10 a11 a12 k, LeO (spec_IsSure.f k a0 a1 a2 a3 a4 a5 a6 a7 a8 a9 a10 a11 a12) (spec_IsSure.f (k + 1) a0 a1 a2 a3 a4 a5 a6 a7 a8 a9 a10 a11 a12) := by
 intro a0 a1 a2 a3 a4 a5 a6 a7 a8 a9 a10 a11 a12 k
 unfold spec_IsSure.f
 repeat' first | (with_reducible first | exact spec_SightAt.mono _ _ _ _ _ _ _ _ _ _ _ _ _ _ | exact LeO.refl _ | exact LeO.none _ | refine LeO.ite ?_ ?_ | refine LeO.bind ?_ (fun _ => ?_)) | exact LeO.none _ | refine LeO.ite ?_ ?_ | refine LeO.bind ?_ (fun _ => ?_)
set_option maxHeartbeats 8000000 in
set_option maxRecDepth 100000 in
theorem spec_IsSure.calls (k : Nat) (a0_0 : Int) (A0_1 : Option Addr) (c0_1 : Nat) (l0_1 : List (S105)) (A0_2 : Option Addr) (c0_2 : Nat) (l0_2 : List (S109)) (a0_3 : Int) (a0_4 : Int) (a0_5 : Int) (a0_6 : Int) (a0_7 : Int) (A0_8 : Option Addr) (c0_8 : Nat) (l0_8 : List (S115)) (a0_9 : Int) (a1 : Int) (a2 : Int) (a3 : Int) (r : Bool) (w : World) (hr0_1 : Kd.C k105 w A0_1 l0_1.length l0_1) (hc0_1 : l0_1.length ≤ c0_1) (hr0_2 : Kd.C k109 w A0_2 l0_2.length l0_2) (hc0_2 : l0_2.length ≤ c0_2) (hr0_8 : Kd.C k115 w A0_8 l0_8.length l0_8) (hc0_8 : l0_8.length ≤ c0_8) (h : spec_IsSure.f k a0_0 l0_1 l0_2 a0_3 a0_4 a0_5 a0_6 a0_7 l0_8 a0_9 a1 a2 a3 = some r) :
  Calls Try.prog 68 #[.agg #[.int .i64 a0_0, .slice A0_1 l0_1.length c0_1, .slice A0_2 l0_2.length c0_2, .int .i64 a0_3, .int .i64 a0_4, .int .i64 a0_5, .int .i64 a0_6, .int .i64 a0_7, .slice A0_8 l0_8.length c0_8, .int .i64 a0_9], .int .i64 a1, .int .i64 a2, .int .i64 a3] w fun e w' => e = .returned (.bool r) ∧ Below w.heap.size w w' := by
 have hu34 := Try.underlying34
 have HR0_1 := Aside0.mk hr0_1
 have HC0_1 := Aside0.mk hc0_1
 clear hr0_1 hc0_1
 have HR0_2 := Aside0.mk hr0_2
 have HC0_2 := Aside0.mk hc0_2
 clear hr0_2 hc0_2
 have HR0_8 := Aside0.mk hr0_8
 have HC0_8 := Aside0.mk hc0_8
 clear hr0_8 hc0_8
 have HB := Aside0.mk (Below.refl w.heap.size w)
 have H := h
 clear h
 unfold spec_IsSure.f at H
 replace H := bs_ H
 obtain ⟨t258, A5, H⟩ := H
 obtain rfl := Option.some.inj H
 go_enter Try.func68, Try.ntmps68
 go_wp2_with (first | ((with_reducible refine gd_ 4 ?_); refine bx_ 4 34 #[.int .i64 a0_0, .slice A0_1 l0_1.length c0_1, .slice A0_2 l0_2.length c0_2, .int .i64 a0_3, .int .i64 a0_4, .int .i64 a0_5, .int .i64 a0_6, .int .i64 a0_7, .slice A0_8 l0_8.length c0_8, .int .i64 a0_9] ?_; intro gb257 hg w6 hbox hb; refine sh4_ (below_step (bl_ HB) hb) hbox (ge_ hg (bl_ HB)) (ge_ hg (bl_ HB)) ?_; clear HB hb hbox hg; intro HB BK257 GW257 GE257; have hcz7 := cf10_ BK257) | ((with_reducible refine gate_callee (f := 97) rfl ?_); refine gl_ 13 Try.func97 (spec_SightAt.calls k a0_0 _ _ l0_1 _ _ l0_2 a0_3 a0_4 a0_5 a0_6 a0_7 _ _ l0_8 a0_9 a1 a2 a3 t258 _ (ck_ HR0_1 HB) HC0_1.out (ck_ HR0_2 HB) HC0_2.out (ck_ HR0_8 HB) HC0_8.out A5.out) ?_; rintro e w8 ⟨rfl, hb⟩; refine ⟨_, rfl, sh2_ (blk_below (bk_ BK257) hb) (below_step (bl1_ HB GE257) hb) ?_⟩; clear BK257 HB hb; intro BK257 HB))
 go_ret
 exact ⟨er_, bl1_ HB GE257⟩

/-! ### spec_l8Ticks: function 71 -/
def spec_l8Ticks.f (a0 : Int) (a1 : Int) : Option (Int × Int) := (spec_Max.f 0 a0).bind fun t259 => ((spec_Min.f 1000 t259).bind fun t260 => ((spec_Min.f 1000 a1).bind fun t261 => ((spec_Max.f 0 t261).bind fun t262 => (some (t260, t262)))))
set_option maxHeartbeats 8000000 in
set_option maxRecDepth 100000 in
theorem spec_l8Ticks.calls (a0 : Int) (a1 : Int) (r1 : Int) (r2 : Int) (w : World) (h : spec_l8Ticks.f a0 a1 = some (r1, r2)) :
  Calls Try.prog 71 #[.int .i64 a0, .int .i64 a1] w fun e w' => e = .returned (.tuple #[.int .i64 r1, .int .i64 r2]) ∧ Drawn0 w w' := by
 have H := h
 clear h
 unfold spec_l8Ticks.f at H
 replace H := bs_ H
 obtain ⟨t259, A3, H⟩ := H
 replace H := bs_ H
 obtain ⟨t260, A4, H⟩ := H
 replace H := bs_ H
 obtain ⟨t261, A5, H⟩ := H
 replace H := bs_ H
 obtain ⟨t262, A6, H⟩ := H
 simp only [Option.some.injEq, Prod.mk.injEq] at H
 obtain ⟨rfl, rfl⟩ := H
 go_enter Try.func71, Try.ntmps71
 go_wp2_with (first | ((with_reducible refine gate_callee (f := 73) rfl ?_); refine gl_ 7 Try.func73 (spec_Max.calls 0 a0 t259 _ A3.out) ?_; rintro e w' ⟨rfl, ⟨nd, rfl⟩⟩; refine ⟨_, rfl, ?_⟩) | ((with_reducible refine gate_callee (f := 99) rfl ?_); refine gl_ 8 Try.func99 (spec_Min.calls 1000 t259 t260 _ A4.out) ?_; rintro e w' ⟨rfl, ⟨nd, rfl⟩⟩; refine ⟨_, rfl, ?_⟩) | ((with_reducible refine gate_callee (f := 99) rfl ?_); refine gl_ 10 Try.func99 (spec_Min.calls 1000 a1 t261 _ A5.out) ?_; rintro e w' ⟨rfl, ⟨nd, rfl⟩⟩; refine ⟨_, rfl, ?_⟩) | ((with_reducible refine gate_callee (f := 73) rfl ?_); refine gl_ 11 Try.func73 (spec_Max.calls 0 t261 t262 _ A6.out) ?_; rintro e w' ⟨rfl, ⟨nd, rfl⟩⟩; refine ⟨_, rfl, ?_⟩))
 go_ret2
 exact ⟨by first | rfl | (simp; done) | (simp [*]; done), by repeat (first | exact Drawn0.refl _ | apply Drawn0.step)⟩

/-! ### spec_l4Put: function 77 -/
def spec_l4Put.f (l0 : List (S73)) (a1 : Int) : Option ((List (S73))) := if (l0.length : Int) > 0 then (if 0 ≤ (wrap64 ((l0.length : Int) - 1)) then (if (wrap64 ((l0.length : Int) - 1)) < (l0.length : Int) then (if ((rd_T73 l0 (wrap64 ((l0.length : Int) - 1))).f1) = a1 then (some (l0.set ((wrap64 ((l0.length : Int) - 1)) : Int).toNat (⟨(rd_T73 l0 (wrap64 ((l0.length : Int) - 1))).f0, wrap64 (a1 + 1)⟩ : S73))) else (if l0.length < 8796093022208 then (some (l0 ++ [(⟨a1, wrap64 (a1 + 1)⟩ : S73)])) else (none))) else (none)) else (none)) else (if l0.length < 8796093022208 then (some (l0 ++ [(⟨a1, wrap64 (a1 + 1)⟩ : S73)])) else (none))
set_option maxHeartbeats 8000000 in
set_option maxRecDepth 100000 in
theorem spec_l4Put.calls (P0_ : Nat → Prop) (u9000_ : Value) (l0 : List (S73)) (a1 : Int) (r : List (S73)) (w0 w : World) (hB : Below w0.heap.size w0 w) (ho0 : Kd.R k73 73 w w0.heap.size P0_ u9000_ l0) (h : spec_l4Put.f l0 a1 = some r) :
  Calls Try.prog 77 #[u9000_, .int .i64 a1] w fun e w' => ∃ v0_ : Value, e = .returned (v0_) ∧ Kd.R k73 73 w' w0.heap.size (fun k_ => (P0_ k_ ∨ w.heap.size ≤ k_)) v0_ r ∧ Below w0.heap.size w0 w' ∧ Kept w w' (fun k_ => P0_ k_) := by
 have hu73 := Try.underlying73
 have HO0 := Aside0.mk (show Kd.R k73 73 w w0.heap.size (fun k_ => (P0_ k_ ∨ w.heap.size ≤ k_)) u9000_ l0 from Kd.R_mono ho0 (fun k_ hk => (.inl hk)))
 have HK := Aside0.mk (Kept.refl w (fun k_ => P0_ k_))
 have HW0 := Aside0.mk hB.size
 have HB := Aside0.mk hB
 clear hB
 have H := h
 clear h
 unfold spec_l4Put.f at H
 by_cases c3 : (l0.length : Int) > 0
 ·rw [if_pos c3] at H
  have c3b0 : decide (0 < (l0.length : Int)) = true := decide_eq_true c3
  have c3b1 : decide (0 < l0.length) = true := decide_eq_true (by omega)
  clear c3
  obtain ⟨ji4, hji4⟩ : ∃ j_ : Int, (wrap64 ((l0.length : Int) - 1)) = j_ := ⟨_, rfl⟩
  replace H : (if 0 ≤ (ji4) then (if (ji4) < (l0.length : Int) then (if ((rd_T73 l0 (ji4)).f1) = a1 then (some (l0.set ((ji4) : Int).toNat (⟨(rd_T73 l0 (ji4)).f0, wrap64 (a1 + 1)⟩ : S73))) else (if l0.length < 8796093022208 then (some (l0 ++ [(⟨a1, wrap64 (a1 + 1)⟩ : S73)])) else (none))) else (none)) else (none)) = some r := by first | (rw [hji4] at H; exact H) | (simp only [hji4] at H ⊢; exact H)
  have hji4w : (IntKind.i64.wrap ((l0.length : Int) - 1)) = ji4 := (i64_w _).trans hji4
  replace H := ifn_ H
  obtain ⟨c5, H⟩ := H
  have c5b0 := decide_eq_true c5
  clear c5
  replace H := ifn_ H
  obtain ⟨c6, H⟩ := H
  have c6b0 := decide_eq_true c6
  clear c6
  by_cases c7 : ((rd_T73 l0 (ji4)).f1) = a1
  ·rw [if_pos c7] at H
   obtain ⟨c7b0, c7b1⟩ := bt_ c7
   clear c7
   replace H : ∃ y_ : List (S73), Aside0 (y_ = (l0.set ((ji4) : Int).toNat (⟨(rd_T73 l0 (ji4)).f0, wrap64 (a1 + 1)⟩ : S73))) ∧ (some y_) = some r := ⟨_, ⟨rfl⟩, yh_ H⟩
   obtain ⟨y264, Ny264, H⟩ := H
   obtain rfl := Option.some.inj H
   obtain ⟨Ao9, co9, eo9⟩ := Kd.R_slice HO0.out
   subst eo9
   have p263 : 0 ≤ ((ji4) : Int) := od_
   have q263 : (ji4) < (l0.length : Int) := od_
   obtain ⟨ad263, e263, hx263_0, hx263_1⟩ := at_T73 (Kd.R_reads' HO0.out).2.2 (ji4) p263 q263
   cases e263
   replace p263 := eq_true p263
   replace q263 := eq_true q263
   have p8 : 0 ≤ ((ji4) : Int) := od_
   have q8 : ((ji4) : Int) < ((l0.length : Int) : Int) := od_
   obtain ⟨go8, co8, eo8, gb8, gl8, cl8, HG8⟩ := Kd.R_form HO0.out (by omega)
   (first | cases eo8 | (injection eo8 with ea_ en_ ec_; (first | subst ea_ | (injection ea_ with ea_; subst ea_)); subst ec_; clear en_))
   have GB8 := Aside0.mk gb8
   have GG8 := Aside0.mk HG8
   clear gb8 gl8 HG8
   have HMgo8 := Aside0.mk (show (P0_ go8 ∨ w.heap.size ≤ go8) from (HO0.out.1 _ rfl))
   (first | simp only [add_plain] at hx263_0 | skip)
   (first | simp only [add_plain] at hx263_1 | skip)
   obtain ⟨ce8, hcl8, hM8, hcc8, hfr8⟩ := Kd.R_elem HO0.out z73 ((ji4) : Int) p8 q8
   obtain rfl := k73_openM hM8
   have hx8_0 : w.cell? ⟨go8, ((ji4) : Int).toNat * 2, none⟩ = some (.int .i64 ((rd_T73 l0 (ji4)).f0)) := hcc8 0 _ rfl
   have hx8_1 : w.cell? ⟨go8, ((ji4) : Int).toNat * 2 + 1, none⟩ = some (.int .i64 ((rd_T73 l0 (ji4)).f1)) := hcc8 1 _ rfl
   have hf8_0 : w.frozen? ⟨go8, ((ji4) : Int).toNat * 2, none⟩ = false := hfr8 0
   have hf8_1 : w.frozen? ⟨go8, ((ji4) : Int).toNat * 2 + 1, none⟩ = false := hfr8 1
   clear hcl8 hcc8 hfr8 hM8
   replace p8 := eq_true p8
   replace q8 := eq_true q8
   have HX10 := Aside0.mk (show Kd.R k73 73 w w0.heap.size (fun k_ => (P0_ k_ ∨ w.heap.size ≤ k_)) (.slice (some ⟨go8, 0, none⟩) l0.length co9) l0 from (ra_ HO0))
   obtain ⟨ce10, hcl10, hM10, hcc10, hfr10⟩ := Kd.R_elem HX10.out z73 ((ji4) : Int) od_ (by have h_ : ((ji4) : Int) < ((l0.length : Int) : Int) := od_; first | exact h_ | (have e_ := (Kd.R_reads' HO0.out).1; omega) | simpa using h_)
   obtain rfl := k73_openM hM10
   have HP10 := Kd.R_seg HX10.out ((ji4) : Int) od_ (by have h_ : ((ji4) : Int) < ((l0.length : Int) : Int) := od_; first | exact h_ | (have e_ := (Kd.R_reads' HO0.out).1; omega) | simpa using h_) (seg := [.int .i64 (wrap64 (a1 + 1))]) (j := 1) hcl10 hcc10 (show 2 ≤ 2 from by decide) (x' := (⟨(rd_T73 l0 (ji4)).f0, wrap64 (a1 + 1)⟩ : S73)) (k73_mkM _ _ _ (⟨(rd_T73 l0 (ji4)).f0, wrap64 (a1 + 1)⟩ : S73) ) (fun _ hk => hk)
   have hx10_1 := hcc10 1 _ rfl
   (try simp only [show (k73).sz = 2 from rfl, Nat.mul_one, Nat.add_zero] at hx10_1)
   have hf10_1 := hfr10 1
   (try simp only [show (k73).sz = 2 from rfl, Nat.mul_one, Nat.add_zero] at hf10_1)
   clear hcl10 hcc10 hfr10 hM10
   go_enter Try.func77, Try.ntmps77
   go_wp2_with (first | ((with_reducible refine gate_store (t := 3) (p := 26) rfl ?_); refine store_event (t := 3) (p := 26) (v := ?vo_w11) (w1 := (w.setCell ⟨go8, ((ji4) : Int).toNat * 2 + 1, none⟩ (.int .i64 (wrap64 (a1 + 1))))) ?hg ?ho ?hn ?hr ?_; (case ho => rfl); (case hg => rfl); (case hn => rfl); (case hr => first | (go_simp; done) | (go_simp; rfl)); intro w11 hw; have hg : w.grownBy w11 (some go8) := (by rw [hw]; exact HP10.2); have hp_ : Kd.R k73 73 w11 w0.heap.size (fun k_ => (P0_ k_ ∨ w.heap.size ≤ k_)) (.slice (some ⟨go8, 0, none⟩) l0.length co9) y264 := (by rw [hw, Ny264.out]; exact HP10.1); clear HP10; refine sh3_ hp_ ((by rw [hw]; exact below_set (HB.out) GB8.out : Below w0.heap.size w0 w11)) (Kept.of_grown (S := (fun k_ => P0_ k_)) hg (by repeat (first | (with_reducible first | exact HK.out | apply Kept.alloc | apply Kept.drewN | apply Kept.drew) | exact HK.out)) (fun k_ e_ => (HO0.out.1 k_ e_))) ?_; clear HO0 HB HK; intro HO0 HB HK; clear hg hw hp_))
   go_ret
   exact ⟨_, by first | rfl | (simp [errW_none, errW_some] <;> rfl) | (simp only [← hji4]; first | rfl | (simp [errW_none, errW_some] <;> rfl)) | (simp [*, errW_none, errW_some] <;> rfl), ra_ HO0, bl_ HB, by repeat (first | (with_reducible first | exact HK.out | apply Kept.alloc | apply Kept.drewN | apply Kept.drew) | exact HK.out)⟩
  ·rw [if_neg c7] at H
   obtain ⟨c7b0, c7b1⟩ := bn_ c7
   replace H := ifn_ H
   obtain ⟨c12, H⟩ := H
   have LMc12 := Aside0.mk c12
   clear c12
   replace H : ∃ y_ : List (S73), Aside0 (y_ = (l0 ++ [(⟨a1, wrap64 (a1 + 1)⟩ : S73)])) ∧ (some y_) = some r := ⟨_, ⟨rfl⟩, yh_ H⟩
   obtain ⟨y265, Ny265, H⟩ := H
   obtain rfl := Option.some.inj H
   obtain ⟨Ao13, co13, eo13⟩ := Kd.R_slice HO0.out
   subst eo13
   have p263 : 0 ≤ ((ji4) : Int) := od_
   have q263 : (ji4) < (l0.length : Int) := od_
   obtain ⟨ad263, e263, hx263_0, hx263_1⟩ := at_T73 (Kd.R_reads' HO0.out).2.2 (ji4) p263 q263
   cases e263
   replace p263 := eq_true p263
   replace q263 := eq_true q263
   go_enter Try.func77, Try.ntmps77
   go_wp2_with (first | ((with_reducible refine gate_builtin (b := .append) (xs := #[.tmp 28, .tmp 33]) rfl ?_); (try (refine gate_guard (by rfl) ?_; dsimp only)); at_builtin; refine Kd.R_append k73 (w0 := w0) w0.heap.size rfl (.tmp 28) (.tmp 33) 28 73 (.agg #[(.int .i64 0), (.int .i64 0)]) 16 rfl Try.underlying28 info73 rfl (by decide) (by omega) (.slice (some ad263) l0.length co13) l0 (⟨a1, wrap64 (a1 + 1)⟩ : S73) [.int .i64 a1, .int .i64 (wrap64 (a1 + 1))] (fun k_ => (P0_ k_ ∨ w.heap.size ≤ k_)) (fun _ => False) rfl rfl ?aP (fun _ hk => hk.elim) ?aF ?aO ?aB ?aS ?aL ?_; (case aP => exact k73_mkM _ _ _ (⟨a1, wrap64 (a1 + 1)⟩ : S73)); (case aB => exact (bl_ HB)); (case aF => exact (fun k_ hk => (.inr (Nat.le_trans (by first | exact HK.out.1 | exact (show Kept w _ (fun k_ => P0_ k_) from by repeat (first | (with_reducible first | exact HK.out | apply Kept.alloc | apply Kept.drewN | apply Kept.drew) | exact HK.out)).1) hk)))); (case aO => exact (ra_ HO0)); (case aS => exact (below_size (bl_ HB))); (case aL => have := LMc12.out; omega); intro v266 w14 ho hb hg hat; rw [← Ny265.out] at ho; refine sh3_ hb (Kept.of_grown (S := (fun k_ => P0_ k_)) hg (by repeat (first | (with_reducible first | exact HK.out | apply Kept.alloc | apply Kept.drewN | apply Kept.drew) | exact HK.out)) (fun k_ e_ => (HO0.out.1 k_ e_))) ho ?_; clear HB HK HO0 ho hb hg hat; intro HB HK HO267))
   go_ret
   exact ⟨_, by first | rfl | (simp [errW_none, errW_some] <;> rfl) | (simp only [← hji4]; first | rfl | (simp [errW_none, errW_some] <;> rfl)) | (simp [*, errW_none, errW_some] <;> rfl), ra_ HO267, bl_ HB, by repeat (first | (with_reducible first | exact HK.out | apply Kept.alloc | apply Kept.drewN | apply Kept.drew) | exact HK.out)⟩
 ·rw [if_neg c3] at H
  have c3b0 : decide (0 < (l0.length : Int)) = false := decide_eq_false c3
  have c3b1 : decide (0 < l0.length) = false := decide_eq_false (by omega)
  clear c3
  replace H := ifn_ H
  obtain ⟨c15, H⟩ := H
  have LMc15 := Aside0.mk c15
  clear c15
  replace H : ∃ y_ : List (S73), Aside0 (y_ = (l0 ++ [(⟨a1, wrap64 (a1 + 1)⟩ : S73)])) ∧ (some y_) = some r := ⟨_, ⟨rfl⟩, yh_ H⟩
  obtain ⟨y268, Ny268, H⟩ := H
  obtain rfl := Option.some.inj H
  obtain ⟨Ao16, co16, eo16⟩ := Kd.R_slice HO0.out
  subst eo16
  go_enter Try.func77, Try.ntmps77
  go_wp2_with (first | ((with_reducible refine gate_builtin (b := .append) (xs := #[.tmp 28, .tmp 33]) rfl ?_); (try (refine gate_guard (by rfl) ?_; dsimp only)); at_builtin; refine Kd.R_append k73 (w0 := w0) w0.heap.size rfl (.tmp 28) (.tmp 33) 28 73 (.agg #[(.int .i64 0), (.int .i64 0)]) 16 rfl Try.underlying28 info73 rfl (by decide) (by omega) (.slice Ao16 l0.length co16) l0 (⟨a1, wrap64 (a1 + 1)⟩ : S73) [.int .i64 a1, .int .i64 (wrap64 (a1 + 1))] (fun k_ => (P0_ k_ ∨ w.heap.size ≤ k_)) (fun _ => False) rfl rfl ?aP (fun _ hk => hk.elim) ?aF ?aO ?aB ?aS ?aL ?_; (case aP => exact k73_mkM _ _ _ (⟨a1, wrap64 (a1 + 1)⟩ : S73)); (case aB => exact (bl_ HB)); (case aF => exact (fun k_ hk => (.inr (Nat.le_trans (by first | exact HK.out.1 | exact (show Kept w _ (fun k_ => P0_ k_) from by repeat (first | (with_reducible first | exact HK.out | apply Kept.alloc | apply Kept.drewN | apply Kept.drew) | exact HK.out)).1) hk)))); (case aO => exact (ra_ HO0)); (case aS => exact (below_size (bl_ HB))); (case aL => have := LMc15.out; omega); intro v269 w17 ho hb hg hat; rw [← Ny268.out] at ho; refine sh3_ hb (Kept.of_grown (S := (fun k_ => P0_ k_)) hg (by repeat (first | (with_reducible first | exact HK.out | apply Kept.alloc | apply Kept.drewN | apply Kept.drew) | exact HK.out)) (fun k_ e_ => (HO0.out.1 k_ e_))) ho ?_; clear HB HK HO0 ho hb hg hat; intro HB HK HO270))
  go_ret
  exact ⟨_, er_, ra_ HO270, bl_ HB, by repeat (first | (with_reducible first | exact HK.out | apply Kept.alloc | apply Kept.drewN | apply Kept.drew) | exact HK.out)⟩

/-! ### spec_SureWindows: function 38 -/
def spec_SureWindows.l0 : Nat → Int → Int → List (S73) → Int → Int → Int → List (S105) → List (S109) → Int → Int → Int → Int → Int → List (S115) → Int → Option ((List (S73)))
 | 0, _, _, _, _, _, _, _, _, _, _, _, _, _, _, _ => none
 | k + 1, x1, x2, x11, x13, x14, x272000, x272001, x272002, x272003, x272004, x272005, x272006, x272007, x272008, x272009 => if x14 < x13 then ((spec_IsSure.f k x272000 x272001 x272002 x272003 x272004 x272005 x272006 x272007 x272008 x272009 x1 x2 x14).bind fun t277 => (if t277 = true then ((spec_l4Put.f x11 x14).bind fun t278 => (spec_SureWindows.l0 k x1 x2 t278 x13 (wrap64 (x14 + 1)) x272000 x272001 x272002 x272003 x272004 x272005 x272006 x272007 x272008 x272009)) else (spec_SureWindows.l0 k x1 x2 x11 x13 (wrap64 (x14 + 1)) x272000 x272001 x272002 x272003 x272004 x272005 x272006 x272007 x272008 x272009))) else (some x11)
def spec_SureWindows.f (k : Nat) (a0_0 : Int) (l0_1 : List (S105)) (l0_2 : List (S109)) (a0_3 : Int) (a0_4 : Int) (a0_5 : Int) (a0_6 : Int) (a0_7 : Int) (l0_8 : List (S115)) (a0_9 : Int) (a1 : Int) (a2 : Int) (a3 : Int) (a4 : Int) : Option ((List (S73))) := (spec_l8Ticks.f a3 a4).bind fun bt275 => (spec_SureWindows.l0 k a1 a2 (([] : List (S73))) bt275.2 bt275.1 a0_0 l0_1 l0_2 a0_3 a0_4 a0_5 a0_6 a0_7 l0_8 a0_9)
theorem spec_SureWindows.mono_l : ∀ k, (∀ y0 y1 y2 y3 y4 y5 y6 y7 y8 y9 y10 y11 y12 y13 y14, LeO (spec_SureWindows.l0 k y0 y1 y2 y3 y4 y5 y6 y7 y8 y9 y10 y11 y12 y13 y14) (spec_SureWindows.l0 (k + 1) y0 y1 y2 y3 y4 y5 y6 y7 y8 y9 y10 y11 y12 y13 y14))
 | 0 => fun _ _ _ _ _ _ _ _ _ _ _ _ _ _ _ r h => by simp [spec_SureWindows.l0] at h
 | k + 1 => by
  have ih0 := spec_SureWindows.mono_l k
  ·intro y0 y1 y2 y3 y4 y5 y6 y7 y8 y9 y10 y11 y12 y13 y14
   unfold spec_SureWindows.l0
   repeat' first | (with_reducible first | exact ih0 _ _ _ _ _ _ _ _ _ _ _ _ _ _ _ | exact spec_IsSure.mono _ _ _ _ _ _ _ _ _ _ _ _ _ _ | exact LeO.refl _ | exact LeO.none _ | refine LeO.ite ?_ ?_ | refine LeO.bind ?_ (fun _ => ?_)) | exact LeO.none _ | refine LeO.ite ?_ ?_ | refine LeO.bind ?_ (fun _ => ?_)
theorem spec_SureWindows.mono : ∀ a0 a1 a2 a3 a4 a5 a6 a7 a8 a9 a10 a11 a12 a13 k, LeO (spec_SureWindows.f k a0 a1 a2 a3 a4 a5 a6 a7 a8 a9 a10 a11 a12 a13) (spec_SureWindows.f (k + 1) a0 a1 a2 a3 a4 a5 a6 a7 a8 a9 a10 a11 a12 a13) := by
 intro a0 a1 a2 a3 a4 a5 a6 a7 a8 a9 a10 a11 a12 a13 k
 have ih0 := spec_SureWindows.mono_l k
 unfold spec_SureWindows.f
 repeat' first | (with_reducible first | exact ih0 _ _ _ _ _ _ _ _ _ _ _ _ _ _ _ | exact spec_IsSure.mono _ _ _ _ _ _ _ _ _ _ _ _ _ _ | exact LeO.refl _ | exact LeO.none _ | refine LeO.ite ?_ ?_ | refine LeO.bind ?_ (fun _ => ?_)) | exact LeO.none _ | refine LeO.ite ?_ ?_ | refine LeO.bind ?_ (fun _ => ?_)
set_option maxHeartbeats 8000000 in
set_option maxRecDepth 100000 in
theorem spec_SureWindows.calls (k : Nat) (a0_0 : Int) (A0_1 : Option Addr) (c0_1 : Nat) (l0_1 : List (S105)) (A0_2 : Option Addr) (c0_2 : Nat) (l0_2 : List (S109)) (a0_3 : Int) (a0_4 : Int) (a0_5 : Int) (a0_6 : Int) (a0_7 : Int) (A0_8 : Option Addr) (c0_8 : Nat) (l0_8 : List (S115)) (a0_9 : Int) (a1 : Int) (a2 : Int) (a3 : Int) (a4 : Int) (r : List (S73)) (w : World) (hr0_1 : Kd.C k105 w A0_1 l0_1.length l0_1) (hc0_1 : l0_1.length ≤ c0_1) (hr0_2 : Kd.C k109 w A0_2 l0_2.length l0_2) (hc0_2 : l0_2.length ≤ c0_2) (hr0_8 : Kd.C k115 w A0_8 l0_8.length l0_8) (hc0_8 : l0_8.length ≤ c0_8) (h : spec_SureWindows.f k a0_0 l0_1 l0_2 a0_3 a0_4 a0_5 a0_6 a0_7 l0_8 a0_9 a1 a2 a3 a4 = some r) :
  Calls Try.prog 38 #[.agg #[.int .i64 a0_0, .slice A0_1 l0_1.length c0_1, .slice A0_2 l0_2.length c0_2, .int .i64 a0_3, .int .i64 a0_4, .int .i64 a0_5, .int .i64 a0_6, .int .i64 a0_7, .slice A0_8 l0_8.length c0_8, .int .i64 a0_9], .int .i64 a1, .int .i64 a2, .int .i64 a3, .int .i64 a4] w fun e w' => ∃ v0_ : Value, e = .returned (v0_) ∧ Kd.R k73 73 w' w.heap.size (fun _ => True) v0_ r ∧ Below w.heap.size w w' := by
 have hu34 := Try.underlying34
 have HR0_1 := Aside0.mk hr0_1
 have HC0_1 := Aside0.mk hc0_1
 clear hr0_1 hc0_1
 have HR0_2 := Aside0.mk hr0_2
 have HC0_2 := Aside0.mk hc0_2
 clear hr0_2 hc0_2
 have HR0_8 := Aside0.mk hr0_8
 have HC0_8 := Aside0.mk hc0_8
 clear hr0_8 hc0_8
 have HB := Aside0.mk (Below.refl w.heap.size w)
 have H := h
 clear h
 unfold spec_SureWindows.f at H
 replace H : ∃ y_ : List (S73), Aside0 (y_ = (([] : List (S73)))) ∧ ((spec_l8Ticks.f a3 a4).bind fun bt275 => (spec_SureWindows.l0 k a1 a2 y_ bt275.2 bt275.1 a0_0 l0_1 l0_2 a0_3 a0_4 a0_5 a0_6 a0_7 l0_8 a0_9)) = some r := ⟨_, ⟨rfl⟩, yh_ H⟩
 obtain ⟨y272, Ny272, H⟩ := H
 replace H := bs_ H
 obtain ⟨⟨t275, t276⟩, A6, H⟩ := H
 dsimp only at H
 have H' := Aside0.mk H
 clear H
 go_enter Try.func38, Try.ntmps38
 go_wp2_with (first | ((with_reducible refine gd_ 5 ?_); refine bx_ 5 34 #[.int .i64 a0_0, .slice A0_1 l0_1.length c0_1, .slice A0_2 l0_2.length c0_2, .int .i64 a0_3, .int .i64 a0_4, .int .i64 a0_5, .int .i64 a0_6, .int .i64 a0_7, .slice A0_8 l0_8.length c0_8, .int .i64 a0_9] ?_; intro gb271 hg w7 hbox hb; refine sh4_ (below_step (bl_ HB) hb) hbox (ge_ hg (bl_ HB)) (ge_ hg (bl_ HB)) ?_; clear HB hb hbox hg; intro HB BK271 GW271 GE271) | ((with_reducible refine gate_dst (N := 15) rfl ?_); refine Kd.R_lit k73 _ 73 ?hg (N := 15) ?hd (xs := ([] : List (S73))) (inner := []) (ok := fun _ => True) (okp := fun _ => True) ?hr ?hp (fun _ hk => hk) trivial (Below.refl _ _) (Nat.le_refl _) (by simp) ?_; (case hd => rfl); (case hg => rfl); (case hr => first | (go_simp; done) | (go_simp; rfl)); (case hp => exact (Reps.none _ _)); intro v273 w8 ho9 hb hg_ hnew_; clear hg_ hnew_; (first | rw [← Ny272.out] at ho9 | (simp only [Int.reduceToNat] at ho9; rw [← Ny272.out] at ho9)); refine sh3_ (Kd.R_lower ho9 (below_size (bl1_ HB GE271))) (blk_below (bk_ BK271) hb) (below_step (bl1_ HB GE271) hb) ?_; clear BK271 HB hb ho9; intro HO274 BK271 HB) | ((with_reducible refine gate_callee (f := 71) rfl ?_); refine gl_ 19 Try.func71 (spec_l8Ticks.calls a3 a4 t275 t276 _ A6.out) ?_; rintro e w' ⟨rfl, ⟨nd, rfl⟩⟩; refine ⟨_, rfl, ?_⟩))
 go_loopg [11, 14] k (fun kq v11 v14 w' => ∃ (x11_1 : List (S73)) (x14_1 : Int), v14 = .int .i64 x14_1 ∧ Aside0 (spec_SureWindows.l0 kq a1 a2 x11_1 t276 x14_1 a0_0 l0_1 l0_2 a0_3 a0_4 a0_5 a0_6 a0_7 l0_8 a0_9 = some r) ∧ Aside0 (kq ≤ k) ∧ Aside0 (Kd.R k73 73 w' w.heap.size (fun _ => True) v11 x11_1) ∧ Aside0 (w'.heap[gb271]? = some (.cells #[.int .i64 a0_0, (.slice A0_1 l0_1.length c0_1), (.slice A0_2 l0_2.length c0_2), .int .i64 a0_3, .int .i64 a0_4, .int .i64 a0_5, .int .i64 a0_6, .int .i64 a0_7, (.slice A0_8 l0_8.length c0_8), .int .i64 a0_9] 34 (0, 0))) ∧ Aside0 (Below w.heap.size w w'))
 case atStart => exact ⟨(y272), (t275), (by first | rfl | (simp; done) | (simp [*]; done)), H', ⟨Nat.le_refl _⟩, ⟨ra_ HO274⟩, ⟨by (with_reducible repeat (first | refine blk_drewN ?_ _ | refine blk_drew ?_ | refine blk_alloc ?_ _)); exact BK271.out⟩, ⟨bl1_ HB GE271⟩⟩
 case round =>
  clear H'
  try clear p2
  try clear c3
  try clear c7
  obtain ⟨x11_1, x14_1, rfl, HA, HK1, HO_11, BK271, HB⟩ := hrel
  cases gk with
  | zero => exact absurd HA.out (by simp [spec_SureWindows.l0])
  | succ k1 =>
   have H := HA.out
   clear HA
   simp only [spec_SureWindows.l0] at H
   by_cases c10 : x14_1 < t276
   ·rw [if_pos c10] at H
    have c10b0 := decide_eq_true c10
    clear c10
    replace H := bs_ H
    obtain ⟨t277, A11, H⟩ := H
    by_cases c12 : t277 = true
    ·subst c12
     rw [if_pos rfl] at H
     replace H := bs_ H
     obtain ⟨t278, A13, H⟩ := H
     have H' := Aside0.mk H
     clear H
     have hcz14 := cf10_ BK271
     go_wp2_with (first | ((with_reducible refine gate_callee (f := 68) rfl ?_); refine gl_ 32 Try.func68 (spec_IsSure.calls k1 a0_0 _ _ l0_1 _ _ l0_2 a0_3 a0_4 a0_5 a0_6 a0_7 _ _ l0_8 a0_9 a1 a2 x14_1 true _ (ck_ HR0_1 HB) HC0_1.out (ck_ HR0_2 HB) HC0_2.out (ck_ HR0_8 HB) HC0_8.out A11.out) ?_; rintro e w15 ⟨rfl, hb⟩; refine ⟨_, rfl, sh3_ (Kd.R_below (ra_ HO_11) hb) (blk_below (bk_ BK271) hb) (below_step (bl1_ HB GE271) hb) ?_⟩; clear HO_11 BK271 HB hb; intro HO_11 BK271 HB; obtain ⟨Ao16, co16, eo16⟩ := Kd.R_slice HO_11.out; subst eo16) | ((with_reducible refine gate_callee (f := 77) rfl ?_); refine goesL_ (some 35) rfl rfl Try.func77 (by kernel_rfl) rfl #[.slice Ao16 x11_1.length co16, .int .i64 x14_1] rfl mp_ ?_; (with_reducible refine (spec_l4Put.calls (fun k_ => some k_ = (.slice Ao16 x11_1.length co16 : Value).ownBlock) (.slice Ao16 x11_1.length co16) x11_1 x14_1 t278 w _ ?side1 ?side2 A13.out).mono ?_); (case side1 => repeat (first | (with_reducible first | exact HB.out | apply below_alloc | apply pw_below_drewN | apply below_drew1 | refine below_set ?_ GE271.out) | exact HB.out)); (case side2 => exact Kd.R_tight rfl HO_11.out); rintro e w17 ⟨v279, rfl, ho0, hb, hkp⟩; refine ⟨_, rfl, sh3_ (blk_kept (bk_ BK271) hkp (fun hs_ => (fun e_ => (Kd.R_ne HO_11.out BK271.out (by decide)) e_) hs_)) (Kd.R_mono (ok' := fun k_ => True) ho0 (fun k_ hk_ => trivial)) hb ?_⟩; clear BK271 HB HO_11 hb hkp ho0; intro BK271 HO280 HB))
     go_roundg k1
     case measure => have := HK1.out; omega
     case rel => exact ⟨(t278), (wrap64 (x14_1 + 1)), (by first | rfl | (simp; done) | (simp [*]; done)), H', ⟨by have := HK1.out; omega⟩, ⟨ra_ HO280⟩, ⟨by (with_reducible repeat (first | refine blk_drewN ?_ _ | refine blk_drew ?_ | refine blk_alloc ?_ _)); exact BK271.out⟩, ⟨bl1_ HB GE271⟩⟩
    ·replace c12 := Bool.eq_false_iff.mpr c12
     subst c12
     have H1 : (spec_SureWindows.l0 k1 a1 a2 x11_1 t276 (wrap64 (x14_1 + 1)) a0_0 l0_1 l0_2 a0_3 a0_4 a0_5 a0_6 a0_7 l0_8 a0_9) = some r := by rw [if_neg (show ¬ (false = true) by decide)] at H; exact H
     clear H
     have H := H1
     clear H1
     have H' := Aside0.mk H
     clear H
     have hcz18 := cf10_ BK271
     go_wp2_with (first | ((with_reducible refine gate_callee (f := 68) rfl ?_); refine gl_ 32 Try.func68 (spec_IsSure.calls k1 a0_0 _ _ l0_1 _ _ l0_2 a0_3 a0_4 a0_5 a0_6 a0_7 _ _ l0_8 a0_9 a1 a2 x14_1 false _ (ck_ HR0_1 HB) HC0_1.out (ck_ HR0_2 HB) HC0_2.out (ck_ HR0_8 HB) HC0_8.out A11.out) ?_; rintro e w19 ⟨rfl, hb⟩; refine ⟨_, rfl, sh3_ (Kd.R_below (ra_ HO_11) hb) (blk_below (bk_ BK271) hb) (below_step (bl1_ HB GE271) hb) ?_⟩; clear HO_11 BK271 HB hb; intro HO_11 BK271 HB))
     go_roundg k1
     case measure => have := HK1.out; omega
     case rel => exact ⟨(x11_1), (wrap64 (x14_1 + 1)), (by first | rfl | (simp; done) | (simp [*]; done)), H', ⟨by have := HK1.out; omega⟩, ⟨ra_ HO_11⟩, ⟨by (with_reducible repeat (first | refine blk_drewN ?_ _ | refine blk_drew ?_ | refine blk_alloc ?_ _)); exact BK271.out⟩, ⟨bl1_ HB GE271⟩⟩
   ·rw [if_neg c10] at H
    have c10b0 := decide_eq_false c10
    clear c10
    obtain rfl := Option.some.inj H
    go_wp2
    go_ret
    exact ⟨_, er_, ra_ HO_11, bl1_ HB GE271⟩

/-! ### spec_IsSpan: function 95 -/
def spec_IsSpan.f (a0_0 : Int) (a0_1 : Int) : Option (Bool) := if a0_0 ≥ 0 then (if a0_1 ≤ 1000 then (some (decide (a0_0 < a0_1))) else (some false)) else (some false)
set_option maxHeartbeats 8000000 in
set_option maxRecDepth 100000 in
theorem spec_IsSpan.calls (a0_0 : Int) (a0_1 : Int) (r : Bool) (w : World) (h : spec_IsSpan.f a0_0 a0_1 = some r) :
  Calls Try.prog 95 #[.agg #[.int .i64 a0_0, .int .i64 a0_1]] w fun e w' => e = .returned (.bool r) ∧ Below w.heap.size w w' := by
 have hu73 := Try.underlying73
 have HB := Aside0.mk (Below.refl w.heap.size w)
 have H := h
 clear h
 unfold spec_IsSpan.f at H
 by_cases c2 : a0_0 ≥ 0
 ·rw [if_pos c2] at H
  have c2b0 : decide (0 ≤ a0_0) = true := decide_eq_true c2
  clear c2
  by_cases c3 : a0_1 ≤ 1000
  ·rw [if_pos c3] at H
   have c3b0 := decide_eq_true c3
   clear c3
   obtain rfl := Option.some.inj H
   go_enter Try.func95, Try.ntmps95
   go_wp2_with (first | ((with_reducible refine gd_ 1 ?_); refine bx_ 1 73 #[.int .i64 a0_0, .int .i64 a0_1] ?_; intro gb281 hg w4 hbox hb; refine sh4_ (below_step (bl_ HB) hb) hbox (ge_ hg (bl_ HB)) (ge_ hg (bl_ HB)) ?_; clear HB hb hbox hg; intro HB BK281 GW281 GE281; have hcz5 := cf2_ BK281))
   go_ret
   exact ⟨er_, bl1_ HB GE281⟩
  ·rw [if_neg c3] at H
   have c3b0 := decide_eq_false c3
   clear c3
   obtain rfl := Option.some.inj H
   go_enter Try.func95, Try.ntmps95
   go_wp2_with (first | ((with_reducible refine gd_ 1 ?_); refine bx_ 1 73 #[.int .i64 a0_0, .int .i64 a0_1] ?_; intro gb281 hg w6 hbox hb; refine sh4_ (below_step (bl_ HB) hb) hbox (ge_ hg (bl_ HB)) (ge_ hg (bl_ HB)) ?_; clear HB hb hbox hg; intro HB BK281 GW281 GE281; have hcz7 := cf2_ BK281))
   go_ret
   exact ⟨er_, bl1_ HB GE281⟩
 ·rw [if_neg c2] at H
  have c2b0 : decide (0 ≤ a0_0) = false := decide_eq_false c2
  clear c2
  obtain rfl := Option.some.inj H
  go_enter Try.func95, Try.ntmps95
  go_wp2_with (first | ((with_reducible refine gd_ 1 ?_); refine bx_ 1 73 #[.int .i64 a0_0, .int .i64 a0_1] ?_; intro gb281 hg w8 hbox hb; refine sh4_ (below_step (bl_ HB) hb) hbox (ge_ hg (bl_ HB)) (ge_ hg (bl_ HB)) ?_; clear HB hb hbox hg; intro HB BK281 GW281 GE281; have hcz9 := cf2_ BK281))
  go_ret
  exact ⟨er_, bl1_ HB GE281⟩

/-! ### spec_l4Last: function 79 -/
def spec_l4Last.l0 : Nat → List (S73) → Int → Int → Option (Int)
 | 0, _, _, _ => none
 | k + 1, x0, x3, x4 => if x4 < (x0.length : Int) then (if 0 ≤ x4 then ((spec_IsSpan.f ((rd_T73 x0 x4).f0) ((rd_T73 x0 x4).f1)).bind fun t283 => (if t283 = true then ((spec_Max.f x3 ((rd_T73 x0 x4).f1)).bind fun t285 => (spec_l4Last.l0 k x0 t285 (wrap64 (x4 + 1)))) else (spec_l4Last.l0 k x0 x3 (wrap64 (x4 + 1))))) else (none)) else (some x3)
def spec_l4Last.f (k : Nat) (l0 : List (S73)) : Option (Int) := spec_l4Last.l0 k l0 0 0
theorem spec_l4Last.mono_l : ∀ k, (∀ y0 y1 y2, LeO (spec_l4Last.l0 k y0 y1 y2) (spec_l4Last.l0 (k + 1) y0 y1 y2))
 | 0 => fun _ _ _ r h => by simp [spec_l4Last.l0] at h
 | k + 1 => by
  have ih0 := spec_l4Last.mono_l k
  ·intro y0 y1 y2
   unfold spec_l4Last.l0
   repeat' first | (with_reducible first | exact ih0 _ _ _ | exact LeO.refl _ | exact LeO.none _ | refine LeO.ite ?_ ?_ | refine LeO.bind ?_ (fun _ => ?_)) | exact LeO.none _ | refine LeO.ite ?_ ?_ | refine LeO.bind ?_ (fun _ => ?_)
theorem spec_l4Last.mono : ∀ a0 k, LeO (spec_l4Last.f k a0) (spec_l4Last.f (k + 1) a0) := by
 intro a0 k
 have ih0 := spec_l4Last.mono_l k
 unfold spec_l4Last.f
 repeat' first | (with_reducible first | exact ih0 _ _ _ | exact LeO.refl _ | exact LeO.none _ | refine LeO.ite ?_ ?_ | refine LeO.bind ?_ (fun _ => ?_)) | exact LeO.none _ | refine LeO.ite ?_ ?_ | refine LeO.bind ?_ (fun _ => ?_)
set_option maxHeartbeats 8000000 in
set_option maxRecDepth 100000 in
theorem spec_l4Last.calls (k : Nat) (A0 : Option Addr) (c0 : Nat) (l0 : List (S73)) (r : Int) (w : World) (hr0 : Kd.C k73 w A0 l0.length l0) (hc0 : l0.length ≤ c0) (h : spec_l4Last.f k l0 = some r) :
  Calls Try.prog 79 #[.slice A0 l0.length c0] w fun e w' => e = .returned (.int .i64 r) ∧ Below w.heap.size w w' := by
 have hu73 := Try.underlying73
 have HR0 := Aside0.mk hr0
 have HC0 := Aside0.mk hc0
 clear hr0 hc0
 have HB := Aside0.mk (Below.refl w.heap.size w)
 have H := h
 clear h
 unfold spec_l4Last.f at H
 have H' := Aside0.mk H
 clear H
 go_enter Try.func79, Try.ntmps79
 go_wp2
 go_loopg [3, 4] k (fun kq v3 v4 w' => ∃ (x3_1 : Int) (x4_1 : Int), v3 = .int .i64 x3_1 ∧ v4 = .int .i64 x4_1 ∧ Aside0 (spec_l4Last.l0 kq l0 x3_1 x4_1 = some r) ∧ Aside0 (kq ≤ k) ∧ Aside0 (Below w.heap.size w w'))
 case atStart => exact ⟨(0), (0), (by first | rfl | (simp; done) | (simp [*]; done)), (by first | rfl | (simp; done) | (simp [*]; done)), H', ⟨Nat.le_refl _⟩, ⟨bl_ HB⟩⟩
 case round =>
  clear H'
  obtain ⟨x3_1, x4_1, rfl, rfl, HA, HK1, HB⟩ := hrel
  cases gk with
  | zero => exact absurd HA.out (by simp [spec_l4Last.l0])
  | succ k1 =>
   have H := HA.out
   clear HA
   simp only [spec_l4Last.l0] at H
   by_cases c2 : x4_1 < (l0.length : Int)
   ·rw [if_pos c2] at H
    have c2b0 := decide_eq_true c2
    clear c2
    replace H := ifn_ H
    obtain ⟨c3, H⟩ := H
    have c3b0 := decide_eq_true c3
    clear c3
    replace H := bs_ H
    obtain ⟨t283, A4, H⟩ := H
    by_cases c5 : t283 = true
    ·subst c5
     rw [if_pos rfl] at H
     replace H := bs_ H
     obtain ⟨t285, A6, H⟩ := H
     have H' := Aside0.mk H
     clear H
     have p282 : 0 ≤ (x4_1 : Int) := od_
     have q282 : x4_1 < (l0.length : Int) := od_
     obtain ⟨ad282, e282, hx282_0, hx282_1⟩ := at_T73 HR0.out x4_1 p282 q282
     cases e282
     replace hx282_0 := hbc_ HB hx282_0
     replace hx282_1 := hbc_ HB hx282_1
     replace p282 := eq_true p282
     replace q282 := eq_true q282
     go_wp2_with (first | ((with_reducible refine gate_callee (f := 95) rfl ?_); refine gl_ 15 Try.func95 (spec_IsSpan.calls ((rd_T73 l0 x4_1).f0) ((rd_T73 l0 x4_1).f1) true _ A4.out) ?_; rintro e w7 ⟨rfl, hb⟩; refine ⟨_, rfl, sh1_ (below_step (bl_ HB) hb) ?_⟩; clear HB hb; intro HB; have p284 : 0 ≤ (x4_1 : Int) := od_; have q284 : x4_1 < (l0.length : Int) := od_; obtain ⟨ad284, e284, hx284_0, hx284_1⟩ := at_T73 HR0.out x4_1 p284 q284; obtain rfl : ad282 = ad284 := (by injection e284); replace hx284_0 := hbc_ HB hx284_0; replace hx284_1 := hbc_ HB hx284_1; replace p284 := eq_true p284; replace q284 := eq_true q284) | ((with_reducible refine gate_callee (f := 73) rfl ?_); refine gl_ 22 Try.func73 (spec_Max.calls x3_1 ((rd_T73 l0 x4_1).f1) t285 _ A6.out) ?_; rintro e w' ⟨rfl, ⟨nd, rfl⟩⟩; refine ⟨_, rfl, ?_⟩))
     go_roundg k1
     case measure => have := HK1.out; omega
     case rel => exact ⟨(t285), (wrap64 (x4_1 + 1)), (by first | rfl | (simp; done) | (simp [*]; done)), (by first | rfl | (simp; done) | (simp [*]; done)), H', ⟨by have := HK1.out; omega⟩, ⟨bl_ HB⟩⟩
    ·replace c5 := Bool.eq_false_iff.mpr c5
     subst c5
     have H1 : (spec_l4Last.l0 k1 l0 x3_1 (wrap64 (x4_1 + 1))) = some r := by rw [if_neg (show ¬ (false = true) by decide)] at H; exact H
     clear H
     have H := H1
     clear H1
     have H' := Aside0.mk H
     clear H
     have p282 : 0 ≤ (x4_1 : Int) := od_
     have q282 : x4_1 < (l0.length : Int) := od_
     obtain ⟨ad282, e282, hx282_0, hx282_1⟩ := at_T73 HR0.out x4_1 p282 q282
     cases e282
     replace hx282_0 := hbc_ HB hx282_0
     replace hx282_1 := hbc_ HB hx282_1
     replace p282 := eq_true p282
     replace q282 := eq_true q282
     go_wp2_with (first | ((with_reducible refine gate_callee (f := 95) rfl ?_); refine gl_ 15 Try.func95 (spec_IsSpan.calls ((rd_T73 l0 x4_1).f0) ((rd_T73 l0 x4_1).f1) false _ A4.out) ?_; rintro e w8 ⟨rfl, hb⟩; refine ⟨_, rfl, sh1_ (below_step (bl_ HB) hb) ?_⟩; clear HB hb; intro HB))
     go_roundg k1
     case measure => have := HK1.out; omega
     case rel => exact ⟨(x3_1), (wrap64 (x4_1 + 1)), (by first | rfl | (simp; done) | (simp [*]; done)), (by first | rfl | (simp; done) | (simp [*]; done)), H', ⟨by have := HK1.out; omega⟩, ⟨bl_ HB⟩⟩
   ·rw [if_neg c2] at H
    have c2b0 := decide_eq_false c2
    clear c2
    obtain rfl := Option.some.inj H
    go_wp2
    go_ret
    exact ⟨er_, bl_ HB⟩

/-! ### spec_InSpan: function 100 -/
def spec_InSpan.f (a0_0 : Int) (a0_1 : Int) (a1 : Int) : Option (Bool) := (spec_IsSpan.f a0_0 a0_1).bind fun t287 => (if t287 = true then (if a0_0 ≤ a1 then (some (decide (a1 < a0_1))) else (some false)) else (some false))
set_option maxHeartbeats 8000000 in
set_option maxRecDepth 100000 in
theorem spec_InSpan.calls (a0_0 : Int) (a0_1 : Int) (a1 : Int) (r : Bool) (w : World) (h : spec_InSpan.f a0_0 a0_1 a1 = some r) :
  Calls Try.prog 100 #[.agg #[.int .i64 a0_0, .int .i64 a0_1], .int .i64 a1] w fun e w' => e = .returned (.bool r) ∧ Below w.heap.size w w' := by
 have hu73 := Try.underlying73
 have HB := Aside0.mk (Below.refl w.heap.size w)
 have H := h
 clear h
 unfold spec_InSpan.f at H
 replace H := bs_ H
 obtain ⟨t287, A3, H⟩ := H
 by_cases c4 : t287 = true
 ·subst c4
  rw [if_pos rfl] at H
  by_cases c5 : a0_0 ≤ a1
  ·rw [if_pos c5] at H
   have c5b0 := decide_eq_true c5
   clear c5
   obtain rfl := Option.some.inj H
   go_enter Try.func100, Try.ntmps100
   go_wp2_with (first | ((with_reducible refine gd_ 2 ?_); refine bx_ 2 73 #[.int .i64 a0_0, .int .i64 a0_1] ?_; intro gb286 hg w6 hbox hb; refine sh4_ (below_step (bl_ HB) hb) hbox (ge_ hg (bl_ HB)) (ge_ hg (bl_ HB)) ?_; clear HB hb hbox hg; intro HB BK286 GW286 GE286; have hcz7 := cf2_ BK286) | ((with_reducible refine gate_callee (f := 95) rfl ?_); refine gl_ 6 Try.func95 (spec_IsSpan.calls a0_0 a0_1 true _ A3.out) ?_; rintro e w8 ⟨rfl, hb⟩; refine ⟨_, rfl, sh2_ (blk_below (bk_ BK286) hb) (below_step (bl1_ HB GE286) hb) ?_⟩; clear BK286 HB hb; intro BK286 HB; have hcz9 := cf2_ BK286))
   go_ret
   exact ⟨er_, bl1_ HB GE286⟩
  ·rw [if_neg c5] at H
   have c5b0 := decide_eq_false c5
   clear c5
   obtain rfl := Option.some.inj H
   go_enter Try.func100, Try.ntmps100
   go_wp2_with (first | ((with_reducible refine gd_ 2 ?_); refine bx_ 2 73 #[.int .i64 a0_0, .int .i64 a0_1] ?_; intro gb286 hg w10 hbox hb; refine sh4_ (below_step (bl_ HB) hb) hbox (ge_ hg (bl_ HB)) (ge_ hg (bl_ HB)) ?_; clear HB hb hbox hg; intro HB BK286 GW286 GE286; have hcz11 := cf2_ BK286) | ((with_reducible refine gate_callee (f := 95) rfl ?_); refine gl_ 6 Try.func95 (spec_IsSpan.calls a0_0 a0_1 true _ A3.out) ?_; rintro e w12 ⟨rfl, hb⟩; refine ⟨_, rfl, sh2_ (blk_below (bk_ BK286) hb) (below_step (bl1_ HB GE286) hb) ?_⟩; clear BK286 HB hb; intro BK286 HB; have hcz13 := cf2_ BK286))
   go_ret
   exact ⟨er_, bl1_ HB GE286⟩
 ·replace c4 := Bool.eq_false_iff.mpr c4
  subst c4
  have H1 : (some false) = some r := by rw [if_neg (show ¬ (false = true) by decide)] at H; exact H
  clear H
  have H := H1
  clear H1
  obtain rfl := Option.some.inj H
  go_enter Try.func100, Try.ntmps100
  go_wp2_with (first | ((with_reducible refine gd_ 2 ?_); refine bx_ 2 73 #[.int .i64 a0_0, .int .i64 a0_1] ?_; intro gb286 hg w14 hbox hb; refine sh4_ (below_step (bl_ HB) hb) hbox (ge_ hg (bl_ HB)) (ge_ hg (bl_ HB)) ?_; clear HB hb hbox hg; intro HB BK286 GW286 GE286; have hcz15 := cf2_ BK286) | ((with_reducible refine gate_callee (f := 95) rfl ?_); refine gl_ 6 Try.func95 (spec_IsSpan.calls a0_0 a0_1 false _ A3.out) ?_; rintro e w16 ⟨rfl, hb⟩; refine ⟨_, rfl, sh2_ (blk_below (bk_ BK286) hb) (below_step (bl1_ HB GE286) hb) ?_⟩; clear BK286 HB hb; intro BK286 HB))
  go_ret
  exact ⟨er_, bl1_ HB GE286⟩

/-! ### spec_InSpans: function 80 -/
def spec_InSpans.l0 : Nat → List (S73) → Int → Int → Option (Bool)
 | 0, _, _, _ => none
 | k + 1, x0, x1, x5 => if x5 < (x0.length : Int) then (if 0 ≤ x5 then ((spec_InSpan.f ((rd_T73 x0 x5).f0) ((rd_T73 x0 x5).f1) x1).bind fun t289 => (if t289 = true then (some true) else (spec_InSpans.l0 k x0 x1 (wrap64 (x5 + 1))))) else (none)) else (some false)
def spec_InSpans.f (k : Nat) (l0 : List (S73)) (a1 : Int) : Option (Bool) := spec_InSpans.l0 k l0 a1 0
theorem spec_InSpans.mono_l : ∀ k, (∀ y0 y1 y2, LeO (spec_InSpans.l0 k y0 y1 y2) (spec_InSpans.l0 (k + 1) y0 y1 y2))
 | 0 => fun _ _ _ r h => by simp [spec_InSpans.l0] at h
 | k + 1 => by
  have ih0 := spec_InSpans.mono_l k
  ·intro y0 y1 y2
   unfold spec_InSpans.l0
   repeat' first | (with_reducible first | exact ih0 _ _ _ | exact LeO.refl _ | exact LeO.none _ | refine LeO.ite ?_ ?_ | refine LeO.bind ?_ (fun _ => ?_)) | exact LeO.none _ | refine LeO.ite ?_ ?_ | refine LeO.bind ?_ (fun _ => ?_)
theorem spec_InSpans.mono : ∀ a0 a1 k, LeO (spec_InSpans.f k a0 a1) (spec_InSpans.f (k + 1) a0 a1) := by
 intro a0 a1 k
 have ih0 := spec_InSpans.mono_l k
 unfold spec_InSpans.f
 repeat' first | (with_reducible first | exact ih0 _ _ _ | exact LeO.refl _ | exact LeO.none _ | refine LeO.ite ?_ ?_ | refine LeO.bind ?_ (fun _ => ?_)) | exact LeO.none _ | refine LeO.ite ?_ ?_ | refine LeO.bind ?_ (fun _ => ?_)
set_option maxHeartbeats 8000000 in
set_option maxRecDepth 100000 in
theorem spec_InSpans.calls (k : Nat) (A0 : Option Addr) (c0 : Nat) (l0 : List (S73)) (a1 : Int) (r : Bool) (w : World) (hr0 : Kd.C k73 w A0 l0.length l0) (hc0 : l0.length ≤ c0) (h : spec_InSpans.f k l0 a1 = some r) :
  Calls Try.prog 80 #[.slice A0 l0.length c0, .int .i64 a1] w fun e w' => e = .returned (.bool r) ∧ Below w.heap.size w w' := by
 have hu73 := Try.underlying73
 have HR0 := Aside0.mk hr0
 have HC0 := Aside0.mk hc0
 clear hr0 hc0
 have HB := Aside0.mk (Below.refl w.heap.size w)
 have H := h
 clear h
 unfold spec_InSpans.f at H
 have H' := Aside0.mk H
 clear H
 go_enter Try.func80, Try.ntmps80
 go_wp2
 go_loopg [5] k (fun kq v5 w' => ∃ (x5_1 : Int), v5 = .int .i64 x5_1 ∧ Aside0 (spec_InSpans.l0 kq l0 a1 x5_1 = some r) ∧ Aside0 (kq ≤ k) ∧ Aside0 (Below w.heap.size w w'))
 case atStart => exact ⟨(0), (by first | rfl | (simp; done) | (simp [*]; done)), H', ⟨Nat.le_refl _⟩, ⟨bl_ HB⟩⟩
 case round =>
  clear H'
  try clear p2
  obtain ⟨x5_1, rfl, HA, HK1, HB⟩ := hrel
  cases gk with
  | zero => exact absurd HA.out (by simp [spec_InSpans.l0])
  | succ k1 =>
   have H := HA.out
   clear HA
   simp only [spec_InSpans.l0] at H
   by_cases c3 : x5_1 < (l0.length : Int)
   ·rw [if_pos c3] at H
    have c3b0 := decide_eq_true c3
    clear c3
    replace H := ifn_ H
    obtain ⟨c4, H⟩ := H
    have c4b0 := decide_eq_true c4
    clear c4
    replace H := bs_ H
    obtain ⟨t289, A5, H⟩ := H
    by_cases c6 : t289 = true
    ·subst c6
     rw [if_pos rfl] at H
     obtain rfl := Option.some.inj H
     have p288 : 0 ≤ (x5_1 : Int) := od_
     have q288 : x5_1 < (l0.length : Int) := od_
     obtain ⟨ad288, e288, hx288_0, hx288_1⟩ := at_T73 HR0.out x5_1 p288 q288
     cases e288
     replace hx288_0 := hbc_ HB hx288_0
     replace hx288_1 := hbc_ HB hx288_1
     replace p288 := eq_true p288
     replace q288 := eq_true q288
     go_wp2_with (first | ((with_reducible refine gate_callee (f := 100) rfl ?_); refine gl_ 17 Try.func100 (spec_InSpan.calls ((rd_T73 l0 x5_1).f0) ((rd_T73 l0 x5_1).f1) a1 true _ A5.out) ?_; rintro e w7 ⟨rfl, hb⟩; refine ⟨_, rfl, sh1_ (below_step (bl_ HB) hb) ?_⟩; clear HB hb; intro HB))
     go_ret
     exact ⟨er_, bl_ HB⟩
    ·replace c6 := Bool.eq_false_iff.mpr c6
     subst c6
     have H1 : (spec_InSpans.l0 k1 l0 a1 (wrap64 (x5_1 + 1))) = some r := by rw [if_neg (show ¬ (false = true) by decide)] at H; exact H
     clear H
     have H := H1
     clear H1
     have H' := Aside0.mk H
     clear H
     have p288 : 0 ≤ (x5_1 : Int) := od_
     have q288 : x5_1 < (l0.length : Int) := od_
     obtain ⟨ad288, e288, hx288_0, hx288_1⟩ := at_T73 HR0.out x5_1 p288 q288
     cases e288
     replace hx288_0 := hbc_ HB hx288_0
     replace hx288_1 := hbc_ HB hx288_1
     replace p288 := eq_true p288
     replace q288 := eq_true q288
     go_wp2_with (first | ((with_reducible refine gate_callee (f := 100) rfl ?_); refine gl_ 17 Try.func100 (spec_InSpan.calls ((rd_T73 l0 x5_1).f0) ((rd_T73 l0 x5_1).f1) a1 false _ A5.out) ?_; rintro e w8 ⟨rfl, hb⟩; refine ⟨_, rfl, sh1_ (below_step (bl_ HB) hb) ?_⟩; clear HB hb; intro HB))
     go_roundg k1
     case measure => have := HK1.out; omega
     case rel => exact ⟨(wrap64 (x5_1 + 1)), (by first | rfl | (simp; done) | (simp [*]; done)), H', ⟨by have := HK1.out; omega⟩, ⟨bl_ HB⟩⟩
   ·rw [if_neg c3] at H
    have c3b0 := decide_eq_false c3
    clear c3
    obtain rfl := Option.some.inj H
    go_wp2
    go_ret
    exact ⟨er_, bl_ HB⟩

/-! ### spec_JoinSpans: function 93 -/
def spec_JoinSpans.l0 : Nat → List (S73) → List (S73) → Int → Int → Option ((List (S73)))
 | 0, _, _, _, _ => none
 | k + 1, x0, x3, x4, x5 => if x5 < x4 then ((spec_InSpans.f k x0 x5).bind fun t294 => (if t294 = true then ((spec_l4Put.f x3 x5).bind fun t295 => (spec_JoinSpans.l0 k x0 t295 x4 (wrap64 (x5 + 1)))) else (spec_JoinSpans.l0 k x0 x3 x4 (wrap64 (x5 + 1))))) else (some x3)
def spec_JoinSpans.f (k : Nat) (l0 : List (S73)) : Option ((List (S73))) := (spec_l4Last.f k l0).bind fun t293 => (spec_JoinSpans.l0 k l0 (([] : List (S73))) t293 0)
theorem spec_JoinSpans.mono_l : ∀ k, (∀ y0 y1 y2 y3, LeO (spec_JoinSpans.l0 k y0 y1 y2 y3) (spec_JoinSpans.l0 (k + 1) y0 y1 y2 y3))
 | 0 => fun _ _ _ _ r h => by simp [spec_JoinSpans.l0] at h
 | k + 1 => by
  have ih0 := spec_JoinSpans.mono_l k
  ·intro y0 y1 y2 y3
   unfold spec_JoinSpans.l0
   repeat' first | (with_reducible first | exact ih0 _ _ _ _ | exact spec_InSpans.mono _ _ _ | exact spec_l4Last.mono _ _ | exact LeO.refl _ | exact LeO.none _ | refine LeO.ite ?_ ?_ | refine LeO.bind ?_ (fun _ => ?_)) | exact LeO.none _ | refine LeO.ite ?_ ?_ | refine LeO.bind ?_ (fun _ => ?_)
theorem spec_JoinSpans.mono : ∀ a0 k, LeO (spec_JoinSpans.f k a0) (spec_JoinSpans.f (k + 1) a0) := by
 intro a0 k
 have ih0 := spec_JoinSpans.mono_l k
 unfold spec_JoinSpans.f
 repeat' first | (with_reducible first | exact ih0 _ _ _ _ | exact spec_InSpans.mono _ _ _ | exact spec_l4Last.mono _ _ | exact LeO.refl _ | exact LeO.none _ | refine LeO.ite ?_ ?_ | refine LeO.bind ?_ (fun _ => ?_)) | exact LeO.none _ | refine LeO.ite ?_ ?_ | refine LeO.bind ?_ (fun _ => ?_)
set_option maxHeartbeats 8000000 in
set_option maxRecDepth 100000 in
theorem spec_JoinSpans.calls (k : Nat) (A0 : Option Addr) (c0 : Nat) (l0 : List (S73)) (r : List (S73)) (w : World) (hr0 : Kd.C k73 w A0 l0.length l0) (hc0 : l0.length ≤ c0) (h : spec_JoinSpans.f k l0 = some r) :
  Calls Try.prog 93 #[.slice A0 l0.length c0] w fun e w' => ∃ v0_ : Value, e = .returned (v0_) ∧ Kd.R k73 73 w' w.heap.size (fun _ => True) v0_ r ∧ Below w.heap.size w w' := by
 have HR0 := Aside0.mk hr0
 have HC0 := Aside0.mk hc0
 clear hr0 hc0
 have HB := Aside0.mk (Below.refl w.heap.size w)
 have H := h
 clear h
 unfold spec_JoinSpans.f at H
 replace H : ∃ y_ : List (S73), Aside0 (y_ = (([] : List (S73)))) ∧ ((spec_l4Last.f k l0).bind fun t293 => (spec_JoinSpans.l0 k l0 y_ t293 0)) = some r := ⟨_, ⟨rfl⟩, yh_ H⟩
 obtain ⟨y290, Ny290, H⟩ := H
 replace H := bs_ H
 obtain ⟨t293, A2, H⟩ := H
 have H' := Aside0.mk H
 clear H
 go_enter Try.func93, Try.ntmps93
 go_wp2_with (first | ((with_reducible refine gate_dst (N := 6) rfl ?_); refine Kd.R_lit k73 _ 73 ?hg (N := 6) ?hd (xs := ([] : List (S73))) (inner := []) (ok := fun _ => True) (okp := fun _ => True) ?hr ?hp (fun _ hk => hk) trivial (Below.refl _ _) (Nat.le_refl _) (by simp) ?_; (case hd => rfl); (case hg => rfl); (case hr => first | (go_simp; done) | (go_simp; rfl)); (case hp => exact (Reps.none _ _)); intro v291 w3 ho4 hb hg_ hnew_; clear hg_ hnew_; (first | rw [← Ny290.out] at ho4 | (simp only [Int.reduceToNat] at ho4; rw [← Ny290.out] at ho4)); refine sh2_ (Kd.R_lower ho4 (below_size (bl_ HB))) (below_step (bl_ HB) hb) ?_; clear HB hb ho4; intro HO292 HB) | ((with_reducible refine gate_callee (f := 79) rfl ?_); refine gl_ 8 Try.func79 (spec_l4Last.calls k _ _ l0 t293 _ (ck_ HR0 HB) HC0.out A2.out) ?_; rintro e w5 ⟨rfl, hb⟩; refine ⟨_, rfl, sh2_ (Kd.R_below (ra_ HO292) hb) (below_step (bl_ HB) hb) ?_⟩; clear HO292 HB hb; intro HO292 HB))
 go_loopg [3, 5] k (fun kq v3 v5 w' => ∃ (x3_1 : List (S73)) (x5_1 : Int), v5 = .int .i64 x5_1 ∧ Aside0 (spec_JoinSpans.l0 kq l0 x3_1 t293 x5_1 = some r) ∧ Aside0 (kq ≤ k) ∧ Aside0 (Kd.R k73 73 w' w.heap.size (fun _ => True) v3 x3_1) ∧ Aside0 (Below w.heap.size w w'))
 case atStart => exact ⟨(y290), (0), (by first | rfl | (simp; done) | (simp [*]; done)), H', ⟨Nat.le_refl _⟩, ⟨ra_ HO292⟩, ⟨bl_ HB⟩⟩
 case round =>
  clear H'
  try clear p2
  obtain ⟨x3_1, x5_1, rfl, HA, HK1, HO_3, HB⟩ := hrel
  cases gk with
  | zero => exact absurd HA.out (by simp [spec_JoinSpans.l0])
  | succ k1 =>
   have H := HA.out
   clear HA
   simp only [spec_JoinSpans.l0] at H
   by_cases c6 : x5_1 < t293
   ·rw [if_pos c6] at H
    have c6b0 := decide_eq_true c6
    clear c6
    replace H := bs_ H
    obtain ⟨t294, A7, H⟩ := H
    by_cases c8 : t294 = true
    ·subst c8
     rw [if_pos rfl] at H
     replace H := bs_ H
     obtain ⟨t295, A9, H⟩ := H
     have H' := Aside0.mk H
     clear H
     go_wp2_with (first | ((with_reducible refine gate_callee (f := 80) rfl ?_); refine gl_ 16 Try.func80 (spec_InSpans.calls k1 _ _ l0 x5_1 true _ (ck_ HR0 HB) HC0.out A7.out) ?_; rintro e w10 ⟨rfl, hb⟩; refine ⟨_, rfl, sh2_ (Kd.R_below (ra_ HO_3) hb) (below_step (bl_ HB) hb) ?_⟩; clear HO_3 HB hb; intro HO_3 HB; obtain ⟨Ao11, co11, eo11⟩ := Kd.R_slice HO_3.out; subst eo11) | ((with_reducible refine gate_callee (f := 77) rfl ?_); refine goesL_ (some 19) rfl rfl Try.func77 (by kernel_rfl) rfl #[.slice Ao11 x3_1.length co11, .int .i64 x5_1] rfl mp_ ?_; (with_reducible refine (spec_l4Put.calls (fun k_ => some k_ = (.slice Ao11 x3_1.length co11 : Value).ownBlock) (.slice Ao11 x3_1.length co11) x3_1 x5_1 t295 w _ ?side1 ?side2 A9.out).mono ?_); (case side1 => repeat (first | (with_reducible first | exact HB.out | apply below_alloc | apply pw_below_drewN | apply below_drew1) | exact HB.out)); (case side2 => exact Kd.R_tight rfl HO_3.out); rintro e w12 ⟨v296, rfl, ho0, hb, hkp⟩; refine ⟨_, rfl, sh2_ (Kd.R_mono (ok' := fun k_ => True) ho0 (fun k_ hk_ => trivial)) hb ?_⟩; clear HB HO_3 hb hkp ho0; intro HO297 HB))
     go_roundg k1
     case measure => have := HK1.out; omega
     case rel => exact ⟨(t295), (wrap64 (x5_1 + 1)), (by first | rfl | (simp; done) | (simp [*]; done)), H', ⟨by have := HK1.out; omega⟩, ⟨ra_ HO297⟩, ⟨bl_ HB⟩⟩
    ·replace c8 := Bool.eq_false_iff.mpr c8
     subst c8
     have H1 : (spec_JoinSpans.l0 k1 l0 x3_1 t293 (wrap64 (x5_1 + 1))) = some r := by rw [if_neg (show ¬ (false = true) by decide)] at H; exact H
     clear H
     have H := H1
     clear H1
     have H' := Aside0.mk H
     clear H
     go_wp2_with (first | ((with_reducible refine gate_callee (f := 80) rfl ?_); refine gl_ 16 Try.func80 (spec_InSpans.calls k1 _ _ l0 x5_1 false _ (ck_ HR0 HB) HC0.out A7.out) ?_; rintro e w13 ⟨rfl, hb⟩; refine ⟨_, rfl, sh2_ (Kd.R_below (ra_ HO_3) hb) (below_step (bl_ HB) hb) ?_⟩; clear HO_3 HB hb; intro HO_3 HB))
     go_roundg k1
     case measure => have := HK1.out; omega
     case rel => exact ⟨(x3_1), (wrap64 (x5_1 + 1)), (by first | rfl | (simp; done) | (simp [*]; done)), H', ⟨by have := HK1.out; omega⟩, ⟨ra_ HO_3⟩, ⟨bl_ HB⟩⟩
   ·rw [if_neg c6] at H
    have c6b0 := decide_eq_false c6
    clear c6
    obtain rfl := Option.some.inj H
    go_wp2
    go_ret
    exact ⟨_, er_, ra_ HO_3, bl_ HB⟩

end Go.Proofs.Ytcjfalmhohcifaa.PFnExactSureShare
