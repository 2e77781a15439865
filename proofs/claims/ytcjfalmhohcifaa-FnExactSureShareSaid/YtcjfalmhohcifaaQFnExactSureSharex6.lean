-- Written by a program of this session for this claim (the kit's printer with changes).
import Derived.Test.YtcjfalmhohcifaaQFnExactSureSharex0
import Derived.Test.YtcjfalmhohcifaaQFnExactSureSharex5
namespace Go.Proofs.Ytcjfalmhohcifaa.PFnExactSureShare
open Go.RowKit Go.Proofs.YtcjfalmhohcifaaW.PrintWords Go.Proofs.YtcjfalmhohcifaaW.PrintLast Go.Proofs.YtcjfalmhohcifaaW.PrintMore
attribute [local go_sem] max2_int min2_int max_two min_two max_three min_three max_four min_four   -- for this text's walks alone
set_option linter.unusedVariables false
set_option linter.unusedSimpArgs false

/-! ### impl_NodeAt: function 106 -/
def impl_NodeAt.f (a0_0 : Int) (l0_1 : List (S105)) (l0_2 : List (S109)) (a0_3 : Int) (a0_4 : Int) (a0_5 : Int) (a0_6 : Int) (a0_7 : Int) (l0_8 : List (S115)) (a0_9 : Int) (a1 : Int) (a2 : Int) : Option (Int × Int) := (impl_isSatellite.f a0_0 l0_1 l0_2 a0_3 a0_4 a0_5 a0_6 a0_7 l0_8 a0_9 a1).bind fun t356 => (if t356 = true then (if 0 ≤ a1 then (if a1 < (l0_1.length : Int) then ((impl_PlacesAt.f ((rd_T105 l0_1 a1).f0) ((rd_T105 l0_1 a1).f1) ((rd_T105 l0_1 a1).f2) ((rd_T105 l0_1 a1).f3) a2).bind fun bt358 => (some (bt358.1, bt358.2))) else (none)) else (none)) else ((impl_IsSite.f a0_0 l0_1 l0_2 a0_3 a0_4 a0_5 a0_6 a0_7 l0_8 a0_9 a1).bind fun t360 => (if t360 = true then (if 0 ≤ (wrap64 (a1 - (l0_1.length : Int))) then (if (wrap64 (a1 - (l0_1.length : Int))) < (l0_2.length : Int) then ((impl_PlaceAt.f 0 ((rd_T109 l0_2 (wrap64 (a1 - (l0_1.length : Int)))).f1) ((rd_T109 l0_2 (wrap64 (a1 - (l0_1.length : Int)))).f2) 0 a2).bind fun t363 => (some (t363, 0))) else (none)) else (none)) else (some (0, 0)))))
set_option maxHeartbeats 8000000 in
set_option maxRecDepth 100000 in
theorem impl_NodeAt.calls (a0_0 : Int) (A0_1 : Option Addr) (c0_1 : Nat) (l0_1 : List (S105)) (A0_2 : Option Addr) (c0_2 : Nat) (l0_2 : List (S109)) (a0_3 : Int) (a0_4 : Int) (a0_5 : Int) (a0_6 : Int) (a0_7 : Int) (A0_8 : Option Addr) (c0_8 : Nat) (l0_8 : List (S115)) (a0_9 : Int) (a1 : Int) (a2 : Int) (r1 : Int) (r2 : Int) (w : World) (hr0_1 : Kd.C k105 w A0_1 l0_1.length l0_1) (hc0_1 : l0_1.length ≤ c0_1) (hr0_2 : Kd.C k109 w A0_2 l0_2.length l0_2) (hc0_2 : l0_2.length ≤ c0_2) (hr0_8 : Kd.C k115 w A0_8 l0_8.length l0_8) (hc0_8 : l0_8.length ≤ c0_8) (h : impl_NodeAt.f a0_0 l0_1 l0_2 a0_3 a0_4 a0_5 a0_6 a0_7 l0_8 a0_9 a1 a2 = some (r1, r2)) :
  Calls Try.prog 106 #[.agg #[.int .i64 a0_0, .slice A0_1 l0_1.length c0_1, .slice A0_2 l0_2.length c0_2, .int .i64 a0_3, .int .i64 a0_4, .int .i64 a0_5, .int .i64 a0_6, .int .i64 a0_7, .slice A0_8 l0_8.length c0_8, .int .i64 a0_9], .int .i64 a1, .int .i64 a2] w fun e w' => e = .returned (.agg #[.int .i64 r1, .int .i64 r2]) ∧ Below w.heap.size w w' := by
 have hu34 := Try.underlying34
 have hu113 := Try.underlying113
 have hu105 := Try.underlying105
 have hu109 := Try.underlying109
 have HR0_1 := Aside0.mk hr0_1
 have HC0_1 := Aside0.mk hc0_1
 clear hr0_1 hc0_1
 have HR0_2 := Aside0.mk hr0_2
 have HC0_2 := Aside0.mk hc0_2
 clear hr0_2 hc0_2
 have HR0_8 := Aside0.mk hr0_8
 have HC0_8 := Aside0.mk hc0_8
 clear hr0_8 hc0_8
 have HB := Aside0.mk (Below.refl w.heap.size w)
 have H := h
 clear h
 unfold impl_NodeAt.f at H
 replace H := bs_ H
 obtain ⟨t356, A4, H⟩ := H
 by_cases c5 : t356 = true
 ·subst c5
  have H1 : (if 0 ≤ a1 then (if a1 < (l0_1.length : Int) then ((impl_PlacesAt.f ((rd_T105 l0_1 a1).f0) ((rd_T105 l0_1 a1).f1) ((rd_T105 l0_1 a1).f2) ((rd_T105 l0_1 a1).f3) a2).bind fun bt358 => (some (bt358.1, bt358.2))) else (none)) else (none)) = some (r1, r2) := by rw [if_pos rfl] at H; exact H
  clear H
  have H := H1
  clear H1
  replace H := ifn_ H
  obtain ⟨c6, H⟩ := H
  have c6b0 := decide_eq_true c6
  clear c6
  replace H := ifn_ H
  obtain ⟨c7, H⟩ := H
  have c7b0 := decide_eq_true c7
  clear c7
  replace H := bs_ H
  obtain ⟨⟨t358, t359⟩, A8, H⟩ := H
  dsimp only at H
  simp only [Option.some.injEq, Prod.mk.injEq] at H
  obtain ⟨rfl, rfl⟩ := H
  go_enter Try.func106, Try.ntmps106
  go_wp2_with (first | ((with_reducible refine gd_ 3 ?_); refine bx_ 3 34 #[.int .i64 a0_0, .slice A0_1 l0_1.length c0_1, .slice A0_2 l0_2.length c0_2, .int .i64 a0_3, .int .i64 a0_4, .int .i64 a0_5, .int .i64 a0_6, .int .i64 a0_7, .slice A0_8 l0_8.length c0_8, .int .i64 a0_9] ?_; intro gb354 hg w9 hbox hb; refine sh4_ (below_step (bl_ HB) hb) hbox (ge_ hg (bl_ HB)) (ge_ hg (bl_ HB)) ?_; clear HB hb hbox hg; intro HB BK354 GW354 GE354) | ((with_reducible refine gd_ 6 ?_); refine bx_ 6 113 #[.int .i64 0, .int .i64 0] ?_; intro gb355 hg w10 hbox hb; refine sh7_ (blk_below (bk_ BK354) hb) (below_step (bl1_ HB GE354) hb) hbox (ge_ hg (bl1_ HB GE354)) (ge_ hg (bl1_ HB GE354)) (nl_ hg (bk_ BK354)) (ng_ hg (bk_ BK354)) ?_; clear BK354 HB hb hbox hg; intro BK354 HB BK355 GW355 GE355 NB354_355 NB355_354; have hnb11 := NB354_355.out; have hnc11 := NB355_354.out; have hcz12 := cf10_ BK354) | ((with_reducible refine gate_callee (f := 105) rfl ?_); refine gl_ 11 Try.func105 (impl_isSatellite.calls a0_0 _ _ l0_1 _ _ l0_2 a0_3 a0_4 a0_5 a0_6 a0_7 _ _ l0_8 a0_9 a1 true _ (ck_ HR0_1 HB) HC0_1.out (ck_ HR0_2 HB) HC0_2.out (ck_ HR0_8 HB) HC0_8.out A4.out) ?_; rintro e w13 ⟨rfl, hb⟩; refine ⟨_, rfl, sh3_ (blk_below (bk_ BK354) hb) (blk_below (bk_ BK355) hb) (below_step (bl2_ HB GE354 GE355) hb) ?_⟩; clear BK354 BK355 HB hb; intro BK354 BK355 HB; have hcz14 := cf10_ BK354; have p357 : 0 ≤ (a1 : Int) := od_; have q357 : a1 < (l0_1.length : Int) := od_; obtain ⟨ad357, e357, hx357_0, hx357_1, hx357_2, hx357_3⟩ := at_T105 HR0_1.out a1 p357 q357; cases e357; replace hx357_0 := hbc_ HB hx357_0; replace hx357_1 := hbc_ HB hx357_1; replace hx357_2 := hbc_ HB hx357_2; replace hx357_3 := hbc_ HB hx357_3; replace p357 := eq_true p357; replace q357 := eq_true q357) | ((with_reducible refine gate_callee (f := 121) rfl ?_); refine gl_ 18 Try.func121 (impl_PlacesAt.calls ((rd_T105 l0_1 a1).f0) ((rd_T105 l0_1 a1).f1) ((rd_T105 l0_1 a1).f2) ((rd_T105 l0_1 a1).f3) a2 t358 t359 _ A8.out) ?_; rintro e w15 ⟨rfl, hb⟩; refine ⟨_, rfl, sh3_ (blk_below (bk_ BK354) hb) (blk_below (bk_ BK355) hb) (below_step (bl2_ HB GE354 GE355) hb) ?_⟩; clear BK354 BK355 HB hb; intro BK354 BK355 HB; have hcz16 := cf2_ BK355))
  refine bodyPost_ret (results_cell_row rfl _ _ gb355 113 #[.int .i64 t358, .int .i64 t359] (0, 0) _ rfl (by (with_reducible repeat (first | refine blk_drewN ?_ _ | refine blk_drew ?_ | refine blk_alloc ?_ _)); refine blk_put (cs := #[.int .i64 t358, .int .i64 0]) ?_ 1 _ rfl; (with_reducible repeat (first | refine blk_drewN ?_ _ | refine blk_drew ?_ | refine blk_alloc ?_ _)); refine blk_put (cs := #[.int .i64 0, .int .i64 0]) ?_ 0 _ rfl; (with_reducible repeat (first | refine blk_drewN ?_ _ | refine blk_drew ?_ | refine blk_alloc ?_ _)); exact BK355.out) Try.underlying113 rfl (by kernel_rfl)) rfl ?_
  exact ⟨er_, bl2_ HB GE354 GE355⟩
 ·replace c5 := Bool.eq_false_iff.mpr c5
  subst c5
  have H1 : ((impl_IsSite.f a0_0 l0_1 l0_2 a0_3 a0_4 a0_5 a0_6 a0_7 l0_8 a0_9 a1).bind fun t360 => (if t360 = true then (if 0 ≤ (wrap64 (a1 - (l0_1.length : Int))) then (if (wrap64 (a1 - (l0_1.length : Int))) < (l0_2.length : Int) then ((impl_PlaceAt.f 0 ((rd_T109 l0_2 (wrap64 (a1 - (l0_1.length : Int)))).f1) ((rd_T109 l0_2 (wrap64 (a1 - (l0_1.length : Int)))).f2) 0 a2).bind fun t363 => (some (t363, 0))) else (none)) else (none)) else (some (0, 0)))) = some (r1, r2) := by rw [if_neg (show ¬ (false = true) by decide)] at H; exact H
  clear H
  have H := H1
  clear H1
  replace H := bs_ H
  obtain ⟨t360, A17, H⟩ := H
  by_cases c18 : t360 = true
  ·subst c18
   have H1 : (if 0 ≤ (wrap64 (a1 - (l0_1.length : Int))) then (if (wrap64 (a1 - (l0_1.length : Int))) < (l0_2.length : Int) then ((impl_PlaceAt.f 0 ((rd_T109 l0_2 (wrap64 (a1 - (l0_1.length : Int)))).f1) ((rd_T109 l0_2 (wrap64 (a1 - (l0_1.length : Int)))).f2) 0 a2).bind fun t363 => (some (t363, 0))) else (none)) else (none)) = some (r1, r2) := by rw [if_pos rfl] at H; exact H
   clear H
   have H := H1
   clear H1
   obtain ⟨ji19, hji19⟩ : ∃ j_ : Int, (wrap64 (a1 - (l0_1.length : Int))) = j_ := ⟨_, rfl⟩
   replace H : (if 0 ≤ (ji19) then (if (ji19) < (l0_2.length : Int) then ((impl_PlaceAt.f 0 ((rd_T109 l0_2 (ji19)).f1) ((rd_T109 l0_2 (ji19)).f2) 0 a2).bind fun t363 => (some (t363, 0))) else (none)) else (none)) = some (r1, r2) := by first | (rw [hji19] at H; exact H) | (simp only [hji19] at H ⊢; exact H)
   (try rw [hji19] at A4)
   (try rw [hji19] at A17)
   have hji19w : (IntKind.i64.wrap (a1 - (l0_1.length : Int))) = ji19 := (i64_w _).trans hji19
   replace H := ifn_ H
   obtain ⟨c20, H⟩ := H
   have c20b0 := decide_eq_true c20
   clear c20
   replace H := ifn_ H
   obtain ⟨c21, H⟩ := H
   have c21b0 := decide_eq_true c21
   clear c21
   replace H := bs_ H
   obtain ⟨t363, A22, H⟩ := H
   simp only [Option.some.injEq, Prod.mk.injEq] at H
   obtain ⟨rfl, rfl⟩ := H
   go_enter Try.func106, Try.ntmps106
   go_wp2_with (first | ((with_reducible refine gd_ 3 ?_); refine bx_ 3 34 #[.int .i64 a0_0, .slice A0_1 l0_1.length c0_1, .slice A0_2 l0_2.length c0_2, .int .i64 a0_3, .int .i64 a0_4, .int .i64 a0_5, .int .i64 a0_6, .int .i64 a0_7, .slice A0_8 l0_8.length c0_8, .int .i64 a0_9] ?_; intro gb354 hg w23 hbox hb; refine sh4_ (below_step (bl_ HB) hb) hbox (ge_ hg (bl_ HB)) (ge_ hg (bl_ HB)) ?_; clear HB hb hbox hg; intro HB BK354 GW354 GE354) | ((with_reducible refine gd_ 6 ?_); refine bx_ 6 113 #[.int .i64 0, .int .i64 0] ?_; intro gb355 hg w24 hbox hb; refine sh7_ (blk_below (bk_ BK354) hb) (below_step (bl1_ HB GE354) hb) hbox (ge_ hg (bl1_ HB GE354)) (ge_ hg (bl1_ HB GE354)) (nl_ hg (bk_ BK354)) (ng_ hg (bk_ BK354)) ?_; clear BK354 HB hb hbox hg; intro BK354 HB BK355 GW355 GE355 NB354_355 NB355_354; have hnb25 := NB354_355.out; have hnc25 := NB355_354.out; have hcz26 := cf10_ BK354) | ((with_reducible refine gate_callee (f := 105) rfl ?_); refine gl_ 11 Try.func105 (impl_isSatellite.calls a0_0 _ _ l0_1 _ _ l0_2 a0_3 a0_4 a0_5 a0_6 a0_7 _ _ l0_8 a0_9 a1 false _ (ck_ HR0_1 HB) HC0_1.out (ck_ HR0_2 HB) HC0_2.out (ck_ HR0_8 HB) HC0_8.out A4.out) ?_; rintro e w27 ⟨rfl, hb⟩; refine ⟨_, rfl, sh3_ (blk_below (bk_ BK354) hb) (blk_below (bk_ BK355) hb) (below_step (bl2_ HB GE354 GE355) hb) ?_⟩; clear BK354 BK355 HB hb; intro BK354 BK355 HB; have hcz28 := cf10_ BK354) | ((with_reducible refine gate_callee (f := 122) rfl ?_); refine gl_ 22 Try.func122 (impl_IsSite.calls a0_0 _ _ l0_1 _ _ l0_2 a0_3 a0_4 a0_5 a0_6 a0_7 _ _ l0_8 a0_9 a1 true _ (ck_ HR0_1 HB) HC0_1.out (ck_ HR0_2 HB) HC0_2.out (ck_ HR0_8 HB) HC0_8.out A17.out) ?_; rintro e w29 ⟨rfl, hb⟩; refine ⟨_, rfl, sh3_ (blk_below (bk_ BK354) hb) (blk_below (bk_ BK355) hb) (below_step (bl2_ HB GE354 GE355) hb) ?_⟩; clear BK354 BK355 HB hb; intro BK354 BK355 HB; have hcz30 := cf10_ BK354; have p361 : 0 ≤ ((ji19) : Int) := od_; have q361 : (ji19) < (l0_2.length : Int) := od_; obtain ⟨ad361, e361, hx361_0, hx361_1, hx361_2⟩ := at_T109 HR0_2.out (ji19) p361 q361; cases e361; replace hx361_0 := hbc_ HB hx361_0; replace hx361_1 := hbc_ HB hx361_1; replace hx361_2 := hbc_ HB hx361_2; replace p361 := eq_true p361; replace q361 := eq_true q361) | ((with_reducible refine gd_ 7 ?_); refine bx_ 7 109 #[.int .i64 0, .int .i64 0, .int .i64 0] ?_; intro gb362 hg w31 hbox hb; refine sh10_ (blk_below (bk_ BK354) hb) (blk_below (bk_ BK355) hb) (below_step (bl2_ HB GE354 GE355) hb) hbox (ge_ hg (bl2_ HB GE354 GE355)) (ge_ hg (bl2_ HB GE354 GE355)) (nl_ hg (bk_ BK354)) (ng_ hg (bk_ BK354)) (nl_ hg (bk_ BK355)) (ng_ hg (bk_ BK355)) ?_; clear BK354 BK355 HB hb hbox hg; intro BK354 BK355 HB BK362 GW362 GE362 NB354_362 NB362_354 NB355_362 NB362_355; have hnb32 := NB362_354.out; have hnc32 := NB354_362.out; have hnb33 := NB362_355.out; have hnc33 := NB355_362.out; have hcz34 := cf3_ BK362) | ((with_reducible refine gate_callee (f := 123) rfl ?_); refine goesL_ (some 38) rfl rfl Try.func123 (by kernel_rfl) rfl #[.agg #[.int .i64 0, .int .i64 ((rd_T109 l0_2 (ji19)).f1), .int .i64 ((rd_T109 l0_2 (ji19)).f2), .int .i64 0], .int .i64 a2] rfl (by (try simp only [List.map_toArray, List.map_cons, List.map_nil]); first | done | (simp only [hji19]; rfl) | rfl | (simp only [List.length_drop, List.length_take]; rfl)) ?_; (with_reducible refine (impl_PlaceAt.calls 0 ((rd_T109 l0_2 (ji19)).f1) ((rd_T109 l0_2 (ji19)).f2) 0 a2 t363 _ A22.out).mono ?_); rintro e w35 ⟨rfl, hb⟩; refine ⟨_, rfl, sh4_ (blk_below (g := gb354) (o := .cells #[.int .i64 a0_0, .slice A0_1 l0_1.length c0_1, .slice (some ad361) l0_2.length c0_2, .int .i64 a0_3, .int .i64 a0_4, .int .i64 a0_5, .int .i64 a0_6, .int .i64 a0_7, .slice A0_8 l0_8.length c0_8, .int .i64 a0_9] 34 (0, 0)) (by (with_reducible repeat (first | refine blk_drewN ?_ _ | refine blk_drew ?_ | refine blk_alloc ?_ _)); refine blk_far ?_ NB354_362.out _; (with_reducible repeat (first | refine blk_drewN ?_ _ | refine blk_drew ?_ | refine blk_alloc ?_ _)); refine blk_far ?_ NB354_362.out _; (with_reducible repeat (first | refine blk_drewN ?_ _ | refine blk_drew ?_ | refine blk_alloc ?_ _)); refine blk_far ?_ NB354_362.out _; (with_reducible repeat (first | refine blk_drewN ?_ _ | refine blk_drew ?_ | refine blk_alloc ?_ _)); exact BK354.out) hb) (blk_below (g := gb355) (o := .cells #[.int .i64 0, .int .i64 0] 113 (0, 0)) (by (with_reducible repeat (first | refine blk_drewN ?_ _ | refine blk_drew ?_ | refine blk_alloc ?_ _)); refine blk_far ?_ NB355_362.out _; (with_reducible repeat (first | refine blk_drewN ?_ _ | refine blk_drew ?_ | refine blk_alloc ?_ _)); refine blk_far ?_ NB355_362.out _; (with_reducible repeat (first | refine blk_drewN ?_ _ | refine blk_drew ?_ | refine blk_alloc ?_ _)); refine blk_far ?_ NB355_362.out _; (with_reducible repeat (first | refine blk_drewN ?_ _ | refine blk_drew ?_ | refine blk_alloc ?_ _)); exact BK355.out) hb) (blk_below (g := gb362) (o := .cells #[.int .i64 ((rd_T109 l0_2 (ji19)).f0), .int .i64 ((rd_T109 l0_2 (ji19)).f1), .int .i64 ((rd_T109 l0_2 (ji19)).f2)] 109 (0, 0)) (by (with_reducible repeat (first | refine blk_drewN ?_ _ | refine blk_drew ?_ | refine blk_alloc ?_ _)); refine blk_put (cs := #[.int .i64 ((rd_T109 l0_2 (ji19)).f0), .int .i64 ((rd_T109 l0_2 (ji19)).f1), .int .i64 0]) ?_ 2 _ rfl; (with_reducible repeat (first | refine blk_drewN ?_ _ | refine blk_drew ?_ | refine blk_alloc ?_ _)); refine blk_put (cs := #[.int .i64 ((rd_T109 l0_2 (ji19)).f0), .int .i64 0, .int .i64 0]) ?_ 1 _ rfl; (with_reducible repeat (first | refine blk_drewN ?_ _ | refine blk_drew ?_ | refine blk_alloc ?_ _)); refine blk_put (cs := #[.int .i64 0, .int .i64 0, .int .i64 0]) ?_ 0 _ rfl; (with_reducible repeat (first | refine blk_drewN ?_ _ | refine blk_drew ?_ | refine blk_alloc ?_ _)); exact BK362.out) hb) (below_step (bl3_ HB GE354 GE355 GE362) hb) ?_⟩; clear BK354 BK355 BK362 HB hb; intro BK354 BK355 BK362 HB; have hcz36 := cf2_ BK355))
   refine bodyPost_ret (results_cell_row rfl _ _ gb355 113 #[.int .i64 t363, .int .i64 0] (0, 0) _ rfl (by (with_reducible repeat (first | refine blk_drewN ?_ _ | refine blk_drew ?_ | refine blk_alloc ?_ _)); refine blk_put (cs := #[.int .i64 t363, .int .i64 0]) ?_ 1 _ rfl; (with_reducible repeat (first | refine blk_drewN ?_ _ | refine blk_drew ?_ | refine blk_alloc ?_ _)); refine blk_put (cs := #[.int .i64 0, .int .i64 0]) ?_ 0 _ rfl; (with_reducible repeat (first | refine blk_drewN ?_ _ | refine blk_drew ?_ | refine blk_alloc ?_ _)); exact BK355.out) Try.underlying113 rfl (by kernel_rfl)) rfl ?_
   exact ⟨by first | rfl | (simp [errW_none, errW_some] <;> rfl) | (simp only [← hji19]; first | rfl | (simp [errW_none, errW_some] <;> rfl)) | (simp [*, errW_none, errW_some] <;> rfl), bl3_ HB GE354 GE355 GE362⟩
  ·replace c18 := Bool.eq_false_iff.mpr c18
   subst c18
   have H1 : (some (0, 0)) = some (r1, r2) := by rw [if_neg (show ¬ (false = true) by decide)] at H; exact H
   clear H
   have H := H1
   clear H1
   simp only [Option.some.injEq, Prod.mk.injEq] at H
   obtain ⟨rfl, rfl⟩ := H
   go_enter Try.func106, Try.ntmps106
   go_wp2_with (first | ((with_reducible refine gd_ 3 ?_); refine bx_ 3 34 #[.int .i64 a0_0, .slice A0_1 l0_1.length c0_1, .slice A0_2 l0_2.length c0_2, .int .i64 a0_3, .int .i64 a0_4, .int .i64 a0_5, .int .i64 a0_6, .int .i64 a0_7, .slice A0_8 l0_8.length c0_8, .int .i64 a0_9] ?_; intro gb354 hg w37 hbox hb; refine sh4_ (below_step (bl_ HB) hb) hbox (ge_ hg (bl_ HB)) (ge_ hg (bl_ HB)) ?_; clear HB hb hbox hg; intro HB BK354 GW354 GE354) | ((with_reducible refine gd_ 6 ?_); refine bx_ 6 113 #[.int .i64 0, .int .i64 0] ?_; intro gb355 hg w38 hbox hb; refine sh7_ (blk_below (bk_ BK354) hb) (below_step (bl1_ HB GE354) hb) hbox (ge_ hg (bl1_ HB GE354)) (ge_ hg (bl1_ HB GE354)) (nl_ hg (bk_ BK354)) (ng_ hg (bk_ BK354)) ?_; clear BK354 HB hb hbox hg; intro BK354 HB BK355 GW355 GE355 NB354_355 NB355_354; have hnb39 := NB354_355.out; have hnc39 := NB355_354.out; have hcz40 := cf10_ BK354) | ((with_reducible refine gate_callee (f := 105) rfl ?_); refine gl_ 11 Try.func105 (impl_isSatellite.calls a0_0 _ _ l0_1 _ _ l0_2 a0_3 a0_4 a0_5 a0_6 a0_7 _ _ l0_8 a0_9 a1 false _ (ck_ HR0_1 HB) HC0_1.out (ck_ HR0_2 HB) HC0_2.out (ck_ HR0_8 HB) HC0_8.out A4.out) ?_; rintro e w41 ⟨rfl, hb⟩; refine ⟨_, rfl, sh3_ (blk_below (bk_ BK354) hb) (blk_below (bk_ BK355) hb) (below_step (bl2_ HB GE354 GE355) hb) ?_⟩; clear BK354 BK355 HB hb; intro BK354 BK355 HB; have hcz42 := cf10_ BK354) | ((with_reducible refine gate_callee (f := 122) rfl ?_); refine gl_ 22 Try.func122 (impl_IsSite.calls a0_0 _ _ l0_1 _ _ l0_2 a0_3 a0_4 a0_5 a0_6 a0_7 _ _ l0_8 a0_9 a1 false _ (ck_ HR0_1 HB) HC0_1.out (ck_ HR0_2 HB) HC0_2.out (ck_ HR0_8 HB) HC0_8.out A17.out) ?_; rintro e w43 ⟨rfl, hb⟩; refine ⟨_, rfl, sh3_ (blk_below (bk_ BK354) hb) (blk_below (bk_ BK355) hb) (below_step (bl2_ HB GE354 GE355) hb) ?_⟩; clear BK354 BK355 HB hb; intro BK354 BK355 HB; have hcz44 := cf2_ BK355))
   refine bodyPost_ret (results_cell_row rfl _ _ gb355 113 #[.int .i64 0, .int .i64 0] (0, 0) _ rfl (by (with_reducible repeat (first | refine blk_drewN ?_ _ | refine blk_drew ?_ | refine blk_alloc ?_ _)); refine blk_put (cs := #[.int .i64 0, .int .i64 0]) ?_ 1 _ rfl; (with_reducible repeat (first | refine blk_drewN ?_ _ | refine blk_drew ?_ | refine blk_alloc ?_ _)); refine blk_put (cs := #[.int .i64 0, .int .i64 0]) ?_ 0 _ rfl; (with_reducible repeat (first | refine blk_drewN ?_ _ | refine blk_drew ?_ | refine blk_alloc ?_ _)); exact BK355.out) Try.underlying113 rfl (by kernel_rfl)) rfl ?_
   exact ⟨er_, bl2_ HB GE354 GE355⟩

/-! ### impl_PlaneOf: function 128 -/
def impl_PlaneOf.f (a0_0 : Int) (l0_1 : List (S105)) (l0_2 : List (S109)) (a0_3 : Int) (a0_4 : Int) (a0_5 : Int) (a0_6 : Int) (a0_7 : Int) (l0_8 : List (S115)) (a0_9 : Int) (a1 : Int) : Option (Int) := (impl_isSatellite.f a0_0 l0_1 l0_2 a0_3 a0_4 a0_5 a0_6 a0_7 l0_8 a0_9 a1).bind fun t365 => (if t365 = true then (if 0 ≤ a1 then (if a1 < (l0_1.length : Int) then (some ((rd_T105 l0_1 a1).f0)) else (none)) else (none)) else ((impl_IsSite.f a0_0 l0_1 l0_2 a0_3 a0_4 a0_5 a0_6 a0_7 l0_8 a0_9 a1).bind fun t367 => (if t367 = true then (if 0 ≤ (wrap64 (a1 - (l0_1.length : Int))) then (if (wrap64 (a1 - (l0_1.length : Int))) < (l0_2.length : Int) then (some ((rd_T109 l0_2 (wrap64 (a1 - (l0_1.length : Int)))).f0)) else (none)) else (none)) else (some (-1)))))
set_option maxHeartbeats 8000000 in
set_option maxRecDepth 100000 in
theorem impl_PlaneOf.calls (a0_0 : Int) (A0_1 : Option Addr) (c0_1 : Nat) (l0_1 : List (S105)) (A0_2 : Option Addr) (c0_2 : Nat) (l0_2 : List (S109)) (a0_3 : Int) (a0_4 : Int) (a0_5 : Int) (a0_6 : Int) (a0_7 : Int) (A0_8 : Option Addr) (c0_8 : Nat) (l0_8 : List (S115)) (a0_9 : Int) (a1 : Int) (r : Int) (w : World) (hr0_1 : Kd.C k105 w A0_1 l0_1.length l0_1) (hc0_1 : l0_1.length ≤ c0_1) (hr0_2 : Kd.C k109 w A0_2 l0_2.length l0_2) (hc0_2 : l0_2.length ≤ c0_2) (hr0_8 : Kd.C k115 w A0_8 l0_8.length l0_8) (hc0_8 : l0_8.length ≤ c0_8) (h : impl_PlaneOf.f a0_0 l0_1 l0_2 a0_3 a0_4 a0_5 a0_6 a0_7 l0_8 a0_9 a1 = some r) :
  Calls Try.prog 128 #[.agg #[.int .i64 a0_0, .slice A0_1 l0_1.length c0_1, .slice A0_2 l0_2.length c0_2, .int .i64 a0_3, .int .i64 a0_4, .int .i64 a0_5, .int .i64 a0_6, .int .i64 a0_7, .slice A0_8 l0_8.length c0_8, .int .i64 a0_9], .int .i64 a1] w fun e w' => e = .returned (.int .i64 r) ∧ Below w.heap.size w w' := by
 have hu34 := Try.underlying34
 have HR0_1 := Aside0.mk hr0_1
 have HC0_1 := Aside0.mk hc0_1
 clear hr0_1 hc0_1
 have HR0_2 := Aside0.mk hr0_2
 have HC0_2 := Aside0.mk hc0_2
 clear hr0_2 hc0_2
 have HR0_8 := Aside0.mk hr0_8
 have HC0_8 := Aside0.mk hc0_8
 clear hr0_8 hc0_8
 have HB := Aside0.mk (Below.refl w.heap.size w)
 have H := h
 clear h
 unfold impl_PlaneOf.f at H
 replace H := bs_ H
 obtain ⟨t365, A3, H⟩ := H
 by_cases c4 : t365 = true
 ·subst c4
  rw [if_pos rfl] at H
  replace H := ifn_ H
  obtain ⟨c5, H⟩ := H
  have c5b0 := decide_eq_true c5
  clear c5
  replace H := ifn_ H
  obtain ⟨c6, H⟩ := H
  have c6b0 := decide_eq_true c6
  clear c6
  obtain rfl := Option.some.inj H
  go_enter Try.func128, Try.ntmps128
  go_wp2_with (first | ((with_reducible refine gd_ 2 ?_); refine bx_ 2 34 #[.int .i64 a0_0, .slice A0_1 l0_1.length c0_1, .slice A0_2 l0_2.length c0_2, .int .i64 a0_3, .int .i64 a0_4, .int .i64 a0_5, .int .i64 a0_6, .int .i64 a0_7, .slice A0_8 l0_8.length c0_8, .int .i64 a0_9] ?_; intro gb364 hg w7 hbox hb; refine sh4_ (below_step (bl_ HB) hb) hbox (ge_ hg (bl_ HB)) (ge_ hg (bl_ HB)) ?_; clear HB hb hbox hg; intro HB BK364 GW364 GE364; have hcz8 := cf10_ BK364) | ((with_reducible refine gate_callee (f := 105) rfl ?_); refine gl_ 8 Try.func105 (impl_isSatellite.calls a0_0 _ _ l0_1 _ _ l0_2 a0_3 a0_4 a0_5 a0_6 a0_7 _ _ l0_8 a0_9 a1 true _ (ck_ HR0_1 HB) HC0_1.out (ck_ HR0_2 HB) HC0_2.out (ck_ HR0_8 HB) HC0_8.out A3.out) ?_; rintro e w9 ⟨rfl, hb⟩; refine ⟨_, rfl, sh2_ (blk_below (bk_ BK364) hb) (below_step (bl1_ HB GE364) hb) ?_⟩; clear BK364 HB hb; intro BK364 HB; have hcz10 := cf10_ BK364; have p366 : 0 ≤ (a1 : Int) := od_; have q366 : a1 < (l0_1.length : Int) := od_; obtain ⟨ad366, e366, hx366_0, hx366_1, hx366_2, hx366_3⟩ := at_T105 HR0_1.out a1 p366 q366; cases e366; replace hx366_0 := hbc_ HB hx366_0; replace hx366_1 := hbc_ HB hx366_1; replace hx366_2 := hbc_ HB hx366_2; replace hx366_3 := hbc_ HB hx366_3; replace p366 := eq_true p366; replace q366 := eq_true q366))
  go_ret
  exact ⟨er_, bl1_ HB GE364⟩
 ·replace c4 := Bool.eq_false_iff.mpr c4
  subst c4
  have H1 : ((impl_IsSite.f a0_0 l0_1 l0_2 a0_3 a0_4 a0_5 a0_6 a0_7 l0_8 a0_9 a1).bind fun t367 => (if t367 = true then (if 0 ≤ (wrap64 (a1 - (l0_1.length : Int))) then (if (wrap64 (a1 - (l0_1.length : Int))) < (l0_2.length : Int) then (some ((rd_T109 l0_2 (wrap64 (a1 - (l0_1.length : Int)))).f0)) else (none)) else (none)) else (some (-1)))) = some r := by rw [if_neg (show ¬ (false = true) by decide)] at H; exact H
  clear H
  have H := H1
  clear H1
  replace H := bs_ H
  obtain ⟨t367, A11, H⟩ := H
  by_cases c12 : t367 = true
  ·subst c12
   rw [if_pos rfl] at H
   obtain ⟨ji13, hji13⟩ : ∃ j_ : Int, (wrap64 (a1 - (l0_1.length : Int))) = j_ := ⟨_, rfl⟩
   replace H : (if 0 ≤ (ji13) then (if (ji13) < (l0_2.length : Int) then (some ((rd_T109 l0_2 (ji13)).f0)) else (none)) else (none)) = some r := by first | (rw [hji13] at H; exact H) | (simp only [hji13] at H ⊢; exact H)
   (try rw [hji13] at A3)
   (try rw [hji13] at A11)
   have hji13w : (IntKind.i64.wrap (a1 - (l0_1.length : Int))) = ji13 := (i64_w _).trans hji13
   replace H := ifn_ H
   obtain ⟨c14, H⟩ := H
   have c14b0 := decide_eq_true c14
   clear c14
   replace H := ifn_ H
   obtain ⟨c15, H⟩ := H
   have c15b0 := decide_eq_true c15
   clear c15
   obtain rfl := Option.some.inj H
   go_enter Try.func128, Try.ntmps128
   go_wp2_with (first | ((with_reducible refine gd_ 2 ?_); refine bx_ 2 34 #[.int .i64 a0_0, .slice A0_1 l0_1.length c0_1, .slice A0_2 l0_2.length c0_2, .int .i64 a0_3, .int .i64 a0_4, .int .i64 a0_5, .int .i64 a0_6, .int .i64 a0_7, .slice A0_8 l0_8.length c0_8, .int .i64 a0_9] ?_; intro gb364 hg w16 hbox hb; refine sh4_ (below_step (bl_ HB) hb) hbox (ge_ hg (bl_ HB)) (ge_ hg (bl_ HB)) ?_; clear HB hb hbox hg; intro HB BK364 GW364 GE364; have hcz17 := cf10_ BK364) | ((with_reducible refine gate_callee (f := 105) rfl ?_); refine gl_ 8 Try.func105 (impl_isSatellite.calls a0_0 _ _ l0_1 _ _ l0_2 a0_3 a0_4 a0_5 a0_6 a0_7 _ _ l0_8 a0_9 a1 false _ (ck_ HR0_1 HB) HC0_1.out (ck_ HR0_2 HB) HC0_2.out (ck_ HR0_8 HB) HC0_8.out A3.out) ?_; rintro e w18 ⟨rfl, hb⟩; refine ⟨_, rfl, sh2_ (blk_below (bk_ BK364) hb) (below_step (bl1_ HB GE364) hb) ?_⟩; clear BK364 HB hb; intro BK364 HB; have hcz19 := cf10_ BK364) | ((with_reducible refine gate_callee (f := 122) rfl ?_); refine gl_ 18 Try.func122 (impl_IsSite.calls a0_0 _ _ l0_1 _ _ l0_2 a0_3 a0_4 a0_5 a0_6 a0_7 _ _ l0_8 a0_9 a1 true _ (ck_ HR0_1 HB) HC0_1.out (ck_ HR0_2 HB) HC0_2.out (ck_ HR0_8 HB) HC0_8.out A11.out) ?_; rintro e w20 ⟨rfl, hb⟩; refine ⟨_, rfl, sh2_ (blk_below (bk_ BK364) hb) (below_step (bl1_ HB GE364) hb) ?_⟩; clear BK364 HB hb; intro BK364 HB; have hcz21 := cf10_ BK364; have p368 : 0 ≤ ((ji13) : Int) := od_; have q368 : (ji13) < (l0_2.length : Int) := od_; obtain ⟨ad368, e368, hx368_0, hx368_1, hx368_2⟩ := at_T109 HR0_2.out (ji13) p368 q368; cases e368; replace hx368_0 := hbc_ HB hx368_0; replace hx368_1 := hbc_ HB hx368_1; replace hx368_2 := hbc_ HB hx368_2; replace p368 := eq_true p368; replace q368 := eq_true q368))
   go_ret
   exact ⟨by first | rfl | (simp [errW_none, errW_some] <;> rfl) | (simp only [← hji13]; first | rfl | (simp [errW_none, errW_some] <;> rfl)) | (simp [*, errW_none, errW_some] <;> rfl), bl1_ HB GE364⟩
  ·replace c12 := Bool.eq_false_iff.mpr c12
   subst c12
   have H1 : (some (-1)) = some r := by rw [if_neg (show ¬ (false = true) by decide)] at H; exact H
   clear H
   have H := H1
   clear H1
   obtain rfl := Option.some.inj H
   go_enter Try.func128, Try.ntmps128
   go_wp2_with (first | ((with_reducible refine gd_ 2 ?_); refine bx_ 2 34 #[.int .i64 a0_0, .slice A0_1 l0_1.length c0_1, .slice A0_2 l0_2.length c0_2, .int .i64 a0_3, .int .i64 a0_4, .int .i64 a0_5, .int .i64 a0_6, .int .i64 a0_7, .slice A0_8 l0_8.length c0_8, .int .i64 a0_9] ?_; intro gb364 hg w22 hbox hb; refine sh4_ (below_step (bl_ HB) hb) hbox (ge_ hg (bl_ HB)) (ge_ hg (bl_ HB)) ?_; clear HB hb hbox hg; intro HB BK364 GW364 GE364; have hcz23 := cf10_ BK364) | ((with_reducible refine gate_callee (f := 105) rfl ?_); refine gl_ 8 Try.func105 (impl_isSatellite.calls a0_0 _ _ l0_1 _ _ l0_2 a0_3 a0_4 a0_5 a0_6 a0_7 _ _ l0_8 a0_9 a1 false _ (ck_ HR0_1 HB) HC0_1.out (ck_ HR0_2 HB) HC0_2.out (ck_ HR0_8 HB) HC0_8.out A3.out) ?_; rintro e w24 ⟨rfl, hb⟩; refine ⟨_, rfl, sh2_ (blk_below (bk_ BK364) hb) (below_step (bl1_ HB GE364) hb) ?_⟩; clear BK364 HB hb; intro BK364 HB; have hcz25 := cf10_ BK364) | ((with_reducible refine gate_callee (f := 122) rfl ?_); refine gl_ 18 Try.func122 (impl_IsSite.calls a0_0 _ _ l0_1 _ _ l0_2 a0_3 a0_4 a0_5 a0_6 a0_7 _ _ l0_8 a0_9 a1 false _ (ck_ HR0_1 HB) HC0_1.out (ck_ HR0_2 HB) HC0_2.out (ck_ HR0_8 HB) HC0_8.out A11.out) ?_; rintro e w26 ⟨rfl, hb⟩; refine ⟨_, rfl, sh2_ (blk_below (bk_ BK364) hb) (below_step (bl1_ HB GE364) hb) ?_⟩; clear BK364 HB hb; intro BK364 HB))
   go_ret
   exact ⟨er_, bl1_ HB GE364⟩

/-! ### impl_areNeighbors: function 129 -/
def impl_areNeighbors.f (a0_0 : Int) (l0_1 : List (S105)) (l0_2 : List (S109)) (a0_3 : Int) (a0_4 : Int) (a0_5 : Int) (a0_6 : Int) (a0_7 : Int) (l0_8 : List (S115)) (a0_9 : Int) (a1 : Int) (a2 : Int) : Option (Bool) := if a1 > a2 then (if a2 ≥ 0 then (if (wrap64 (a1 - a2)) = 1 then (some true) else (if a2 = 0 then (if a1 = (wrap64 (a0_0 - 1)) then ((impl_InRange.f a1 1 4).bind fun t370 => (some t370)) else (some false)) else (some false))) else (if a2 = 0 then (if a1 = (wrap64 (a0_0 - 1)) then ((impl_InRange.f a1 1 4).bind fun t371 => (some t371)) else (some false)) else (some false))) else (if a1 ≥ 0 then (if (wrap64 (a2 - a1)) = 1 then (some true) else (if a1 = 0 then (if a2 = (wrap64 (a0_0 - 1)) then ((impl_InRange.f a2 1 4).bind fun t372 => (some t372)) else (some false)) else (some false))) else (if a1 = 0 then (if a2 = (wrap64 (a0_0 - 1)) then ((impl_InRange.f a2 1 4).bind fun t373 => (some t373)) else (some false)) else (some false)))
set_option maxHeartbeats 8000000 in
set_option maxRecDepth 100000 in
theorem impl_areNeighbors.calls (a0_0 : Int) (A0_1 : Option Addr) (c0_1 : Nat) (l0_1 : List (S105)) (A0_2 : Option Addr) (c0_2 : Nat) (l0_2 : List (S109)) (a0_3 : Int) (a0_4 : Int) (a0_5 : Int) (a0_6 : Int) (a0_7 : Int) (A0_8 : Option Addr) (c0_8 : Nat) (l0_8 : List (S115)) (a0_9 : Int) (a1 : Int) (a2 : Int) (r : Bool) (w : World) (hr0_1 : Kd.C k105 w A0_1 l0_1.length l0_1) (hc0_1 : l0_1.length ≤ c0_1) (hr0_2 : Kd.C k109 w A0_2 l0_2.length l0_2) (hc0_2 : l0_2.length ≤ c0_2) (hr0_8 : Kd.C k115 w A0_8 l0_8.length l0_8) (hc0_8 : l0_8.length ≤ c0_8) (h : impl_areNeighbors.f a0_0 l0_1 l0_2 a0_3 a0_4 a0_5 a0_6 a0_7 l0_8 a0_9 a1 a2 = some r) :
  Calls Try.prog 129 #[.agg #[.int .i64 a0_0, .slice A0_1 l0_1.length c0_1, .slice A0_2 l0_2.length c0_2, .int .i64 a0_3, .int .i64 a0_4, .int .i64 a0_5, .int .i64 a0_6, .int .i64 a0_7, .slice A0_8 l0_8.length c0_8, .int .i64 a0_9], .int .i64 a1, .int .i64 a2] w fun e w' => e = .returned (.bool r) ∧ Below w.heap.size w w' := by
 have hu34 := Try.underlying34
 have HR0_1 := Aside0.mk hr0_1
 have HC0_1 := Aside0.mk hc0_1
 clear hr0_1 hc0_1
 have HR0_2 := Aside0.mk hr0_2
 have HC0_2 := Aside0.mk hc0_2
 clear hr0_2 hc0_2
 have HR0_8 := Aside0.mk hr0_8
 have HC0_8 := Aside0.mk hc0_8
 clear hr0_8 hc0_8
 have HB := Aside0.mk (Below.refl w.heap.size w)
 have H := h
 clear h
 unfold impl_areNeighbors.f at H
 by_cases c4 : a1 > a2
 ·rw [if_pos c4] at H
  have c4b0 : decide (a2 < a1) = true := decide_eq_true c4
  clear c4
  by_cases c5 : a2 ≥ 0
  ·rw [if_pos c5] at H
   have c5b0 : decide (0 ≤ a2) = true := decide_eq_true c5
   clear c5
   by_cases c6 : (wrap64 (a1 - a2)) = 1
   ·rw [if_pos c6] at H
    obtain ⟨c6b0, c6b1⟩ := bt_ c6
    clear c6
    obtain rfl := Option.some.inj H
    go_enter Try.func129, Try.ntmps129
    go_wp2_with (first | ((with_reducible refine gd_ 3 ?_); refine bx_ 3 34 #[.int .i64 a0_0, .slice A0_1 l0_1.length c0_1, .slice A0_2 l0_2.length c0_2, .int .i64 a0_3, .int .i64 a0_4, .int .i64 a0_5, .int .i64 a0_6, .int .i64 a0_7, .slice A0_8 l0_8.length c0_8, .int .i64 a0_9] ?_; intro gb369 hg w7 hbox hb; refine sh4_ (below_step (bl_ HB) hb) hbox (ge_ hg (bl_ HB)) (ge_ hg (bl_ HB)) ?_; clear HB hb hbox hg; intro HB BK369 GW369 GE369))
    go_ret
    exact ⟨er_, bl1_ HB GE369⟩
   ·rw [if_neg c6] at H
    obtain ⟨c6b0, c6b1⟩ := bn_ c6
    by_cases c8 : a2 = 0
    ·rw [if_pos c8] at H
     obtain ⟨c8b0, c8b1⟩ := bt_ c8
     clear c8
     by_cases c9 : a1 = (wrap64 (a0_0 - 1))
     ·rw [if_pos c9] at H
      obtain ⟨c9b0, c9b1⟩ := bt_ c9
      clear c9
      replace H := bs_ H
      obtain ⟨t370, A10, H⟩ := H
      obtain rfl := Option.some.inj H
      go_enter Try.func129, Try.ntmps129
      go_wp2_with (first | ((with_reducible refine gd_ 3 ?_); refine bx_ 3 34 #[.int .i64 a0_0, .slice A0_1 l0_1.length c0_1, .slice A0_2 l0_2.length c0_2, .int .i64 a0_3, .int .i64 a0_4, .int .i64 a0_5, .int .i64 a0_6, .int .i64 a0_7, .slice A0_8 l0_8.length c0_8, .int .i64 a0_9] ?_; intro gb369 hg w11 hbox hb; refine sh4_ (below_step (bl_ HB) hb) hbox (ge_ hg (bl_ HB)) (ge_ hg (bl_ HB)) ?_; clear HB hb hbox hg; intro HB BK369 GW369 GE369; have hcz12 := cf10_ BK369) | (go_at_call 120; (with_reducible refine (impl_InRange.calls a1 1 4 t370 _ A10.out).mono ?_); rintro e w' ⟨rfl, ⟨nd, rfl⟩⟩))
      go_ret
      exact ⟨er_, bl1_ HB GE369⟩
     ·rw [if_neg c9] at H
      obtain ⟨c9b0, c9b1⟩ := bn_ c9
      obtain rfl := Option.some.inj H
      go_enter Try.func129, Try.ntmps129
      go_wp2_with (first | ((with_reducible refine gd_ 3 ?_); refine bx_ 3 34 #[.int .i64 a0_0, .slice A0_1 l0_1.length c0_1, .slice A0_2 l0_2.length c0_2, .int .i64 a0_3, .int .i64 a0_4, .int .i64 a0_5, .int .i64 a0_6, .int .i64 a0_7, .slice A0_8 l0_8.length c0_8, .int .i64 a0_9] ?_; intro gb369 hg w13 hbox hb; refine sh4_ (below_step (bl_ HB) hb) hbox (ge_ hg (bl_ HB)) (ge_ hg (bl_ HB)) ?_; clear HB hb hbox hg; intro HB BK369 GW369 GE369; have hcz14 := cf10_ BK369))
      go_ret
      exact ⟨er_, bl1_ HB GE369⟩
    ·rw [if_neg c8] at H
     obtain ⟨c8b0, c8b1⟩ := bn_ c8
     obtain rfl := Option.some.inj H
     go_enter Try.func129, Try.ntmps129
     go_wp2_with (first | ((with_reducible refine gd_ 3 ?_); refine bx_ 3 34 #[.int .i64 a0_0, .slice A0_1 l0_1.length c0_1, .slice A0_2 l0_2.length c0_2, .int .i64 a0_3, .int .i64 a0_4, .int .i64 a0_5, .int .i64 a0_6, .int .i64 a0_7, .slice A0_8 l0_8.length c0_8, .int .i64 a0_9] ?_; intro gb369 hg w15 hbox hb; refine sh4_ (below_step (bl_ HB) hb) hbox (ge_ hg (bl_ HB)) (ge_ hg (bl_ HB)) ?_; clear HB hb hbox hg; intro HB BK369 GW369 GE369))
     go_ret
     exact ⟨er_, bl1_ HB GE369⟩
  ·rw [if_neg c5] at H
   have c5b0 : decide (0 ≤ a2) = false := decide_eq_false c5
   clear c5
   by_cases c16 : a2 = 0
   ·rw [if_pos c16] at H
    obtain ⟨c16b0, c16b1⟩ := bt_ c16
    clear c16
    by_cases c17 : a1 = (wrap64 (a0_0 - 1))
    ·rw [if_pos c17] at H
     obtain ⟨c17b0, c17b1⟩ := bt_ c17
     clear c17
     replace H := bs_ H
     obtain ⟨t371, A18, H⟩ := H
     obtain rfl := Option.some.inj H
     go_enter Try.func129, Try.ntmps129
     go_wp2_with (first | ((with_reducible refine gd_ 3 ?_); refine bx_ 3 34 #[.int .i64 a0_0, .slice A0_1 l0_1.length c0_1, .slice A0_2 l0_2.length c0_2, .int .i64 a0_3, .int .i64 a0_4, .int .i64 a0_5, .int .i64 a0_6, .int .i64 a0_7, .slice A0_8 l0_8.length c0_8, .int .i64 a0_9] ?_; intro gb369 hg w19 hbox hb; refine sh4_ (below_step (bl_ HB) hb) hbox (ge_ hg (bl_ HB)) (ge_ hg (bl_ HB)) ?_; clear HB hb hbox hg; intro HB BK369 GW369 GE369; have hcz20 := cf10_ BK369) | (go_at_call 120; (with_reducible refine (impl_InRange.calls a1 1 4 t371 _ A18.out).mono ?_); rintro e w' ⟨rfl, ⟨nd, rfl⟩⟩))
     go_ret
     exact ⟨er_, bl1_ HB GE369⟩
    ·rw [if_neg c17] at H
     obtain ⟨c17b0, c17b1⟩ := bn_ c17
     obtain rfl := Option.some.inj H
     go_enter Try.func129, Try.ntmps129
     go_wp2_with (first | ((with_reducible refine gd_ 3 ?_); refine bx_ 3 34 #[.int .i64 a0_0, .slice A0_1 l0_1.length c0_1, .slice A0_2 l0_2.length c0_2, .int .i64 a0_3, .int .i64 a0_4, .int .i64 a0_5, .int .i64 a0_6, .int .i64 a0_7, .slice A0_8 l0_8.length c0_8, .int .i64 a0_9] ?_; intro gb369 hg w21 hbox hb; refine sh4_ (below_step (bl_ HB) hb) hbox (ge_ hg (bl_ HB)) (ge_ hg (bl_ HB)) ?_; clear HB hb hbox hg; intro HB BK369 GW369 GE369; have hcz22 := cf10_ BK369))
     go_ret
     exact ⟨er_, bl1_ HB GE369⟩
   ·rw [if_neg c16] at H
    obtain ⟨c16b0, c16b1⟩ := bn_ c16
    obtain rfl := Option.some.inj H
    go_enter Try.func129, Try.ntmps129
    go_wp2_with (first | ((with_reducible refine gd_ 3 ?_); refine bx_ 3 34 #[.int .i64 a0_0, .slice A0_1 l0_1.length c0_1, .slice A0_2 l0_2.length c0_2, .int .i64 a0_3, .int .i64 a0_4, .int .i64 a0_5, .int .i64 a0_6, .int .i64 a0_7, .slice A0_8 l0_8.length c0_8, .int .i64 a0_9] ?_; intro gb369 hg w23 hbox hb; refine sh4_ (below_step (bl_ HB) hb) hbox (ge_ hg (bl_ HB)) (ge_ hg (bl_ HB)) ?_; clear HB hb hbox hg; intro HB BK369 GW369 GE369))
    go_ret
    exact ⟨er_, bl1_ HB GE369⟩
 ·rw [if_neg c4] at H
  have c4b0 : decide (a2 < a1) = false := decide_eq_false c4
  clear c4
  by_cases c24 : a1 ≥ 0
  ·rw [if_pos c24] at H
   have c24b0 : decide (0 ≤ a1) = true := decide_eq_true c24
   clear c24
   by_cases c25 : (wrap64 (a2 - a1)) = 1
   ·rw [if_pos c25] at H
    obtain ⟨c25b0, c25b1⟩ := bt_ c25
    clear c25
    obtain rfl := Option.some.inj H
    go_enter Try.func129, Try.ntmps129
    go_wp2_with (first | ((with_reducible refine gd_ 3 ?_); refine bx_ 3 34 #[.int .i64 a0_0, .slice A0_1 l0_1.length c0_1, .slice A0_2 l0_2.length c0_2, .int .i64 a0_3, .int .i64 a0_4, .int .i64 a0_5, .int .i64 a0_6, .int .i64 a0_7, .slice A0_8 l0_8.length c0_8, .int .i64 a0_9] ?_; intro gb369 hg w26 hbox hb; refine sh4_ (below_step (bl_ HB) hb) hbox (ge_ hg (bl_ HB)) (ge_ hg (bl_ HB)) ?_; clear HB hb hbox hg; intro HB BK369 GW369 GE369))
    go_ret
    exact ⟨er_, bl1_ HB GE369⟩
   ·rw [if_neg c25] at H
    obtain ⟨c25b0, c25b1⟩ := bn_ c25
    by_cases c27 : a1 = 0
    ·rw [if_pos c27] at H
     obtain ⟨c27b0, c27b1⟩ := bt_ c27
     clear c27
     by_cases c28 : a2 = (wrap64 (a0_0 - 1))
     ·rw [if_pos c28] at H
      obtain ⟨c28b0, c28b1⟩ := bt_ c28
      clear c28
      replace H := bs_ H
      obtain ⟨t372, A29, H⟩ := H
      obtain rfl := Option.some.inj H
      go_enter Try.func129, Try.ntmps129
      go_wp2_with (first | ((with_reducible refine gd_ 3 ?_); refine bx_ 3 34 #[.int .i64 a0_0, .slice A0_1 l0_1.length c0_1, .slice A0_2 l0_2.length c0_2, .int .i64 a0_3, .int .i64 a0_4, .int .i64 a0_5, .int .i64 a0_6, .int .i64 a0_7, .slice A0_8 l0_8.length c0_8, .int .i64 a0_9] ?_; intro gb369 hg w30 hbox hb; refine sh4_ (below_step (bl_ HB) hb) hbox (ge_ hg (bl_ HB)) (ge_ hg (bl_ HB)) ?_; clear HB hb hbox hg; intro HB BK369 GW369 GE369; have hcz31 := cf10_ BK369) | (go_at_call 120; (with_reducible refine (impl_InRange.calls a2 1 4 t372 _ A29.out).mono ?_); rintro e w' ⟨rfl, ⟨nd, rfl⟩⟩))
      go_ret
      exact ⟨er_, bl1_ HB GE369⟩
     ·rw [if_neg c28] at H
      obtain ⟨c28b0, c28b1⟩ := bn_ c28
      obtain rfl := Option.some.inj H
      go_enter Try.func129, Try.ntmps129
      go_wp2_with (first | ((with_reducible refine gd_ 3 ?_); refine bx_ 3 34 #[.int .i64 a0_0, .slice A0_1 l0_1.length c0_1, .slice A0_2 l0_2.length c0_2, .int .i64 a0_3, .int .i64 a0_4, .int .i64 a0_5, .int .i64 a0_6, .int .i64 a0_7, .slice A0_8 l0_8.length c0_8, .int .i64 a0_9] ?_; intro gb369 hg w32 hbox hb; refine sh4_ (below_step (bl_ HB) hb) hbox (ge_ hg (bl_ HB)) (ge_ hg (bl_ HB)) ?_; clear HB hb hbox hg; intro HB BK369 GW369 GE369; have hcz33 := cf10_ BK369))
      go_ret
      exact ⟨er_, bl1_ HB GE369⟩
    ·rw [if_neg c27] at H
     obtain ⟨c27b0, c27b1⟩ := bn_ c27
     obtain rfl := Option.some.inj H
     go_enter Try.func129, Try.ntmps129
     go_wp2_with (first | ((with_reducible refine gd_ 3 ?_); refine bx_ 3 34 #[.int .i64 a0_0, .slice A0_1 l0_1.length c0_1, .slice A0_2 l0_2.length c0_2, .int .i64 a0_3, .int .i64 a0_4, .int .i64 a0_5, .int .i64 a0_6, .int .i64 a0_7, .slice A0_8 l0_8.length c0_8, .int .i64 a0_9] ?_; intro gb369 hg w34 hbox hb; refine sh4_ (below_step (bl_ HB) hb) hbox (ge_ hg (bl_ HB)) (ge_ hg (bl_ HB)) ?_; clear HB hb hbox hg; intro HB BK369 GW369 GE369))
     go_ret
     exact ⟨er_, bl1_ HB GE369⟩
  ·rw [if_neg c24] at H
   have c24b0 : decide (0 ≤ a1) = false := decide_eq_false c24
   clear c24
   by_cases c35 : a1 = 0
   ·rw [if_pos c35] at H
    obtain ⟨c35b0, c35b1⟩ := bt_ c35
    clear c35
    by_cases c36 : a2 = (wrap64 (a0_0 - 1))
    ·rw [if_pos c36] at H
     obtain ⟨c36b0, c36b1⟩ := bt_ c36
     clear c36
     replace H := bs_ H
     obtain ⟨t373, A37, H⟩ := H
     obtain rfl := Option.some.inj H
     go_enter Try.func129, Try.ntmps129
     go_wp2_with (first | ((with_reducible refine gd_ 3 ?_); refine bx_ 3 34 #[.int .i64 a0_0, .slice A0_1 l0_1.length c0_1, .slice A0_2 l0_2.length c0_2, .int .i64 a0_3, .int .i64 a0_4, .int .i64 a0_5, .int .i64 a0_6, .int .i64 a0_7, .slice A0_8 l0_8.length c0_8, .int .i64 a0_9] ?_; intro gb369 hg w38 hbox hb; refine sh4_ (below_step (bl_ HB) hb) hbox (ge_ hg (bl_ HB)) (ge_ hg (bl_ HB)) ?_; clear HB hb hbox hg; intro HB BK369 GW369 GE369; have hcz39 := cf10_ BK369) | (go_at_call 120; (with_reducible refine (impl_InRange.calls a2 1 4 t373 _ A37.out).mono ?_); rintro e w' ⟨rfl, ⟨nd, rfl⟩⟩))
     go_ret
     exact ⟨er_, bl1_ HB GE369⟩
    ·rw [if_neg c36] at H
     obtain ⟨c36b0, c36b1⟩ := bn_ c36
     obtain rfl := Option.some.inj H
     go_enter Try.func129, Try.ntmps129
     go_wp2_with (first | ((with_reducible refine gd_ 3 ?_); refine bx_ 3 34 #[.int .i64 a0_0, .slice A0_1 l0_1.length c0_1, .slice A0_2 l0_2.length c0_2, .int .i64 a0_3, .int .i64 a0_4, .int .i64 a0_5, .int .i64 a0_6, .int .i64 a0_7, .slice A0_8 l0_8.length c0_8, .int .i64 a0_9] ?_; intro gb369 hg w40 hbox hb; refine sh4_ (below_step (bl_ HB) hb) hbox (ge_ hg (bl_ HB)) (ge_ hg (bl_ HB)) ?_; clear HB hb hbox hg; intro HB BK369 GW369 GE369; have hcz41 := cf10_ BK369))
     go_ret
     exact ⟨er_, bl1_ HB GE369⟩
   ·rw [if_neg c35] at H
    obtain ⟨c35b0, c35b1⟩ := bn_ c35
    obtain rfl := Option.some.inj H
    go_enter Try.func129, Try.ntmps129
    go_wp2_with (first | ((with_reducible refine gd_ 3 ?_); refine bx_ 3 34 #[.int .i64 a0_0, .slice A0_1 l0_1.length c0_1, .slice A0_2 l0_2.length c0_2, .int .i64 a0_3, .int .i64 a0_4, .int .i64 a0_5, .int .i64 a0_6, .int .i64 a0_7, .slice A0_8 l0_8.length c0_8, .int .i64 a0_9] ?_; intro gb369 hg w42 hbox hb; refine sh4_ (below_step (bl_ HB) hb) hbox (ge_ hg (bl_ HB)) (ge_ hg (bl_ HB)) ?_; clear HB hb hbox hg; intro HB BK369 GW369 GE369))
    go_ret
    exact ⟨er_, bl1_ HB GE369⟩

end Go.Proofs.Ytcjfalmhohcifaa.PFnExactSureShare
