-- Written by a program of this session for this claim (the kit's printer with changes).
import Derived.Test.YtikklalaggkdoaaQFnExactLitSpansx0
import Derived.Test.YtikklalaggkdoaaQFnExactLitSpansx3
namespace Go.Proofs.Ytikklalaggkdoaa.PFnExactLitSpans
open Go.RowKit Go.Proofs.YtikklalaggkdoaaW.PrintWords Go.Proofs.YtikklalaggkdoaaW.PrintLast Go.Proofs.YtikklalaggkdoaaW.PrintMore
attribute [local go_sem] max2_int min2_int max_two min_two max_three min_three max_four min_four   -- for this text's walks alone
set_option linter.unusedVariables false
set_option linter.unusedSimpArgs false

/-! ### spec_NodeAt: function 67 -/
def spec_NodeAt.f (k : Nat) (a0_0 : Int) (l0_1 : List (S71)) (l0_2 : List (S75)) (a0_3 : Int) (a0_4 : Int) (a0_5 : Int) (a0_6 : Int) (a0_7 : Int) (l0_8 : List (S81)) (a0_9 : Int) (a1 : Int) (a2 : Int) : Option (Int × Int) := (spec_l1In.f a1 0 (wrap64 ((l0_1.length : Int) - 1))).bind fun t247 => (if t247 = true then (if 0 ≤ a1 then (if a1 < (l0_1.length : Int) then ((spec_PlacesAt.f k ((rd_T71 l0_1 a1).f0) ((rd_T71 l0_1 a1).f1) ((rd_T71 l0_1 a1).f2) ((rd_T71 l0_1 a1).f3) a2).bind fun bt249 => (some (bt249.1, bt249.2))) else (none)) else (none)) else ((spec_IsSite.f a0_0 l0_1 l0_2 a0_3 a0_4 a0_5 a0_6 a0_7 l0_8 a0_9 a1).bind fun t251 => (if t251 = true then (if 0 ≤ (wrap64 (a1 - (l0_1.length : Int))) then (if (wrap64 (a1 - (l0_1.length : Int))) < (l0_2.length : Int) then ((spec_PlaceAt.f 0 ((rd_T75 l0_2 (wrap64 (a1 - (l0_1.length : Int)))).f1) ((rd_T75 l0_2 (wrap64 (a1 - (l0_1.length : Int)))).f2) 0 a2).bind fun t254 => (some (t254, 0))) else (none)) else (none)) else (some (0, 0)))))
theorem spec_NodeAt.mono : ∀ a0 a1 a2 a3 a4 a5 a6 a7 a8 a9 a10 a11 k, LeO (spec_NodeAt.f k a0 a1 a2 a3 a4 a5 a6 a7 a8 a9 a10 a11) (spec_NodeAt.f (k + 1) a0 a1 a2 a3 a4 a5 a6 a7 a8 a9 a10 a11) := by
 intro a0 a1 a2 a3 a4 a5 a6 a7 a8 a9 a10 a11 k
 unfold spec_NodeAt.f
 repeat' first
   | (with_reducible exact spec_PlacesAt.mono _ _ _ _ _ _)
   | (with_reducible exact LeO.refl _)
   | (with_reducible exact LeO.none _)
   | (with_reducible refine LeO.ite ?_ ?_)
   | (with_reducible refine LeO.bind ?_ (fun _ => ?_))
   | exact spec_PlacesAt.mono _ _ _ _ _ _
   | exact LeO.none _
   | refine LeO.ite ?_ ?_
   | refine LeO.bind ?_ (fun _ => ?_)
set_option maxHeartbeats 8000000 in
set_option maxRecDepth 100000 in
theorem spec_NodeAt.calls (k : Nat) (a0_0 : Int) (A0_1 : Option Addr) (c0_1 : Nat) (l0_1 : List (S71)) (A0_2 : Option Addr) (c0_2 : Nat) (l0_2 : List (S75)) (a0_3 : Int) (a0_4 : Int) (a0_5 : Int) (a0_6 : Int) (a0_7 : Int) (A0_8 : Option Addr) (c0_8 : Nat) (l0_8 : List (S81)) (a0_9 : Int) (a1 : Int) (a2 : Int) (r1 : Int) (r2 : Int) (w : World) (hr0_1 : Kd.C k71 w A0_1 l0_1.length l0_1) (hc0_1 : l0_1.length ≤ c0_1) (hr0_2 : Kd.C k75 w A0_2 l0_2.length l0_2) (hc0_2 : l0_2.length ≤ c0_2) (hr0_8 : Kd.C k81 w A0_8 l0_8.length l0_8) (hc0_8 : l0_8.length ≤ c0_8) (h : spec_NodeAt.f k a0_0 l0_1 l0_2 a0_3 a0_4 a0_5 a0_6 a0_7 l0_8 a0_9 a1 a2 = some (r1, r2)) :
  Calls Try.prog 67 #[.agg #[.int .i64 a0_0, .slice A0_1 l0_1.length c0_1, .slice A0_2 l0_2.length c0_2, .int .i64 a0_3, .int .i64 a0_4, .int .i64 a0_5, .int .i64 a0_6, .int .i64 a0_7, .slice A0_8 l0_8.length c0_8, .int .i64 a0_9], .int .i64 a1, .int .i64 a2] w fun e w' => e = .returned (.agg #[.int .i64 r1, .int .i64 r2]) ∧ Below w.heap.size w w' := by
 have hu33 := Try.underlying33
 have hu79 := Try.underlying79
 have hu71 := Try.underlying71
 have hu75 := Try.underlying75
 have HR0_1 := Aside0.mk hr0_1
 have HC0_1 := Aside0.mk hc0_1
 clear hr0_1 hc0_1
 have HR0_2 := Aside0.mk hr0_2
 have HC0_2 := Aside0.mk hc0_2
 clear hr0_2 hc0_2
 have HR0_8 := Aside0.mk hr0_8
 have HC0_8 := Aside0.mk hc0_8
 clear hr0_8 hc0_8
 have HB := Aside0.mk (Below.refl w.heap.size w)
 have H := h
 clear h
 unfold spec_NodeAt.f at H
 replace H := Option.bind_eq_some_iff.mp H
 obtain ⟨t247, A40, H⟩ := H
 have A4 := Aside0.mk A40
 clear A40
 by_cases c5 : t247 = true
 ·subst c5
  have H1 : (if 0 ≤ a1 then (if a1 < (l0_1.length : Int) then ((spec_PlacesAt.f k ((rd_T71 l0_1 a1).f0) ((rd_T71 l0_1 a1).f1) ((rd_T71 l0_1 a1).f2) ((rd_T71 l0_1 a1).f3) a2).bind fun bt249 => (some (bt249.1, bt249.2))) else (none)) else (none)) = some (r1, r2) := by rw [if_pos rfl] at H; exact H
  clear H
  have H := H1
  clear H1
  by_cases c6 : 0 ≤ a1
  ·rw [if_pos c6] at H
   have c6b0 : decide (0 ≤ a1) = true := decide_eq_true c6
   clear c6
   by_cases c7 : a1 < (l0_1.length : Int)
   ·rw [if_pos c7] at H
    have c7b0 : decide (a1 < (l0_1.length : Int)) = true := decide_eq_true c7
    clear c7
    replace H := Option.bind_eq_some_iff.mp H
    obtain ⟨⟨t249, t250⟩, A80, H⟩ := H
    replace H : (some (t249, t250)) = some (r1, r2) := H
    have A8 := Aside0.mk A80
    clear A80
    simp only [Option.some.injEq, Prod.mk.injEq] at H
    obtain ⟨rfl, rfl⟩ := H
    go_enter Try.func67, Try.ntmps67
    go_wp2_with (first | ((with_reducible refine gate_dst (N := 3) rfl ?_); refine box_event ?hg (N := 3) ?hd (cs := #[.int .i64 a0_0, .slice A0_1 l0_1.length c0_1, .slice A0_2 l0_2.length c0_2, .int .i64 a0_3, .int .i64 a0_4, .int .i64 a0_5, .int .i64 a0_6, .int .i64 a0_7, .slice A0_8 l0_8.length c0_8, .int .i64 a0_9]) (t := 33) ?hr ?_; (case hd => rfl); (case hg => rfl); (case hr => first | (go_simp; done) | (go_simp; rfl)); intro gb245 hg w9 hbox hb; have n0_ := Aside0.mk (below_step (bl_ HB) hb); have n1_ := Aside0.mk (hbox); have n2_ := Aside0.mk ((by rw [hg]; exact (below_size (bl_ HB)) : w.heap.size ≤ gb245)); have n3_ := Aside0.mk ((by rw [hg]; exact (below_size (bl_ HB)) : w.heap.size ≤ gb245)); clear HB; have HB := n0_; have BK245 := n1_; have GW245 := n2_; have GE245 := n3_; clear n0_ n1_ n2_ n3_; clear hb hbox hg) | ((with_reducible refine gate_dst (N := 6) rfl ?_); refine box_event ?hg (N := 6) ?hd (cs := #[.int .i64 0, .int .i64 0]) (t := 79) ?hr ?_; (case hd => rfl); (case hg => rfl); (case hr => first | (go_simp; done) | (go_simp; rfl)); intro gb246 hg w10 hbox hb; have n0_ := Aside0.mk (blk_below (bk_ BK245) hb); have n1_ := Aside0.mk (below_step (bl1_ HB GE245) hb); have n2_ := Aside0.mk (hbox); have n3_ := Aside0.mk ((by rw [hg]; exact (below_size (bl1_ HB GE245)) : w.heap.size ≤ gb246)); have n4_ := Aside0.mk ((by rw [hg]; exact (below_size (bl1_ HB GE245)) : w.heap.size ≤ gb246)); have n5_ := Aside0.mk ((by rw [hg]; exact Nat.ne_of_lt (blk_lt (bk_ BK245)) : gb245 ≠ gb246)); have n6_ := Aside0.mk ((by rw [hg]; exact Nat.ne_of_gt (blk_lt (bk_ BK245)) : gb246 ≠ gb245)); clear BK245; clear HB; have BK245 := n0_; have HB := n1_; have BK246 := n2_; have GW246 := n3_; have GE246 := n4_; have NB245_246 := n5_; have NB246_245 := n6_; clear n0_ n1_ n2_ n3_ n4_ n5_ n6_; clear hb hbox hg; have hnb11 := NB245_246.out; have hnc11 := NB246_245.out; have hcz12_0 : w10.cell? ⟨gb245, 0, none⟩ = some (.int .i64 a0_0) := bc_ BK245 0 rfl; have hcz12_1 : w10.cell? ⟨gb245, 1, none⟩ = some (.slice A0_1 l0_1.length c0_1) := bc_ BK245 1 rfl; have hcz12_2 : w10.cell? ⟨gb245, 2, none⟩ = some (.slice A0_2 l0_2.length c0_2) := bc_ BK245 2 rfl; have hcz12_3 : w10.cell? ⟨gb245, 3, none⟩ = some (.int .i64 a0_3) := bc_ BK245 3 rfl; have hcz12_4 : w10.cell? ⟨gb245, 4, none⟩ = some (.int .i64 a0_4) := bc_ BK245 4 rfl; have hcz12_5 : w10.cell? ⟨gb245, 5, none⟩ = some (.int .i64 a0_5) := bc_ BK245 5 rfl; have hcz12_6 : w10.cell? ⟨gb245, 6, none⟩ = some (.int .i64 a0_6) := bc_ BK245 6 rfl; have hcz12_7 : w10.cell? ⟨gb245, 7, none⟩ = some (.int .i64 a0_7) := bc_ BK245 7 rfl; have hcz12_8 : w10.cell? ⟨gb245, 8, none⟩ = some (.slice A0_8 l0_8.length c0_8) := bc_ BK245 8 rfl; have hcz12_9 : w10.cell? ⟨gb245, 9, none⟩ = some (.int .i64 a0_9) := bc_ BK245 9 rfl; have hfz12_0 := bf_ BK245 0; have hfz12_1 := bf_ BK245 1; have hfz12_2 := bf_ BK245 2; have hfz12_3 := bf_ BK245 3; have hfz12_4 := bf_ BK245 4; have hfz12_5 := bf_ BK245 5; have hfz12_6 := bf_ BK245 6; have hfz12_7 := bf_ BK245 7; have hfz12_8 := bf_ BK245 8; have hfz12_9 := bf_ BK245 9) | ((with_reducible refine gate_callee (f := 65) rfl ?_); refine goesL_ (some 13) rfl rfl Try.func65 (by kernel_rfl) rfl #[.int .i64 a1, .int .i64 0, .int .i64 (wrap64 ((l0_1.length : Int) - 1))] rfl mp_ ?_; (with_reducible refine (spec_l1In.calls a1 0 (wrap64 ((l0_1.length : Int) - 1)) true _ A4.out).mono ?_); rintro e w' ⟨rfl, ⟨nd, rfl⟩⟩; refine ⟨_, rfl, ?_⟩; (try (rw [drewN_self w10]; generalize hq_ : World.drewN w10 _ = w10; have n0_ : Aside0 (w10.heap[gb245]? = some (.cells #[.int .i64 a0_0, .slice A0_1 l0_1.length c0_1, .slice A0_2 l0_2.length c0_2, .int .i64 a0_3, .int .i64 a0_4, .int .i64 a0_5, .int .i64 a0_6, .int .i64 a0_7, .slice A0_8 l0_8.length c0_8, .int .i64 a0_9] 33 (0, 0))) := ⟨by rw [← hq_]; exact (bk_ BK245)⟩; have n1_ : Aside0 (w10.heap[gb246]? = some (.cells #[.int .i64 0, .int .i64 0] 79 (0, 0))) := ⟨by rw [← hq_]; exact (bk_ BK246)⟩; have n2_ : Aside0 (Below w.heap.size w w10) := ⟨by rw [← hq_]; exact (bl2_ HB GE245 GE246)⟩; clear BK245 BK246 HB hq_; have BK245 := n0_; have BK246 := n1_; have HB := n2_; clear n0_ n1_ n2_)); have hcz13_0 : w10.cell? ⟨gb245, 0, none⟩ = some (.int .i64 a0_0) := bc_ BK245 0 rfl; have hcz13_1 : w10.cell? ⟨gb245, 1, none⟩ = some (.slice A0_1 l0_1.length c0_1) := bc_ BK245 1 rfl; have hcz13_2 : w10.cell? ⟨gb245, 2, none⟩ = some (.slice A0_2 l0_2.length c0_2) := bc_ BK245 2 rfl; have hcz13_3 : w10.cell? ⟨gb245, 3, none⟩ = some (.int .i64 a0_3) := bc_ BK245 3 rfl; have hcz13_4 : w10.cell? ⟨gb245, 4, none⟩ = some (.int .i64 a0_4) := bc_ BK245 4 rfl; have hcz13_5 : w10.cell? ⟨gb245, 5, none⟩ = some (.int .i64 a0_5) := bc_ BK245 5 rfl; have hcz13_6 : w10.cell? ⟨gb245, 6, none⟩ = some (.int .i64 a0_6) := bc_ BK245 6 rfl; have hcz13_7 : w10.cell? ⟨gb245, 7, none⟩ = some (.int .i64 a0_7) := bc_ BK245 7 rfl; have hcz13_8 : w10.cell? ⟨gb245, 8, none⟩ = some (.slice A0_8 l0_8.length c0_8) := bc_ BK245 8 rfl; have hcz13_9 : w10.cell? ⟨gb245, 9, none⟩ = some (.int .i64 a0_9) := bc_ BK245 9 rfl; have hfz13_0 := bf_ BK245 0; have hfz13_1 := bf_ BK245 1; have hfz13_2 := bf_ BK245 2; have hfz13_3 := bf_ BK245 3; have hfz13_4 := bf_ BK245 4; have hfz13_5 := bf_ BK245 5; have hfz13_6 := bf_ BK245 6; have hfz13_7 := bf_ BK245 7; have hfz13_8 := bf_ BK245 8; have hfz13_9 := bf_ BK245 9; have p248 : 0 ≤ (a1 : Int) := of_decide_eq_true (by first | (with_reducible assumption) | assumption); have q248 : a1 < (l0_1.length : Int) := of_decide_eq_true (by first | (with_reducible assumption) | assumption); obtain ⟨ad248, e248, hx248_0, hx248_1, hx248_2, hx248_3⟩ := at_T71 HR0_1.out a1 p248 q248; cases e248; replace hx248_0 := (HB.out.cell (World.block_lt_of_cell? w _ hx248_0)).trans hx248_0; replace hx248_1 := (HB.out.cell (World.block_lt_of_cell? w _ hx248_1)).trans hx248_1; replace hx248_2 := (HB.out.cell (World.block_lt_of_cell? w _ hx248_2)).trans hx248_2; replace hx248_3 := (HB.out.cell (World.block_lt_of_cell? w _ hx248_3)).trans hx248_3; replace p248 := eq_true p248; replace q248 := eq_true q248) | ((with_reducible refine gate_callee (f := 84) rfl ?_); refine goesL_ (some 20) rfl rfl Try.func84 (by kernel_rfl) rfl #[.agg #[.int .i64 ((rd_T71 l0_1 a1).f0), .int .i64 ((rd_T71 l0_1 a1).f1), .int .i64 ((rd_T71 l0_1 a1).f2), .int .i64 ((rd_T71 l0_1 a1).f3)], .int .i64 a2] rfl mp_ ?_; (with_reducible refine (spec_PlacesAt.calls k ((rd_T71 l0_1 a1).f0) ((rd_T71 l0_1 a1).f1) ((rd_T71 l0_1 a1).f2) ((rd_T71 l0_1 a1).f3) a2 t249 t250 _ A8.out).mono ?_); rintro e w14 ⟨rfl, hb⟩; refine ⟨_, rfl, ?_⟩; have n0_ := Aside0.mk (blk_below (bk_ BK245) hb); have n1_ := Aside0.mk (blk_below (bk_ BK246) hb); have n2_ := Aside0.mk (below_step (bl2_ HB GE245 GE246) hb); clear BK245; clear BK246; clear HB; have BK245 := n0_; have BK246 := n1_; have HB := n2_; clear n0_ n1_ n2_; (try clear hb); (try clear hb2); (try clear hk); (try clear hi); have hcz15_0 : w14.cell? ⟨gb246, 0, none⟩ = some (.int .i64 0) := bc_ BK246 0 rfl; have hcz15_1 : w14.cell? ⟨gb246, 1, none⟩ = some (.int .i64 0) := bc_ BK246 1 rfl; have hfz15_0 := bf_ BK246 0; have hfz15_1 := bf_ BK246 1))
    refine bodyPost_ret (results_cell_row rfl _ _ gb246 79 #[.int .i64 t249, .int .i64 t250] (0, 0) _ rfl (by (with_reducible repeat (first | refine blk_drewN ?_ _ | refine blk_drew ?_ | refine blk_alloc ?_ _)); refine blk_put (cs := #[.int .i64 t249, .int .i64 0]) ?_ 1 _ rfl; (with_reducible repeat (first | refine blk_drewN ?_ _ | refine blk_drew ?_ | refine blk_alloc ?_ _)); refine blk_put (cs := #[.int .i64 0, .int .i64 0]) ?_ 0 _ rfl; (with_reducible repeat (first | refine blk_drewN ?_ _ | refine blk_drew ?_ | refine blk_alloc ?_ _)); exact BK246.out) Try.underlying79 rfl (by kernel_rfl)) rfl ?_
    exact ⟨by first | rfl | (simp [errW_none, errW_some] <;> rfl) | (simp [*, errW_none, errW_some] <;> rfl), by repeat (first | (with_reducible first | exact HB.out | apply below_alloc | apply pw_below_drewN | apply below_drew1 | refine below_set ?_ GE245.out | refine below_set ?_ GE246.out) | exact HB.out)⟩
   ·rw [if_neg c7] at H
    exact absurd H (by simp)
  ·rw [if_neg c6] at H
   exact absurd H (by simp)
 ·replace c5 := Bool.eq_false_iff.mpr c5
  subst c5
  have H1 : ((spec_IsSite.f a0_0 l0_1 l0_2 a0_3 a0_4 a0_5 a0_6 a0_7 l0_8 a0_9 a1).bind fun t251 => (if t251 = true then (if 0 ≤ (wrap64 (a1 - (l0_1.length : Int))) then (if (wrap64 (a1 - (l0_1.length : Int))) < (l0_2.length : Int) then ((spec_PlaceAt.f 0 ((rd_T75 l0_2 (wrap64 (a1 - (l0_1.length : Int)))).f1) ((rd_T75 l0_2 (wrap64 (a1 - (l0_1.length : Int)))).f2) 0 a2).bind fun t254 => (some (t254, 0))) else (none)) else (none)) else (some (0, 0)))) = some (r1, r2) := by rw [if_neg (show ¬ (false = true) by decide)] at H; exact H
  clear H
  have H := H1
  clear H1
  replace H := Option.bind_eq_some_iff.mp H
  obtain ⟨t251, A160, H⟩ := H
  have A16 := Aside0.mk A160
  clear A160
  by_cases c17 : t251 = true
  ·subst c17
   have H1 : (if 0 ≤ (wrap64 (a1 - (l0_1.length : Int))) then (if (wrap64 (a1 - (l0_1.length : Int))) < (l0_2.length : Int) then ((spec_PlaceAt.f 0 ((rd_T75 l0_2 (wrap64 (a1 - (l0_1.length : Int)))).f1) ((rd_T75 l0_2 (wrap64 (a1 - (l0_1.length : Int)))).f2) 0 a2).bind fun t254 => (some (t254, 0))) else (none)) else (none)) = some (r1, r2) := by rw [if_pos rfl] at H; exact H
   clear H
   have H := H1
   clear H1
   obtain ⟨ji18, hji18⟩ : ∃ j_ : Int, (wrap64 (a1 - (l0_1.length : Int))) = j_ := ⟨_, rfl⟩
   replace H : (if 0 ≤ (ji18) then (if (ji18) < (l0_2.length : Int) then ((spec_PlaceAt.f 0 ((rd_T75 l0_2 (ji18)).f1) ((rd_T75 l0_2 (ji18)).f2) 0 a2).bind fun t254 => (some (t254, 0))) else (none)) else (none)) = some (r1, r2) := by first | (rw [hji18] at H; exact H) | (simp only [hji18] at H ⊢; exact H)
   (try rw [hji18] at A4)
   (try rw [hji18] at A16)
   have hji18w : (IntKind.i64.wrap (a1 - (l0_1.length : Int))) = ji18 := (i64_w _).trans hji18
   by_cases c19 : 0 ≤ (ji18)
   ·rw [if_pos c19] at H
    have c19b0 : decide (0 ≤ (ji18)) = true := decide_eq_true c19
    clear c19
    by_cases c20 : (ji18) < (l0_2.length : Int)
    ·rw [if_pos c20] at H
     have c20b0 : decide ((ji18) < (l0_2.length : Int)) = true := decide_eq_true c20
     clear c20
     replace H := Option.bind_eq_some_iff.mp H
     obtain ⟨t254, A210, H⟩ := H
     have A21 := Aside0.mk A210
     clear A210
     simp only [Option.some.injEq, Prod.mk.injEq] at H
     obtain ⟨rfl, rfl⟩ := H
     go_enter Try.func67, Try.ntmps67
     go_wp2_with (first | ((with_reducible refine gate_dst (N := 3) rfl ?_); refine box_event ?hg (N := 3) ?hd (cs := #[.int .i64 a0_0, .slice A0_1 l0_1.length c0_1, .slice A0_2 l0_2.length c0_2, .int .i64 a0_3, .int .i64 a0_4, .int .i64 a0_5, .int .i64 a0_6, .int .i64 a0_7, .slice A0_8 l0_8.length c0_8, .int .i64 a0_9]) (t := 33) ?hr ?_; (case hd => rfl); (case hg => rfl); (case hr => first | (go_simp; done) | (go_simp; rfl)); intro gb245 hg w22 hbox hb; have n0_ := Aside0.mk (below_step (bl_ HB) hb); have n1_ := Aside0.mk (hbox); have n2_ := Aside0.mk ((by rw [hg]; exact (below_size (bl_ HB)) : w.heap.size ≤ gb245)); have n3_ := Aside0.mk ((by rw [hg]; exact (below_size (bl_ HB)) : w.heap.size ≤ gb245)); clear HB; have HB := n0_; have BK245 := n1_; have GW245 := n2_; have GE245 := n3_; clear n0_ n1_ n2_ n3_; clear hb hbox hg) | ((with_reducible refine gate_dst (N := 6) rfl ?_); refine box_event ?hg (N := 6) ?hd (cs := #[.int .i64 0, .int .i64 0]) (t := 79) ?hr ?_; (case hd => rfl); (case hg => rfl); (case hr => first | (go_simp; done) | (go_simp; rfl)); intro gb246 hg w23 hbox hb; have n0_ := Aside0.mk (blk_below (bk_ BK245) hb); have n1_ := Aside0.mk (below_step (bl1_ HB GE245) hb); have n2_ := Aside0.mk (hbox); have n3_ := Aside0.mk ((by rw [hg]; exact (below_size (bl1_ HB GE245)) : w.heap.size ≤ gb246)); have n4_ := Aside0.mk ((by rw [hg]; exact (below_size (bl1_ HB GE245)) : w.heap.size ≤ gb246)); have n5_ := Aside0.mk ((by rw [hg]; exact Nat.ne_of_lt (blk_lt (bk_ BK245)) : gb245 ≠ gb246)); have n6_ := Aside0.mk ((by rw [hg]; exact Nat.ne_of_gt (blk_lt (bk_ BK245)) : gb246 ≠ gb245)); clear BK245; clear HB; have BK245 := n0_; have HB := n1_; have BK246 := n2_; have GW246 := n3_; have GE246 := n4_; have NB245_246 := n5_; have NB246_245 := n6_; clear n0_ n1_ n2_ n3_ n4_ n5_ n6_; clear hb hbox hg; have hnb24 := NB245_246.out; have hnc24 := NB246_245.out; have hcz25_0 : w23.cell? ⟨gb245, 0, none⟩ = some (.int .i64 a0_0) := bc_ BK245 0 rfl; have hcz25_1 : w23.cell? ⟨gb245, 1, none⟩ = some (.slice A0_1 l0_1.length c0_1) := bc_ BK245 1 rfl; have hcz25_2 : w23.cell? ⟨gb245, 2, none⟩ = some (.slice A0_2 l0_2.length c0_2) := bc_ BK245 2 rfl; have hcz25_3 : w23.cell? ⟨gb245, 3, none⟩ = some (.int .i64 a0_3) := bc_ BK245 3 rfl; have hcz25_4 : w23.cell? ⟨gb245, 4, none⟩ = some (.int .i64 a0_4) := bc_ BK245 4 rfl; have hcz25_5 : w23.cell? ⟨gb245, 5, none⟩ = some (.int .i64 a0_5) := bc_ BK245 5 rfl; have hcz25_6 : w23.cell? ⟨gb245, 6, none⟩ = some (.int .i64 a0_6) := bc_ BK245 6 rfl; have hcz25_7 : w23.cell? ⟨gb245, 7, none⟩ = some (.int .i64 a0_7) := bc_ BK245 7 rfl; have hcz25_8 : w23.cell? ⟨gb245, 8, none⟩ = some (.slice A0_8 l0_8.length c0_8) := bc_ BK245 8 rfl; have hcz25_9 : w23.cell? ⟨gb245, 9, none⟩ = some (.int .i64 a0_9) := bc_ BK245 9 rfl; have hfz25_0 := bf_ BK245 0; have hfz25_1 := bf_ BK245 1; have hfz25_2 := bf_ BK245 2; have hfz25_3 := bf_ BK245 3; have hfz25_4 := bf_ BK245 4; have hfz25_5 := bf_ BK245 5; have hfz25_6 := bf_ BK245 6; have hfz25_7 := bf_ BK245 7; have hfz25_8 := bf_ BK245 8; have hfz25_9 := bf_ BK245 9) | ((with_reducible refine gate_callee (f := 65) rfl ?_); refine goesL_ (some 13) rfl rfl Try.func65 (by kernel_rfl) rfl #[.int .i64 a1, .int .i64 0, .int .i64 (wrap64 ((l0_1.length : Int) - 1))] rfl mp_ ?_; (with_reducible refine (spec_l1In.calls a1 0 (wrap64 ((l0_1.length : Int) - 1)) false _ A4.out).mono ?_); rintro e w' ⟨rfl, ⟨nd, rfl⟩⟩; refine ⟨_, rfl, ?_⟩; (try (rw [drewN_self w23]; generalize hq_ : World.drewN w23 _ = w23; have n0_ : Aside0 (w23.heap[gb245]? = some (.cells #[.int .i64 a0_0, .slice A0_1 l0_1.length c0_1, .slice A0_2 l0_2.length c0_2, .int .i64 a0_3, .int .i64 a0_4, .int .i64 a0_5, .int .i64 a0_6, .int .i64 a0_7, .slice A0_8 l0_8.length c0_8, .int .i64 a0_9] 33 (0, 0))) := ⟨by rw [← hq_]; exact (bk_ BK245)⟩; have n1_ : Aside0 (w23.heap[gb246]? = some (.cells #[.int .i64 0, .int .i64 0] 79 (0, 0))) := ⟨by rw [← hq_]; exact (bk_ BK246)⟩; have n2_ : Aside0 (Below w.heap.size w w23) := ⟨by rw [← hq_]; exact (bl2_ HB GE245 GE246)⟩; clear BK245 BK246 HB hq_; have BK245 := n0_; have BK246 := n1_; have HB := n2_; clear n0_ n1_ n2_)); have hcz26_0 : w23.cell? ⟨gb245, 0, none⟩ = some (.int .i64 a0_0) := bc_ BK245 0 rfl; have hcz26_1 : w23.cell? ⟨gb245, 1, none⟩ = some (.slice A0_1 l0_1.length c0_1) := bc_ BK245 1 rfl; have hcz26_2 : w23.cell? ⟨gb245, 2, none⟩ = some (.slice A0_2 l0_2.length c0_2) := bc_ BK245 2 rfl; have hcz26_3 : w23.cell? ⟨gb245, 3, none⟩ = some (.int .i64 a0_3) := bc_ BK245 3 rfl; have hcz26_4 : w23.cell? ⟨gb245, 4, none⟩ = some (.int .i64 a0_4) := bc_ BK245 4 rfl; have hcz26_5 : w23.cell? ⟨gb245, 5, none⟩ = some (.int .i64 a0_5) := bc_ BK245 5 rfl; have hcz26_6 : w23.cell? ⟨gb245, 6, none⟩ = some (.int .i64 a0_6) := bc_ BK245 6 rfl; have hcz26_7 : w23.cell? ⟨gb245, 7, none⟩ = some (.int .i64 a0_7) := bc_ BK245 7 rfl; have hcz26_8 : w23.cell? ⟨gb245, 8, none⟩ = some (.slice A0_8 l0_8.length c0_8) := bc_ BK245 8 rfl; have hcz26_9 : w23.cell? ⟨gb245, 9, none⟩ = some (.int .i64 a0_9) := bc_ BK245 9 rfl; have hfz26_0 := bf_ BK245 0; have hfz26_1 := bf_ BK245 1; have hfz26_2 := bf_ BK245 2; have hfz26_3 := bf_ BK245 3; have hfz26_4 := bf_ BK245 4; have hfz26_5 := bf_ BK245 5; have hfz26_6 := bf_ BK245 6; have hfz26_7 := bf_ BK245 7; have hfz26_8 := bf_ BK245 8; have hfz26_9 := bf_ BK245 9) | ((with_reducible refine gate_callee (f := 85) rfl ?_); refine goesL_ (some 23) rfl rfl Try.func85 (by kernel_rfl) rfl #[.agg #[.int .i64 a0_0, .slice A0_1 l0_1.length c0_1, .slice A0_2 l0_2.length c0_2, .int .i64 a0_3, .int .i64 a0_4, .int .i64 a0_5, .int .i64 a0_6, .int .i64 a0_7, .slice A0_8 l0_8.length c0_8, .int .i64 a0_9], .int .i64 a1] rfl mp_ ?_; (with_reducible refine (spec_IsSite.calls a0_0 _ _ l0_1 _ _ l0_2 a0_3 a0_4 a0_5 a0_6 a0_7 _ _ l0_8 a0_9 a1 true _ ?side1 ?side2 ?side3 ?side4 ?side5 ?side6 A16.out).mono ?_); (case side1 => exact ck_ HR0_1 HB); (case side2 => exact HC0_1.out); (case side3 => exact ck_ HR0_2 HB); (case side4 => exact HC0_2.out); (case side5 => exact ck_ HR0_8 HB); (case side6 => exact HC0_8.out); rintro e w27 ⟨rfl, hb⟩; refine ⟨_, rfl, ?_⟩; have n0_ := Aside0.mk (blk_below (bk_ BK245) hb); have n1_ := Aside0.mk (blk_below (bk_ BK246) hb); have n2_ := Aside0.mk (below_step (bl2_ HB GE245 GE246) hb); clear BK245; clear BK246; clear HB; have BK245 := n0_; have BK246 := n1_; have HB := n2_; clear n0_ n1_ n2_; (try clear hb); (try clear hb2); (try clear hk); (try clear hi); have hcz28_0 : w27.cell? ⟨gb245, 0, none⟩ = some (.int .i64 a0_0) := bc_ BK245 0 rfl; have hcz28_1 : w27.cell? ⟨gb245, 1, none⟩ = some (.slice A0_1 l0_1.length c0_1) := bc_ BK245 1 rfl; have hcz28_2 : w27.cell? ⟨gb245, 2, none⟩ = some (.slice A0_2 l0_2.length c0_2) := bc_ BK245 2 rfl; have hcz28_3 : w27.cell? ⟨gb245, 3, none⟩ = some (.int .i64 a0_3) := bc_ BK245 3 rfl; have hcz28_4 : w27.cell? ⟨gb245, 4, none⟩ = some (.int .i64 a0_4) := bc_ BK245 4 rfl; have hcz28_5 : w27.cell? ⟨gb245, 5, none⟩ = some (.int .i64 a0_5) := bc_ BK245 5 rfl; have hcz28_6 : w27.cell? ⟨gb245, 6, none⟩ = some (.int .i64 a0_6) := bc_ BK245 6 rfl; have hcz28_7 : w27.cell? ⟨gb245, 7, none⟩ = some (.int .i64 a0_7) := bc_ BK245 7 rfl; have hcz28_8 : w27.cell? ⟨gb245, 8, none⟩ = some (.slice A0_8 l0_8.length c0_8) := bc_ BK245 8 rfl; have hcz28_9 : w27.cell? ⟨gb245, 9, none⟩ = some (.int .i64 a0_9) := bc_ BK245 9 rfl; have hfz28_0 := bf_ BK245 0; have hfz28_1 := bf_ BK245 1; have hfz28_2 := bf_ BK245 2; have hfz28_3 := bf_ BK245 3; have hfz28_4 := bf_ BK245 4; have hfz28_5 := bf_ BK245 5; have hfz28_6 := bf_ BK245 6; have hfz28_7 := bf_ BK245 7; have hfz28_8 := bf_ BK245 8; have hfz28_9 := bf_ BK245 9; have p252 : 0 ≤ ((ji18) : Int) := of_decide_eq_true (by first | (with_reducible assumption) | assumption); have q252 : (ji18) < (l0_2.length : Int) := of_decide_eq_true (by first | (with_reducible assumption) | assumption); obtain ⟨ad252, e252, hx252_0, hx252_1, hx252_2⟩ := at_T75 HR0_2.out (ji18) p252 q252; cases e252; replace hx252_0 := (HB.out.cell (World.block_lt_of_cell? w _ hx252_0)).trans hx252_0; replace hx252_1 := (HB.out.cell (World.block_lt_of_cell? w _ hx252_1)).trans hx252_1; replace hx252_2 := (HB.out.cell (World.block_lt_of_cell? w _ hx252_2)).trans hx252_2; replace p252 := eq_true p252; replace q252 := eq_true q252) | ((with_reducible refine gate_dst (N := 7) rfl ?_); refine box_event ?hg (N := 7) ?hd (cs := #[.int .i64 0, .int .i64 0, .int .i64 0]) (t := 75) ?hr ?_; (case hd => rfl); (case hg => rfl); (case hr => first | (go_simp; done) | (go_simp; rfl)); intro gb253 hg w29 hbox hb; have n0_ := Aside0.mk (blk_below (bk_ BK245) hb); have n1_ := Aside0.mk (blk_below (bk_ BK246) hb); have n2_ := Aside0.mk (below_step (bl2_ HB GE245 GE246) hb); have n3_ := Aside0.mk (hbox); have n4_ := Aside0.mk ((by rw [hg]; exact (below_size (bl2_ HB GE245 GE246)) : w.heap.size ≤ gb253)); have n5_ := Aside0.mk ((by rw [hg]; exact (below_size (bl2_ HB GE245 GE246)) : w.heap.size ≤ gb253)); have n6_ := Aside0.mk ((by rw [hg]; exact Nat.ne_of_lt (blk_lt (bk_ BK245)) : gb245 ≠ gb253)); have n7_ := Aside0.mk ((by rw [hg]; exact Nat.ne_of_gt (blk_lt (bk_ BK245)) : gb253 ≠ gb245)); have n8_ := Aside0.mk ((by rw [hg]; exact Nat.ne_of_lt (blk_lt (bk_ BK246)) : gb246 ≠ gb253)); have n9_ := Aside0.mk ((by rw [hg]; exact Nat.ne_of_gt (blk_lt (bk_ BK246)) : gb253 ≠ gb246)); clear BK245; clear BK246; clear HB; have BK245 := n0_; have BK246 := n1_; have HB := n2_; have BK253 := n3_; have GW253 := n4_; have GE253 := n5_; have NB245_253 := n6_; have NB253_245 := n7_; have NB246_253 := n8_; have NB253_246 := n9_; clear n0_ n1_ n2_ n3_ n4_ n5_ n6_ n7_ n8_ n9_; clear hb hbox hg; have hnb30 := NB253_245.out; have hnc30 := NB245_253.out; have hnb31 := NB253_246.out; have hnc31 := NB246_253.out; have hcz32_0 : w29.cell? ⟨gb253, 0, none⟩ = some (.int .i64 0) := bc_ BK253 0 rfl; have hcz32_1 : w29.cell? ⟨gb253, 1, none⟩ = some (.int .i64 0) := bc_ BK253 1 rfl; have hcz32_2 : w29.cell? ⟨gb253, 2, none⟩ = some (.int .i64 0) := bc_ BK253 2 rfl; have hfz32_0 := bf_ BK253 0; have hfz32_1 := bf_ BK253 1; have hfz32_2 := bf_ BK253 2) | ((with_reducible refine gate_callee (f := 86) rfl ?_); refine goesL_ (some 41) rfl rfl Try.func86 (by kernel_rfl) rfl #[.agg #[.int .i64 0, .int .i64 ((rd_T75 l0_2 (ji18)).f1), .int .i64 ((rd_T75 l0_2 (ji18)).f2), .int .i64 0], .int .i64 a2] rfl (by (try simp only [List.map_toArray, List.map_cons, List.map_nil]); first | done | (simp only [hji18]; rfl) | rfl | (simp only [List.length_drop, List.length_take]; rfl)) ?_; (with_reducible refine (spec_PlaceAt.calls 0 ((rd_T75 l0_2 (ji18)).f1) ((rd_T75 l0_2 (ji18)).f2) 0 a2 t254 _ A21.out).mono ?_); rintro e w33 ⟨rfl, hb⟩; refine ⟨_, rfl, ?_⟩; have n0_ := Aside0.mk (blk_below (g := gb245) (o := .cells #[.int .i64 a0_0, .slice A0_1 l0_1.length c0_1, .slice (some ad252) l0_2.length c0_2, .int .i64 a0_3, .int .i64 a0_4, .int .i64 a0_5, .int .i64 a0_6, .int .i64 a0_7, .slice A0_8 l0_8.length c0_8, .int .i64 a0_9] 33 (0, 0)) (by (with_reducible repeat (first | refine blk_drewN ?_ _ | refine blk_drew ?_ | refine blk_alloc ?_ _)); refine blk_far ?_ NB245_253.out _; (with_reducible repeat (first | refine blk_drewN ?_ _ | refine blk_drew ?_ | refine blk_alloc ?_ _)); refine blk_far ?_ NB245_253.out _; (with_reducible repeat (first | refine blk_drewN ?_ _ | refine blk_drew ?_ | refine blk_alloc ?_ _)); refine blk_far ?_ NB245_253.out _; (with_reducible repeat (first | refine blk_drewN ?_ _ | refine blk_drew ?_ | refine blk_alloc ?_ _)); exact BK245.out) hb); have n1_ := Aside0.mk (blk_below (g := gb246) (o := .cells #[.int .i64 0, .int .i64 0] 79 (0, 0)) (by (with_reducible repeat (first | refine blk_drewN ?_ _ | refine blk_drew ?_ | refine blk_alloc ?_ _)); refine blk_far ?_ NB246_253.out _; (with_reducible repeat (first | refine blk_drewN ?_ _ | refine blk_drew ?_ | refine blk_alloc ?_ _)); refine blk_far ?_ NB246_253.out _; (with_reducible repeat (first | refine blk_drewN ?_ _ | refine blk_drew ?_ | refine blk_alloc ?_ _)); refine blk_far ?_ NB246_253.out _; (with_reducible repeat (first | refine blk_drewN ?_ _ | refine blk_drew ?_ | refine blk_alloc ?_ _)); exact BK246.out) hb); have n2_ := Aside0.mk (blk_below (g := gb253) (o := .cells #[.int .i64 ((rd_T75 l0_2 (ji18)).f0), .int .i64 ((rd_T75 l0_2 (ji18)).f1), .int .i64 ((rd_T75 l0_2 (ji18)).f2)] 75 (0, 0)) (by (with_reducible repeat (first | refine blk_drewN ?_ _ | refine blk_drew ?_ | refine blk_alloc ?_ _)); refine blk_put (cs := #[.int .i64 ((rd_T75 l0_2 (ji18)).f0), .int .i64 ((rd_T75 l0_2 (ji18)).f1), .int .i64 0]) ?_ 2 _ rfl; (with_reducible repeat (first | refine blk_drewN ?_ _ | refine blk_drew ?_ | refine blk_alloc ?_ _)); refine blk_put (cs := #[.int .i64 ((rd_T75 l0_2 (ji18)).f0), .int .i64 0, .int .i64 0]) ?_ 1 _ rfl; (with_reducible repeat (first | refine blk_drewN ?_ _ | refine blk_drew ?_ | refine blk_alloc ?_ _)); refine blk_put (cs := #[.int .i64 0, .int .i64 0, .int .i64 0]) ?_ 0 _ rfl; (with_reducible repeat (first | refine blk_drewN ?_ _ | refine blk_drew ?_ | refine blk_alloc ?_ _)); exact BK253.out) hb); have n3_ := Aside0.mk (below_step (bl3_ HB GE245 GE246 GE253) hb); clear BK245; clear BK246; clear BK253; clear HB; have BK245 := n0_; have BK246 := n1_; have BK253 := n2_; have HB := n3_; clear n0_ n1_ n2_ n3_; (try clear hb); (try clear hb2); (try clear hk); (try clear hi); have hcz34_0 : w33.cell? ⟨gb246, 0, none⟩ = some (.int .i64 0) := bc_ BK246 0 rfl; have hcz34_1 : w33.cell? ⟨gb246, 1, none⟩ = some (.int .i64 0) := bc_ BK246 1 rfl; have hfz34_0 := bf_ BK246 0; have hfz34_1 := bf_ BK246 1))
     refine bodyPost_ret (results_cell_row rfl _ _ gb246 79 #[.int .i64 t254, .int .i64 0] (0, 0) _ rfl (by (with_reducible repeat (first | refine blk_drewN ?_ _ | refine blk_drew ?_ | refine blk_alloc ?_ _)); refine blk_put (cs := #[.int .i64 t254, .int .i64 0]) ?_ 1 _ rfl; (with_reducible repeat (first | refine blk_drewN ?_ _ | refine blk_drew ?_ | refine blk_alloc ?_ _)); refine blk_put (cs := #[.int .i64 0, .int .i64 0]) ?_ 0 _ rfl; (with_reducible repeat (first | refine blk_drewN ?_ _ | refine blk_drew ?_ | refine blk_alloc ?_ _)); exact BK246.out) Try.underlying79 rfl (by kernel_rfl)) rfl ?_
     exact ⟨by first | rfl | (simp [errW_none, errW_some] <;> rfl) | (simp only [← hji18]; first | rfl | (simp [errW_none, errW_some] <;> rfl)) | (simp [*, errW_none, errW_some] <;> rfl), by repeat (first | (with_reducible first | exact HB.out | apply below_alloc | apply pw_below_drewN | apply below_drew1 | refine below_set ?_ GE245.out | refine below_set ?_ GE246.out | refine below_set ?_ GE253.out) | exact HB.out)⟩
    ·rw [if_neg c20] at H
     exact absurd H (by simp)
   ·rw [if_neg c19] at H
    exact absurd H (by simp)
  ·replace c17 := Bool.eq_false_iff.mpr c17
   subst c17
   have H1 : (some (0, 0)) = some (r1, r2) := by rw [if_neg (show ¬ (false = true) by decide)] at H; exact H
   clear H
   have H := H1
   clear H1
   simp only [Option.some.injEq, Prod.mk.injEq] at H
   obtain ⟨rfl, rfl⟩ := H
   go_enter Try.func67, Try.ntmps67
   go_wp2_with (first | ((with_reducible refine gate_dst (N := 3) rfl ?_); refine box_event ?hg (N := 3) ?hd (cs := #[.int .i64 a0_0, .slice A0_1 l0_1.length c0_1, .slice A0_2 l0_2.length c0_2, .int .i64 a0_3, .int .i64 a0_4, .int .i64 a0_5, .int .i64 a0_6, .int .i64 a0_7, .slice A0_8 l0_8.length c0_8, .int .i64 a0_9]) (t := 33) ?hr ?_; (case hd => rfl); (case hg => rfl); (case hr => first | (go_simp; done) | (go_simp; rfl)); intro gb245 hg w35 hbox hb; have n0_ := Aside0.mk (below_step (bl_ HB) hb); have n1_ := Aside0.mk (hbox); have n2_ := Aside0.mk ((by rw [hg]; exact (below_size (bl_ HB)) : w.heap.size ≤ gb245)); have n3_ := Aside0.mk ((by rw [hg]; exact (below_size (bl_ HB)) : w.heap.size ≤ gb245)); clear HB; have HB := n0_; have BK245 := n1_; have GW245 := n2_; have GE245 := n3_; clear n0_ n1_ n2_ n3_; clear hb hbox hg) | ((with_reducible refine gate_dst (N := 6) rfl ?_); refine box_event ?hg (N := 6) ?hd (cs := #[.int .i64 0, .int .i64 0]) (t := 79) ?hr ?_; (case hd => rfl); (case hg => rfl); (case hr => first | (go_simp; done) | (go_simp; rfl)); intro gb246 hg w36 hbox hb; have n0_ := Aside0.mk (blk_below (bk_ BK245) hb); have n1_ := Aside0.mk (below_step (bl1_ HB GE245) hb); have n2_ := Aside0.mk (hbox); have n3_ := Aside0.mk ((by rw [hg]; exact (below_size (bl1_ HB GE245)) : w.heap.size ≤ gb246)); have n4_ := Aside0.mk ((by rw [hg]; exact (below_size (bl1_ HB GE245)) : w.heap.size ≤ gb246)); have n5_ := Aside0.mk ((by rw [hg]; exact Nat.ne_of_lt (blk_lt (bk_ BK245)) : gb245 ≠ gb246)); have n6_ := Aside0.mk ((by rw [hg]; exact Nat.ne_of_gt (blk_lt (bk_ BK245)) : gb246 ≠ gb245)); clear BK245; clear HB; have BK245 := n0_; have HB := n1_; have BK246 := n2_; have GW246 := n3_; have GE246 := n4_; have NB245_246 := n5_; have NB246_245 := n6_; clear n0_ n1_ n2_ n3_ n4_ n5_ n6_; clear hb hbox hg; have hnb37 := NB245_246.out; have hnc37 := NB246_245.out; have hcz38_0 : w36.cell? ⟨gb245, 0, none⟩ = some (.int .i64 a0_0) := bc_ BK245 0 rfl; have hcz38_1 : w36.cell? ⟨gb245, 1, none⟩ = some (.slice A0_1 l0_1.length c0_1) := bc_ BK245 1 rfl; have hcz38_2 : w36.cell? ⟨gb245, 2, none⟩ = some (.slice A0_2 l0_2.length c0_2) := bc_ BK245 2 rfl; have hcz38_3 : w36.cell? ⟨gb245, 3, none⟩ = some (.int .i64 a0_3) := bc_ BK245 3 rfl; have hcz38_4 : w36.cell? ⟨gb245, 4, none⟩ = some (.int .i64 a0_4) := bc_ BK245 4 rfl; have hcz38_5 : w36.cell? ⟨gb245, 5, none⟩ = some (.int .i64 a0_5) := bc_ BK245 5 rfl; have hcz38_6 : w36.cell? ⟨gb245, 6, none⟩ = some (.int .i64 a0_6) := bc_ BK245 6 rfl; have hcz38_7 : w36.cell? ⟨gb245, 7, none⟩ = some (.int .i64 a0_7) := bc_ BK245 7 rfl; have hcz38_8 : w36.cell? ⟨gb245, 8, none⟩ = some (.slice A0_8 l0_8.length c0_8) := bc_ BK245 8 rfl; have hcz38_9 : w36.cell? ⟨gb245, 9, none⟩ = some (.int .i64 a0_9) := bc_ BK245 9 rfl; have hfz38_0 := bf_ BK245 0; have hfz38_1 := bf_ BK245 1; have hfz38_2 := bf_ BK245 2; have hfz38_3 := bf_ BK245 3; have hfz38_4 := bf_ BK245 4; have hfz38_5 := bf_ BK245 5; have hfz38_6 := bf_ BK245 6; have hfz38_7 := bf_ BK245 7; have hfz38_8 := bf_ BK245 8; have hfz38_9 := bf_ BK245 9) | ((with_reducible refine gate_callee (f := 65) rfl ?_); refine goesL_ (some 13) rfl rfl Try.func65 (by kernel_rfl) rfl #[.int .i64 a1, .int .i64 0, .int .i64 (wrap64 ((l0_1.length : Int) - 1))] rfl mp_ ?_; (with_reducible refine (spec_l1In.calls a1 0 (wrap64 ((l0_1.length : Int) - 1)) false _ A4.out).mono ?_); rintro e w' ⟨rfl, ⟨nd, rfl⟩⟩; refine ⟨_, rfl, ?_⟩; (try (rw [drewN_self w36]; generalize hq_ : World.drewN w36 _ = w36; have n0_ : Aside0 (w36.heap[gb245]? = some (.cells #[.int .i64 a0_0, .slice A0_1 l0_1.length c0_1, .slice A0_2 l0_2.length c0_2, .int .i64 a0_3, .int .i64 a0_4, .int .i64 a0_5, .int .i64 a0_6, .int .i64 a0_7, .slice A0_8 l0_8.length c0_8, .int .i64 a0_9] 33 (0, 0))) := ⟨by rw [← hq_]; exact (bk_ BK245)⟩; have n1_ : Aside0 (w36.heap[gb246]? = some (.cells #[.int .i64 0, .int .i64 0] 79 (0, 0))) := ⟨by rw [← hq_]; exact (bk_ BK246)⟩; have n2_ : Aside0 (Below w.heap.size w w36) := ⟨by rw [← hq_]; exact (bl2_ HB GE245 GE246)⟩; clear BK245 BK246 HB hq_; have BK245 := n0_; have BK246 := n1_; have HB := n2_; clear n0_ n1_ n2_)); have hcz39_0 : w36.cell? ⟨gb245, 0, none⟩ = some (.int .i64 a0_0) := bc_ BK245 0 rfl; have hcz39_1 : w36.cell? ⟨gb245, 1, none⟩ = some (.slice A0_1 l0_1.length c0_1) := bc_ BK245 1 rfl; have hcz39_2 : w36.cell? ⟨gb245, 2, none⟩ = some (.slice A0_2 l0_2.length c0_2) := bc_ BK245 2 rfl; have hcz39_3 : w36.cell? ⟨gb245, 3, none⟩ = some (.int .i64 a0_3) := bc_ BK245 3 rfl; have hcz39_4 : w36.cell? ⟨gb245, 4, none⟩ = some (.int .i64 a0_4) := bc_ BK245 4 rfl; have hcz39_5 : w36.cell? ⟨gb245, 5, none⟩ = some (.int .i64 a0_5) := bc_ BK245 5 rfl; have hcz39_6 : w36.cell? ⟨gb245, 6, none⟩ = some (.int .i64 a0_6) := bc_ BK245 6 rfl; have hcz39_7 : w36.cell? ⟨gb245, 7, none⟩ = some (.int .i64 a0_7) := bc_ BK245 7 rfl; have hcz39_8 : w36.cell? ⟨gb245, 8, none⟩ = some (.slice A0_8 l0_8.length c0_8) := bc_ BK245 8 rfl; have hcz39_9 : w36.cell? ⟨gb245, 9, none⟩ = some (.int .i64 a0_9) := bc_ BK245 9 rfl; have hfz39_0 := bf_ BK245 0; have hfz39_1 := bf_ BK245 1; have hfz39_2 := bf_ BK245 2; have hfz39_3 := bf_ BK245 3; have hfz39_4 := bf_ BK245 4; have hfz39_5 := bf_ BK245 5; have hfz39_6 := bf_ BK245 6; have hfz39_7 := bf_ BK245 7; have hfz39_8 := bf_ BK245 8; have hfz39_9 := bf_ BK245 9) | ((with_reducible refine gate_callee (f := 85) rfl ?_); refine goesL_ (some 23) rfl rfl Try.func85 (by kernel_rfl) rfl #[.agg #[.int .i64 a0_0, .slice A0_1 l0_1.length c0_1, .slice A0_2 l0_2.length c0_2, .int .i64 a0_3, .int .i64 a0_4, .int .i64 a0_5, .int .i64 a0_6, .int .i64 a0_7, .slice A0_8 l0_8.length c0_8, .int .i64 a0_9], .int .i64 a1] rfl mp_ ?_; (with_reducible refine (spec_IsSite.calls a0_0 _ _ l0_1 _ _ l0_2 a0_3 a0_4 a0_5 a0_6 a0_7 _ _ l0_8 a0_9 a1 false _ ?side1 ?side2 ?side3 ?side4 ?side5 ?side6 A16.out).mono ?_); (case side1 => exact ck_ HR0_1 HB); (case side2 => exact HC0_1.out); (case side3 => exact ck_ HR0_2 HB); (case side4 => exact HC0_2.out); (case side5 => exact ck_ HR0_8 HB); (case side6 => exact HC0_8.out); rintro e w40 ⟨rfl, hb⟩; refine ⟨_, rfl, ?_⟩; have n0_ := Aside0.mk (blk_below (bk_ BK245) hb); have n1_ := Aside0.mk (blk_below (bk_ BK246) hb); have n2_ := Aside0.mk (below_step (bl2_ HB GE245 GE246) hb); clear BK245; clear BK246; clear HB; have BK245 := n0_; have BK246 := n1_; have HB := n2_; clear n0_ n1_ n2_; (try clear hb); (try clear hb2); (try clear hk); (try clear hi); have hcz41_0 : w40.cell? ⟨gb246, 0, none⟩ = some (.int .i64 0) := bc_ BK246 0 rfl; have hcz41_1 : w40.cell? ⟨gb246, 1, none⟩ = some (.int .i64 0) := bc_ BK246 1 rfl; have hfz41_0 := bf_ BK246 0; have hfz41_1 := bf_ BK246 1))
   refine bodyPost_ret (results_cell_row rfl _ _ gb246 79 #[.int .i64 0, .int .i64 0] (0, 0) _ rfl (by (with_reducible repeat (first | refine blk_drewN ?_ _ | refine blk_drew ?_ | refine blk_alloc ?_ _)); refine blk_put (cs := #[.int .i64 0, .int .i64 0]) ?_ 1 _ rfl; (with_reducible repeat (first | refine blk_drewN ?_ _ | refine blk_drew ?_ | refine blk_alloc ?_ _)); refine blk_put (cs := #[.int .i64 0, .int .i64 0]) ?_ 0 _ rfl; (with_reducible repeat (first | refine blk_drewN ?_ _ | refine blk_drew ?_ | refine blk_alloc ?_ _)); exact BK246.out) Try.underlying79 rfl (by kernel_rfl)) rfl ?_
   exact ⟨by first | rfl | (simp [errW_none, errW_some] <;> rfl) | (simp [*, errW_none, errW_some] <;> rfl), by repeat (first | (with_reducible first | exact HB.out | apply below_alloc | apply pw_below_drewN | apply below_drew1 | refine below_set ?_ GE245.out | refine below_set ?_ GE246.out) | exact HB.out)⟩

/-! ### spec_GapOf: function 71 -/
def spec_GapOf.f (a0 : Int) (a1 : Int) : Option (Int) := (spec_AngleOf.f a0).bind fun t255 => ((spec_AngleOf.f a1).bind fun t256 => ((spec_AngleOf.f (wrap64 (t255 - t256))).bind fun t257 => ((spec_Min.f t257 (wrap64 (360 - t257))).bind fun t258 => (some t258))))
set_option maxHeartbeats 8000000 in
set_option maxRecDepth 100000 in
theorem spec_GapOf.calls (a0 : Int) (a1 : Int) (r : Int) (w : World) (h : spec_GapOf.f a0 a1 = some r) :
  Calls Try.prog 71 #[.int .i64 a0, .int .i64 a1] w fun e w' => e = .returned (.int .i64 r) ∧ Drawn0 w w' := by
 have H := h
 clear h
 unfold spec_GapOf.f at H
 replace H := Option.bind_eq_some_iff.mp H
 obtain ⟨t255, A30, H⟩ := H
 have A3 := Aside0.mk A30
 clear A30
 replace H := Option.bind_eq_some_iff.mp H
 obtain ⟨t256, A40, H⟩ := H
 have A4 := Aside0.mk A40
 clear A40
 replace H := Option.bind_eq_some_iff.mp H
 obtain ⟨t257, A50, H⟩ := H
 have A5 := Aside0.mk A50
 clear A50
 replace H := Option.bind_eq_some_iff.mp H
 obtain ⟨t258, A60, H⟩ := H
 have A6 := Aside0.mk A60
 clear A60
 obtain rfl := Option.some.inj H
 go_enter Try.func71, Try.ntmps71
 go_wp2_with (first | ((with_reducible refine gate_callee (f := 92) rfl ?_); refine goesL_ (some 7) rfl rfl Try.func92 (by kernel_rfl) rfl #[.int .i64 a0] rfl mp_ ?_; (with_reducible refine (spec_AngleOf.calls a0 t255 _ A3.out).mono ?_); rintro e w' ⟨rfl, ⟨nd, rfl⟩⟩; refine ⟨_, rfl, ?_⟩) | ((with_reducible refine gate_callee (f := 92) rfl ?_); refine goesL_ (some 9) rfl rfl Try.func92 (by kernel_rfl) rfl #[.int .i64 a1] rfl mp_ ?_; (with_reducible refine (spec_AngleOf.calls a1 t256 _ A4.out).mono ?_); rintro e w' ⟨rfl, ⟨nd, rfl⟩⟩; refine ⟨_, rfl, ?_⟩) | ((with_reducible refine gate_callee (f := 92) rfl ?_); refine goesL_ (some 11) rfl rfl Try.func92 (by kernel_rfl) rfl #[.int .i64 (wrap64 (t255 - t256))] rfl mp_ ?_; (with_reducible refine (spec_AngleOf.calls (wrap64 (t255 - t256)) t257 _ A5.out).mono ?_); rintro e w' ⟨rfl, ⟨nd, rfl⟩⟩; refine ⟨_, rfl, ?_⟩) | ((with_reducible refine gate_callee (f := 64) rfl ?_); refine goesL_ (some 15) rfl rfl Try.func64 (by kernel_rfl) rfl #[.int .i64 t257, .int .i64 (wrap64 (360 - t257))] rfl mp_ ?_; (with_reducible refine (spec_Min.calls t257 (wrap64 (360 - t257)) t258 _ A6.out).mono ?_); rintro e w' ⟨rfl, ⟨nd, rfl⟩⟩; refine ⟨_, rfl, ?_⟩))
 go_ret
 exact ⟨by first | rfl | (simp; done) | (simp [*]; done), by repeat (first | exact Drawn0.refl _ | apply Drawn0.step)⟩

/-! ### spec_MiddleOf: function 72 -/
def spec_MiddleOf.f (a0_0 : Int) (a0_1 : Int) : Option (Int) := (spec_l1In.f a0_1 0 359).bind fun t260 => (if t260 = true then ((spec_AngleOf.f a0_0).bind fun t261 => ((spec_AngleOf.f (wrap64 (t261 + (wrap64 (Int.tdiv a0_1 2))))).bind fun t262 => (some t262))) else ((spec_AngleOf.f a0_0).bind fun t263 => (some t263)))
set_option maxHeartbeats 8000000 in
set_option maxRecDepth 100000 in
theorem spec_MiddleOf.calls (a0_0 : Int) (a0_1 : Int) (r : Int) (w : World) (h : spec_MiddleOf.f a0_0 a0_1 = some r) :
  Calls Try.prog 72 #[.agg #[.int .i64 a0_0, .int .i64 a0_1]] w fun e w' => e = .returned (.int .i64 r) ∧ Below w.heap.size w w' := by
 have hu79 := Try.underlying79
 have HB := Aside0.mk (Below.refl w.heap.size w)
 have H := h
 clear h
 unfold spec_MiddleOf.f at H
 replace H := Option.bind_eq_some_iff.mp H
 obtain ⟨t260, A20, H⟩ := H
 have A2 := Aside0.mk A20
 clear A20
 by_cases c3 : t260 = true
 ·subst c3
  have H1 : ((spec_AngleOf.f a0_0).bind fun t261 => ((spec_AngleOf.f (wrap64 (t261 + (wrap64 (Int.tdiv a0_1 2))))).bind fun t262 => (some t262))) = some r := by rw [if_pos rfl] at H; exact H
  clear H
  have H := H1
  clear H1
  replace H := Option.bind_eq_some_iff.mp H
  obtain ⟨t261, A40, H⟩ := H
  have A4 := Aside0.mk A40
  clear A40
  replace H := Option.bind_eq_some_iff.mp H
  obtain ⟨t262, A50, H⟩ := H
  have A5 := Aside0.mk A50
  clear A50
  obtain rfl := Option.some.inj H
  go_enter Try.func72, Try.ntmps72
  go_wp2_with (first | ((with_reducible refine gate_dst (N := 1) rfl ?_); refine box_event ?hg (N := 1) ?hd (cs := #[.int .i64 a0_0, .int .i64 a0_1]) (t := 79) ?hr ?_; (case hd => rfl); (case hg => rfl); (case hr => first | (go_simp; done) | (go_simp; rfl)); intro gb259 hg w6 hbox hb; have n0_ := Aside0.mk (below_step (bl_ HB) hb); have n1_ := Aside0.mk (hbox); have n2_ := Aside0.mk ((by rw [hg]; exact (below_size (bl_ HB)) : w.heap.size ≤ gb259)); have n3_ := Aside0.mk ((by rw [hg]; exact (below_size (bl_ HB)) : w.heap.size ≤ gb259)); clear HB; have HB := n0_; have BK259 := n1_; have GW259 := n2_; have GE259 := n3_; clear n0_ n1_ n2_ n3_; clear hb hbox hg; have hcz7_0 : w6.cell? ⟨gb259, 0, none⟩ = some (.int .i64 a0_0) := bc_ BK259 0 rfl; have hcz7_1 : w6.cell? ⟨gb259, 1, none⟩ = some (.int .i64 a0_1) := bc_ BK259 1 rfl; have hfz7_0 := bf_ BK259 0; have hfz7_1 := bf_ BK259 1) | (go_at_call 65; (with_reducible refine (spec_l1In.calls a0_1 0 359 true _ A2.out).mono ?_); rintro e w' ⟨rfl, ⟨nd, rfl⟩⟩; (try first | exact ⟨rfl, _, World.drewN_drewN _ _ _⟩ | exact ⟨rfl, _, Eq.trans (World.drewN_drewN _ _ _) (congrArg (World.drewN _) (Nat.add_assoc _ _ _))⟩)) | (go_at_call 92; (with_reducible refine (spec_AngleOf.calls a0_0 t261 _ A4.out).mono ?_); rintro e w' ⟨rfl, ⟨nd, rfl⟩⟩; (try first | exact ⟨rfl, _, World.drewN_drewN _ _ _⟩ | exact ⟨rfl, _, Eq.trans (World.drewN_drewN _ _ _) (congrArg (World.drewN _) (Nat.add_assoc _ _ _))⟩)) | (go_at_call 92; (with_reducible refine (spec_AngleOf.calls (wrap64 (t261 + (wrap64 (Int.tdiv a0_1 2)))) t262 _ A5.out).mono ?_); rintro e w' ⟨rfl, ⟨nd, rfl⟩⟩; (try first | exact ⟨rfl, _, World.drewN_drewN _ _ _⟩ | exact ⟨rfl, _, Eq.trans (World.drewN_drewN _ _ _) (congrArg (World.drewN _) (Nat.add_assoc _ _ _))⟩)))
  repeat (go_quiet (first | ((with_reducible refine gate_dst (N := 1) rfl ?_); refine box_event ?hg (N := 1) ?hd (cs := #[.int .i64 a0_0, .int .i64 a0_1]) (t := 79) ?hr ?_; (case hd => rfl); (case hg => rfl); (case hr => first | (go_simp; done) | (go_simp; rfl)); intro gb259 hg w6 hbox hb; have n0_ := Aside0.mk (below_step (bl_ HB) hb); have n1_ := Aside0.mk (hbox); have n2_ := Aside0.mk ((by rw [hg]; exact (below_size (bl_ HB)) : w.heap.size ≤ gb259)); have n3_ := Aside0.mk ((by rw [hg]; exact (below_size (bl_ HB)) : w.heap.size ≤ gb259)); clear HB; have HB := n0_; have BK259 := n1_; have GW259 := n2_; have GE259 := n3_; clear n0_ n1_ n2_ n3_; clear hb hbox hg; have hcz7_0 : w6.cell? ⟨gb259, 0, none⟩ = some (.int .i64 a0_0) := bc_ BK259 0 rfl; have hcz7_1 : w6.cell? ⟨gb259, 1, none⟩ = some (.int .i64 a0_1) := bc_ BK259 1 rfl; have hfz7_0 := bf_ BK259 0; have hfz7_1 := bf_ BK259 1) | (go_at_call 65; (with_reducible refine (spec_l1In.calls a0_1 0 359 true _ A2.out).mono ?_); rintro e w' ⟨rfl, ⟨nd, rfl⟩⟩; (try first | exact ⟨rfl, _, World.drewN_drewN _ _ _⟩ | exact ⟨rfl, _, Eq.trans (World.drewN_drewN _ _ _) (congrArg (World.drewN _) (Nat.add_assoc _ _ _))⟩)) | (go_at_call 92; (with_reducible refine (spec_AngleOf.calls a0_0 t261 _ A4.out).mono ?_); rintro e w' ⟨rfl, ⟨nd, rfl⟩⟩; (try first | exact ⟨rfl, _, World.drewN_drewN _ _ _⟩ | exact ⟨rfl, _, Eq.trans (World.drewN_drewN _ _ _) (congrArg (World.drewN _) (Nat.add_assoc _ _ _))⟩)) | (go_at_call 92; (with_reducible refine (spec_AngleOf.calls (wrap64 (t261 + (wrap64 (Int.tdiv a0_1 2)))) t262 _ A5.out).mono ?_); rintro e w' ⟨rfl, ⟨nd, rfl⟩⟩; (try first | exact ⟨rfl, _, World.drewN_drewN _ _ _⟩ | exact ⟨rfl, _, Eq.trans (World.drewN_drewN _ _ _) (congrArg (World.drewN _) (Nat.add_assoc _ _ _))⟩))); try go_wp2_with (first | ((with_reducible refine gate_dst (N := 1) rfl ?_); refine box_event ?hg (N := 1) ?hd (cs := #[.int .i64 a0_0, .int .i64 a0_1]) (t := 79) ?hr ?_; (case hd => rfl); (case hg => rfl); (case hr => first | (go_simp; done) | (go_simp; rfl)); intro gb259 hg w6 hbox hb; have n0_ := Aside0.mk (below_step (bl_ HB) hb); have n1_ := Aside0.mk (hbox); have n2_ := Aside0.mk ((by rw [hg]; exact (below_size (bl_ HB)) : w.heap.size ≤ gb259)); have n3_ := Aside0.mk ((by rw [hg]; exact (below_size (bl_ HB)) : w.heap.size ≤ gb259)); clear HB; have HB := n0_; have BK259 := n1_; have GW259 := n2_; have GE259 := n3_; clear n0_ n1_ n2_ n3_; clear hb hbox hg; have hcz7_0 : w6.cell? ⟨gb259, 0, none⟩ = some (.int .i64 a0_0) := bc_ BK259 0 rfl; have hcz7_1 : w6.cell? ⟨gb259, 1, none⟩ = some (.int .i64 a0_1) := bc_ BK259 1 rfl; have hfz7_0 := bf_ BK259 0; have hfz7_1 := bf_ BK259 1) | (go_at_call 65; (with_reducible refine (spec_l1In.calls a0_1 0 359 true _ A2.out).mono ?_); rintro e w' ⟨rfl, ⟨nd, rfl⟩⟩; (try first | exact ⟨rfl, _, World.drewN_drewN _ _ _⟩ | exact ⟨rfl, _, Eq.trans (World.drewN_drewN _ _ _) (congrArg (World.drewN _) (Nat.add_assoc _ _ _))⟩)) | (go_at_call 92; (with_reducible refine (spec_AngleOf.calls a0_0 t261 _ A4.out).mono ?_); rintro e w' ⟨rfl, ⟨nd, rfl⟩⟩; (try first | exact ⟨rfl, _, World.drewN_drewN _ _ _⟩ | exact ⟨rfl, _, Eq.trans (World.drewN_drewN _ _ _) (congrArg (World.drewN _) (Nat.add_assoc _ _ _))⟩)) | (go_at_call 92; (with_reducible refine (spec_AngleOf.calls (wrap64 (t261 + (wrap64 (Int.tdiv a0_1 2)))) t262 _ A5.out).mono ?_); rintro e w' ⟨rfl, ⟨nd, rfl⟩⟩; (try first | exact ⟨rfl, _, World.drewN_drewN _ _ _⟩ | exact ⟨rfl, _, Eq.trans (World.drewN_drewN _ _ _) (congrArg (World.drewN _) (Nat.add_assoc _ _ _))⟩))))
  go_ret
  exact ⟨by first | rfl | (simp [errW_none, errW_some] <;> rfl) | (simp [*, errW_none, errW_some] <;> rfl), by repeat (first | (with_reducible first | exact HB.out | apply below_alloc | apply pw_below_drewN | apply below_drew1 | refine below_set ?_ GE259.out) | exact HB.out)⟩
 ·replace c3 := Bool.eq_false_iff.mpr c3
  subst c3
  have H1 : ((spec_AngleOf.f a0_0).bind fun t263 => (some t263)) = some r := by rw [if_neg (show ¬ (false = true) by decide)] at H; exact H
  clear H
  have H := H1
  clear H1
  replace H := Option.bind_eq_some_iff.mp H
  obtain ⟨t263, A80, H⟩ := H
  have A8 := Aside0.mk A80
  clear A80
  obtain rfl := Option.some.inj H
  go_enter Try.func72, Try.ntmps72
  go_wp2_with (first | ((with_reducible refine gate_dst (N := 1) rfl ?_); refine box_event ?hg (N := 1) ?hd (cs := #[.int .i64 a0_0, .int .i64 a0_1]) (t := 79) ?hr ?_; (case hd => rfl); (case hg => rfl); (case hr => first | (go_simp; done) | (go_simp; rfl)); intro gb259 hg w9 hbox hb; have n0_ := Aside0.mk (below_step (bl_ HB) hb); have n1_ := Aside0.mk (hbox); have n2_ := Aside0.mk ((by rw [hg]; exact (below_size (bl_ HB)) : w.heap.size ≤ gb259)); have n3_ := Aside0.mk ((by rw [hg]; exact (below_size (bl_ HB)) : w.heap.size ≤ gb259)); clear HB; have HB := n0_; have BK259 := n1_; have GW259 := n2_; have GE259 := n3_; clear n0_ n1_ n2_ n3_; clear hb hbox hg; have hcz10_0 : w9.cell? ⟨gb259, 0, none⟩ = some (.int .i64 a0_0) := bc_ BK259 0 rfl; have hcz10_1 : w9.cell? ⟨gb259, 1, none⟩ = some (.int .i64 a0_1) := bc_ BK259 1 rfl; have hfz10_0 := bf_ BK259 0; have hfz10_1 := bf_ BK259 1) | (go_at_call 65; (with_reducible refine (spec_l1In.calls a0_1 0 359 false _ A2.out).mono ?_); rintro e w' ⟨rfl, ⟨nd, rfl⟩⟩; (try first | exact ⟨rfl, _, World.drewN_drewN _ _ _⟩ | exact ⟨rfl, _, Eq.trans (World.drewN_drewN _ _ _) (congrArg (World.drewN _) (Nat.add_assoc _ _ _))⟩)) | (go_at_call 92; (with_reducible refine (spec_AngleOf.calls a0_0 t263 _ A8.out).mono ?_); rintro e w' ⟨rfl, ⟨nd, rfl⟩⟩; (try first | exact ⟨rfl, _, World.drewN_drewN _ _ _⟩ | exact ⟨rfl, _, Eq.trans (World.drewN_drewN _ _ _) (congrArg (World.drewN _) (Nat.add_assoc _ _ _))⟩)))
  repeat (go_quiet (first | ((with_reducible refine gate_dst (N := 1) rfl ?_); refine box_event ?hg (N := 1) ?hd (cs := #[.int .i64 a0_0, .int .i64 a0_1]) (t := 79) ?hr ?_; (case hd => rfl); (case hg => rfl); (case hr => first | (go_simp; done) | (go_simp; rfl)); intro gb259 hg w9 hbox hb; have n0_ := Aside0.mk (below_step (bl_ HB) hb); have n1_ := Aside0.mk (hbox); have n2_ := Aside0.mk ((by rw [hg]; exact (below_size (bl_ HB)) : w.heap.size ≤ gb259)); have n3_ := Aside0.mk ((by rw [hg]; exact (below_size (bl_ HB)) : w.heap.size ≤ gb259)); clear HB; have HB := n0_; have BK259 := n1_; have GW259 := n2_; have GE259 := n3_; clear n0_ n1_ n2_ n3_; clear hb hbox hg; have hcz10_0 : w9.cell? ⟨gb259, 0, none⟩ = some (.int .i64 a0_0) := bc_ BK259 0 rfl; have hcz10_1 : w9.cell? ⟨gb259, 1, none⟩ = some (.int .i64 a0_1) := bc_ BK259 1 rfl; have hfz10_0 := bf_ BK259 0; have hfz10_1 := bf_ BK259 1) | (go_at_call 65; (with_reducible refine (spec_l1In.calls a0_1 0 359 false _ A2.out).mono ?_); rintro e w' ⟨rfl, ⟨nd, rfl⟩⟩; (try first | exact ⟨rfl, _, World.drewN_drewN _ _ _⟩ | exact ⟨rfl, _, Eq.trans (World.drewN_drewN _ _ _) (congrArg (World.drewN _) (Nat.add_assoc _ _ _))⟩)) | (go_at_call 92; (with_reducible refine (spec_AngleOf.calls a0_0 t263 _ A8.out).mono ?_); rintro e w' ⟨rfl, ⟨nd, rfl⟩⟩; (try first | exact ⟨rfl, _, World.drewN_drewN _ _ _⟩ | exact ⟨rfl, _, Eq.trans (World.drewN_drewN _ _ _) (congrArg (World.drewN _) (Nat.add_assoc _ _ _))⟩))); try go_wp2_with (first | ((with_reducible refine gate_dst (N := 1) rfl ?_); refine box_event ?hg (N := 1) ?hd (cs := #[.int .i64 a0_0, .int .i64 a0_1]) (t := 79) ?hr ?_; (case hd => rfl); (case hg => rfl); (case hr => first | (go_simp; done) | (go_simp; rfl)); intro gb259 hg w9 hbox hb; have n0_ := Aside0.mk (below_step (bl_ HB) hb); have n1_ := Aside0.mk (hbox); have n2_ := Aside0.mk ((by rw [hg]; exact (below_size (bl_ HB)) : w.heap.size ≤ gb259)); have n3_ := Aside0.mk ((by rw [hg]; exact (below_size (bl_ HB)) : w.heap.size ≤ gb259)); clear HB; have HB := n0_; have BK259 := n1_; have GW259 := n2_; have GE259 := n3_; clear n0_ n1_ n2_ n3_; clear hb hbox hg; have hcz10_0 : w9.cell? ⟨gb259, 0, none⟩ = some (.int .i64 a0_0) := bc_ BK259 0 rfl; have hcz10_1 : w9.cell? ⟨gb259, 1, none⟩ = some (.int .i64 a0_1) := bc_ BK259 1 rfl; have hfz10_0 := bf_ BK259 0; have hfz10_1 := bf_ BK259 1) | (go_at_call 65; (with_reducible refine (spec_l1In.calls a0_1 0 359 false _ A2.out).mono ?_); rintro e w' ⟨rfl, ⟨nd, rfl⟩⟩; (try first | exact ⟨rfl, _, World.drewN_drewN _ _ _⟩ | exact ⟨rfl, _, Eq.trans (World.drewN_drewN _ _ _) (congrArg (World.drewN _) (Nat.add_assoc _ _ _))⟩)) | (go_at_call 92; (with_reducible refine (spec_AngleOf.calls a0_0 t263 _ A8.out).mono ?_); rintro e w' ⟨rfl, ⟨nd, rfl⟩⟩; (try first | exact ⟨rfl, _, World.drewN_drewN _ _ _⟩ | exact ⟨rfl, _, Eq.trans (World.drewN_drewN _ _ _) (congrArg (World.drewN _) (Nat.add_assoc _ _ _))⟩))))
  go_ret
  exact ⟨by first | rfl | (simp [errW_none, errW_some] <;> rfl) | (simp [*, errW_none, errW_some] <;> rfl), by repeat (first | (with_reducible first | exact HB.out | apply below_alloc | apply pw_below_drewN | apply below_drew1 | refine below_set ?_ GE259.out) | exact HB.out)⟩

/-! ### spec_SunAt: function 73 -/
def spec_SunAt.f (a0_0 : Int) (l0_1 : List (S71)) (l0_2 : List (S75)) (a0_3 : Int) (a0_4 : Int) (a0_5 : Int) (a0_6 : Int) (a0_7 : Int) (l0_8 : List (S81)) (a0_9 : Int) (a1 : Int) : Option (Int) := (spec_PlaceAt.f 0 0 a0_6 0 a1).bind fun t265 => (some t265)
set_option maxHeartbeats 8000000 in
set_option maxRecDepth 100000 in
theorem spec_SunAt.calls (a0_0 : Int) (A0_1 : Option Addr) (c0_1 : Nat) (l0_1 : List (S71)) (A0_2 : Option Addr) (c0_2 : Nat) (l0_2 : List (S75)) (a0_3 : Int) (a0_4 : Int) (a0_5 : Int) (a0_6 : Int) (a0_7 : Int) (A0_8 : Option Addr) (c0_8 : Nat) (l0_8 : List (S81)) (a0_9 : Int) (a1 : Int) (r : Int) (w : World) (hr0_1 : Kd.C k71 w A0_1 l0_1.length l0_1) (hc0_1 : l0_1.length ≤ c0_1) (hr0_2 : Kd.C k75 w A0_2 l0_2.length l0_2) (hc0_2 : l0_2.length ≤ c0_2) (hr0_8 : Kd.C k81 w A0_8 l0_8.length l0_8) (hc0_8 : l0_8.length ≤ c0_8) (h : spec_SunAt.f a0_0 l0_1 l0_2 a0_3 a0_4 a0_5 a0_6 a0_7 l0_8 a0_9 a1 = some r) :
  Calls Try.prog 73 #[.agg #[.int .i64 a0_0, .slice A0_1 l0_1.length c0_1, .slice A0_2 l0_2.length c0_2, .int .i64 a0_3, .int .i64 a0_4, .int .i64 a0_5, .int .i64 a0_6, .int .i64 a0_7, .slice A0_8 l0_8.length c0_8, .int .i64 a0_9], .int .i64 a1] w fun e w' => e = .returned (.int .i64 r) ∧ Below w.heap.size w w' := by
 have hu33 := Try.underlying33
 have hu71 := Try.underlying71
 have HR0_1 := Aside0.mk hr0_1
 have HC0_1 := Aside0.mk hc0_1
 clear hr0_1 hc0_1
 have HR0_2 := Aside0.mk hr0_2
 have HC0_2 := Aside0.mk hc0_2
 clear hr0_2 hc0_2
 have HR0_8 := Aside0.mk hr0_8
 have HC0_8 := Aside0.mk hc0_8
 clear hr0_8 hc0_8
 have HB := Aside0.mk (Below.refl w.heap.size w)
 have H := h
 clear h
 unfold spec_SunAt.f at H
 replace H := Option.bind_eq_some_iff.mp H
 obtain ⟨t265, A30, H⟩ := H
 have A3 := Aside0.mk A30
 clear A30
 obtain rfl := Option.some.inj H
 go_enter Try.func73, Try.ntmps73
 go_wp2_with (first | ((with_reducible refine gate_dst (N := 2) rfl ?_); refine box_event ?hg (N := 2) ?hd (cs := #[.int .i64 a0_0, .slice A0_1 l0_1.length c0_1, .slice A0_2 l0_2.length c0_2, .int .i64 a0_3, .int .i64 a0_4, .int .i64 a0_5, .int .i64 a0_6, .int .i64 a0_7, .slice A0_8 l0_8.length c0_8, .int .i64 a0_9]) (t := 33) ?hr ?_; (case hd => rfl); (case hg => rfl); (case hr => first | (go_simp; done) | (go_simp; rfl)); intro gb264 hg w4 hbox hb; have n0_ := Aside0.mk (below_step (bl_ HB) hb); have n1_ := Aside0.mk (hbox); have n2_ := Aside0.mk ((by rw [hg]; exact (below_size (bl_ HB)) : w.heap.size ≤ gb264)); have n3_ := Aside0.mk ((by rw [hg]; exact (below_size (bl_ HB)) : w.heap.size ≤ gb264)); clear HB; have HB := n0_; have BK264 := n1_; have GW264 := n2_; have GE264 := n3_; clear n0_ n1_ n2_ n3_; clear hb hbox hg; have hcz5_0 : w4.cell? ⟨gb264, 0, none⟩ = some (.int .i64 a0_0) := bc_ BK264 0 rfl; have hcz5_1 : w4.cell? ⟨gb264, 1, none⟩ = some (.slice A0_1 l0_1.length c0_1) := bc_ BK264 1 rfl; have hcz5_2 : w4.cell? ⟨gb264, 2, none⟩ = some (.slice A0_2 l0_2.length c0_2) := bc_ BK264 2 rfl; have hcz5_3 : w4.cell? ⟨gb264, 3, none⟩ = some (.int .i64 a0_3) := bc_ BK264 3 rfl; have hcz5_4 : w4.cell? ⟨gb264, 4, none⟩ = some (.int .i64 a0_4) := bc_ BK264 4 rfl; have hcz5_5 : w4.cell? ⟨gb264, 5, none⟩ = some (.int .i64 a0_5) := bc_ BK264 5 rfl; have hcz5_6 : w4.cell? ⟨gb264, 6, none⟩ = some (.int .i64 a0_6) := bc_ BK264 6 rfl; have hcz5_7 : w4.cell? ⟨gb264, 7, none⟩ = some (.int .i64 a0_7) := bc_ BK264 7 rfl; have hcz5_8 : w4.cell? ⟨gb264, 8, none⟩ = some (.slice A0_8 l0_8.length c0_8) := bc_ BK264 8 rfl; have hcz5_9 : w4.cell? ⟨gb264, 9, none⟩ = some (.int .i64 a0_9) := bc_ BK264 9 rfl; have hfz5_0 := bf_ BK264 0; have hfz5_1 := bf_ BK264 1; have hfz5_2 := bf_ BK264 2; have hfz5_3 := bf_ BK264 3; have hfz5_4 := bf_ BK264 4; have hfz5_5 := bf_ BK264 5; have hfz5_6 := bf_ BK264 6; have hfz5_7 := bf_ BK264 7; have hfz5_8 := bf_ BK264 8; have hfz5_9 := bf_ BK264 9) | ((with_reducible refine gate_callee (f := 86) rfl ?_); refine goesL_ (some 9) rfl rfl Try.func86 (by kernel_rfl) rfl #[.agg #[.int .i64 0, .int .i64 0, .int .i64 a0_6, .int .i64 0], .int .i64 a1] rfl mp_ ?_; (with_reducible refine (spec_PlaceAt.calls 0 0 a0_6 0 a1 t265 _ A3.out).mono ?_); rintro e w6 ⟨rfl, hb⟩; refine ⟨_, rfl, ?_⟩; have n0_ := Aside0.mk (blk_below (bk_ BK264) hb); have n1_ := Aside0.mk (below_step (bl1_ HB GE264) hb); clear BK264; clear HB; have BK264 := n0_; have HB := n1_; clear n0_ n1_; (try clear hb); (try clear hb2); (try clear hk); (try clear hi)))
 go_ret
 exact ⟨by first | rfl | (simp [errW_none, errW_some] <;> rfl) | (simp [*, errW_none, errW_some] <;> rfl), by repeat (first | (with_reducible first | exact HB.out | apply below_alloc | apply pw_below_drewN | apply below_drew1 | refine below_set ?_ GE264.out) | exact HB.out)⟩

/-! ### spec_ShadowAt: function 48 -/
def spec_ShadowAt.f (k : Nat) (a0_0 : Int) (l0_1 : List (S71)) (l0_2 : List (S75)) (a0_3 : Int) (a0_4 : Int) (a0_5 : Int) (a0_6 : Int) (a0_7 : Int) (l0_8 : List (S81)) (a0_9 : Int) (a1 : Int) (a2 : Int) : Option (Int) := (spec_l1In.f a1 0 (wrap64 ((l0_1.length : Int) - 1))).bind fun t267 => (if t267 = true then ((spec_NodeAt.f k a0_0 l0_1 l0_2 a0_3 a0_4 a0_5 a0_6 a0_7 l0_8 a0_9 a1 a2).bind fun bt268 => ((spec_MiddleOf.f bt268.1 bt268.2).bind fun t271 => ((spec_SunAt.f a0_0 l0_1 l0_2 a0_3 a0_4 a0_5 a0_6 a0_7 l0_8 a0_9 a2).bind fun t272 => ((spec_GapOf.f t271 (wrap64 (t272 + 180))).bind fun t273 => (if (wrap64 (t273 - (wrap64 (Int.tdiv bt268.2 2)))) > a0_7 then (some 0) else (if (wrap64 (t273 + (wrap64 (Int.tdiv bt268.2 2)))) ≤ a0_7 then (some 2) else (some 1))))))) else (some 0))
theorem spec_ShadowAt.mono : ∀ a0 a1 a2 a3 a4 a5 a6 a7 a8 a9 a10 a11 k, LeO (spec_ShadowAt.f k a0 a1 a2 a3 a4 a5 a6 a7 a8 a9 a10 a11) (spec_ShadowAt.f (k + 1) a0 a1 a2 a3 a4 a5 a6 a7 a8 a9 a10 a11) := by
 intro a0 a1 a2 a3 a4 a5 a6 a7 a8 a9 a10 a11 k
 unfold spec_ShadowAt.f
 repeat' first
   | (with_reducible exact spec_NodeAt.mono _ _ _ _ _ _ _ _ _ _ _ _ _)
   | (with_reducible exact LeO.refl _)
   | (with_reducible exact LeO.none _)
   | (with_reducible refine LeO.ite ?_ ?_)
   | (with_reducible refine LeO.bind ?_ (fun _ => ?_))
   | exact spec_NodeAt.mono _ _ _ _ _ _ _ _ _ _ _ _ _
   | exact LeO.none _
   | refine LeO.ite ?_ ?_
   | refine LeO.bind ?_ (fun _ => ?_)
def spec_ShadowAt.T4 : Bool × List (List Nat × List Nat) := (true, [([], []), ([0], [0]), ([], []), ([], []), ([2, 3, 1], [2, 3]), ([4], [4]), ([1, 5, 4], [1, 5]), ([6, 6, 0, 1, 2, 3, 4, 5, 6], [6])])
def spec_ShadowAt.B4 : List Nat := [0, 1, 0, 0, 15, 31, 63, 127]
theorem spec_ShadowAt.tab4 : rtab .any (opsOf Try.f48 4) = spec_ShadowAt.T4 := by kernel_rfl
theorem spec_ShadowAt.bits4 : waitsOk spec_ShadowAt.T4.2 spec_ShadowAt.B4 = true := by kernel_rfl
set_option maxHeartbeats 8000000 in
set_option maxRecDepth 100000 in
theorem spec_ShadowAt.calls (k : Nat) (a0_0 : Int) (A0_1 : Option Addr) (c0_1 : Nat) (l0_1 : List (S71)) (A0_2 : Option Addr) (c0_2 : Nat) (l0_2 : List (S75)) (a0_3 : Int) (a0_4 : Int) (a0_5 : Int) (a0_6 : Int) (a0_7 : Int) (A0_8 : Option Addr) (c0_8 : Nat) (l0_8 : List (S81)) (a0_9 : Int) (a1 : Int) (a2 : Int) (r : Int) (w : World) (hr0_1 : Kd.C k71 w A0_1 l0_1.length l0_1) (hc0_1 : l0_1.length ≤ c0_1) (hr0_2 : Kd.C k75 w A0_2 l0_2.length l0_2) (hc0_2 : l0_2.length ≤ c0_2) (hr0_8 : Kd.C k81 w A0_8 l0_8.length l0_8) (hc0_8 : l0_8.length ≤ c0_8) (h : spec_ShadowAt.f k a0_0 l0_1 l0_2 a0_3 a0_4 a0_5 a0_6 a0_7 l0_8 a0_9 a1 a2 = some r) :
  Calls Try.prog 48 #[.agg #[.int .i64 a0_0, .slice A0_1 l0_1.length c0_1, .slice A0_2 l0_2.length c0_2, .int .i64 a0_3, .int .i64 a0_4, .int .i64 a0_5, .int .i64 a0_6, .int .i64 a0_7, .slice A0_8 l0_8.length c0_8, .int .i64 a0_9], .int .i64 a1, .int .i64 a2] w fun e w' => e = .returned (.int .i64 r) ∧ Below w.heap.size w w' := by
 have hu33 := Try.underlying33
 have hu79 := Try.underlying79
 have HR0_1 := Aside0.mk hr0_1
 have HC0_1 := Aside0.mk hc0_1
 clear hr0_1 hc0_1
 have HR0_2 := Aside0.mk hr0_2
 have HC0_2 := Aside0.mk hc0_2
 clear hr0_2 hc0_2
 have HR0_8 := Aside0.mk hr0_8
 have HC0_8 := Aside0.mk hc0_8
 clear hr0_8 hc0_8
 have HB := Aside0.mk (Below.refl w.heap.size w)
 have H := h
 clear h
 unfold spec_ShadowAt.f at H
 replace H := Option.bind_eq_some_iff.mp H
 obtain ⟨t267, A40, H⟩ := H
 have A4 := Aside0.mk A40
 clear A40
 by_cases c5 : t267 = true
 ·subst c5
  have H1 : ((spec_NodeAt.f k a0_0 l0_1 l0_2 a0_3 a0_4 a0_5 a0_6 a0_7 l0_8 a0_9 a1 a2).bind fun bt268 => ((spec_MiddleOf.f bt268.1 bt268.2).bind fun t271 => ((spec_SunAt.f a0_0 l0_1 l0_2 a0_3 a0_4 a0_5 a0_6 a0_7 l0_8 a0_9 a2).bind fun t272 => ((spec_GapOf.f t271 (wrap64 (t272 + 180))).bind fun t273 => (if (wrap64 (t273 - (wrap64 (Int.tdiv bt268.2 2)))) > a0_7 then (some 0) else (if (wrap64 (t273 + (wrap64 (Int.tdiv bt268.2 2)))) ≤ a0_7 then (some 2) else (some 1))))))) = some r := by rw [if_pos rfl] at H; exact H
  clear H
  have H := H1
  clear H1
  replace H := Option.bind_eq_some_iff.mp H
  obtain ⟨⟨t268, t269⟩, A60, H⟩ := H
  replace H : ((spec_MiddleOf.f t268 t269).bind fun t271 => ((spec_SunAt.f a0_0 l0_1 l0_2 a0_3 a0_4 a0_5 a0_6 a0_7 l0_8 a0_9 a2).bind fun t272 => ((spec_GapOf.f t271 (wrap64 (t272 + 180))).bind fun t273 => (if (wrap64 (t273 - (wrap64 (Int.tdiv t269 2)))) > a0_7 then (some 0) else (if (wrap64 (t273 + (wrap64 (Int.tdiv t269 2)))) ≤ a0_7 then (some 2) else (some 1)))))) = some r := H
  have A6 := Aside0.mk A60
  clear A60
  replace H := Option.bind_eq_some_iff.mp H
  obtain ⟨t271, A70, H⟩ := H
  have A7 := Aside0.mk A70
  clear A70
  replace H := Option.bind_eq_some_iff.mp H
  obtain ⟨t272, A80, H⟩ := H
  have A8 := Aside0.mk A80
  clear A80
  replace H := Option.bind_eq_some_iff.mp H
  obtain ⟨t273, A90, H⟩ := H
  have A9 := Aside0.mk A90
  clear A90
  by_cases c10 : (wrap64 (t273 - (wrap64 (Int.tdiv t269 2)))) > a0_7
  ·rw [if_pos c10] at H
   have c10b0 : decide (a0_7 < (wrap64 (t273 - (wrap64 (Int.tdiv t269 2))))) = true := decide_eq_true c10
   clear c10
   obtain rfl := Option.some.inj H
   go_enter Try.func48, Try.ntmps48
   try go_wp2_with (first | ((with_reducible refine gate_dst (N := 3) rfl ?_); refine box_event ?hg (N := 3) ?hd (cs := #[.int .i64 a0_0, .slice A0_1 l0_1.length c0_1, .slice A0_2 l0_2.length c0_2, .int .i64 a0_3, .int .i64 a0_4, .int .i64 a0_5, .int .i64 a0_6, .int .i64 a0_7, .slice A0_8 l0_8.length c0_8, .int .i64 a0_9]) (t := 33) ?hr ?_; (case hd => rfl); (case hg => rfl); (case hr => first | (go_simp; done) | (go_simp; rfl)); intro gb266 hg w11 hbox hb; have n0_ := Aside0.mk (below_step (bl_ HB) hb); have n1_ := Aside0.mk (hbox); have n2_ := Aside0.mk ((by rw [hg]; exact (below_size (bl_ HB)) : w.heap.size ≤ gb266)); have n3_ := Aside0.mk ((by rw [hg]; exact (below_size (bl_ HB)) : w.heap.size ≤ gb266)); clear HB; have HB := n0_; have BK266 := n1_; have GW266 := n2_; have GE266 := n3_; clear n0_ n1_ n2_ n3_; clear hb hbox hg; have hcz12_0 : w11.cell? ⟨gb266, 0, none⟩ = some (.int .i64 a0_0) := bc_ BK266 0 rfl; have hcz12_1 : w11.cell? ⟨gb266, 1, none⟩ = some (.slice A0_1 l0_1.length c0_1) := bc_ BK266 1 rfl; have hcz12_2 : w11.cell? ⟨gb266, 2, none⟩ = some (.slice A0_2 l0_2.length c0_2) := bc_ BK266 2 rfl; have hcz12_3 : w11.cell? ⟨gb266, 3, none⟩ = some (.int .i64 a0_3) := bc_ BK266 3 rfl; have hcz12_4 : w11.cell? ⟨gb266, 4, none⟩ = some (.int .i64 a0_4) := bc_ BK266 4 rfl; have hcz12_5 : w11.cell? ⟨gb266, 5, none⟩ = some (.int .i64 a0_5) := bc_ BK266 5 rfl; have hcz12_6 : w11.cell? ⟨gb266, 6, none⟩ = some (.int .i64 a0_6) := bc_ BK266 6 rfl; have hcz12_7 : w11.cell? ⟨gb266, 7, none⟩ = some (.int .i64 a0_7) := bc_ BK266 7 rfl; have hcz12_8 : w11.cell? ⟨gb266, 8, none⟩ = some (.slice A0_8 l0_8.length c0_8) := bc_ BK266 8 rfl; have hcz12_9 : w11.cell? ⟨gb266, 9, none⟩ = some (.int .i64 a0_9) := bc_ BK266 9 rfl; have hfz12_0 := bf_ BK266 0; have hfz12_1 := bf_ BK266 1; have hfz12_2 := bf_ BK266 2; have hfz12_3 := bf_ BK266 3; have hfz12_4 := bf_ BK266 4; have hfz12_5 := bf_ BK266 5; have hfz12_6 := bf_ BK266 6; have hfz12_7 := bf_ BK266 7; have hfz12_8 := bf_ BK266 8; have hfz12_9 := bf_ BK266 9) | ((with_reducible refine gate_callee (f := 65) rfl ?_); refine goesL_ (some 15) rfl rfl Try.func65 (by kernel_rfl) rfl #[.int .i64 a1, .int .i64 0, .int .i64 (wrap64 ((l0_1.length : Int) - 1))] rfl mp_ ?_; (with_reducible refine (spec_l1In.calls a1 0 (wrap64 ((l0_1.length : Int) - 1)) true _ A4.out).mono ?_); rintro e w' ⟨rfl, ⟨nd, rfl⟩⟩; refine ⟨_, rfl, ?_⟩; (try (rw [drewN_self w11]; generalize hq_ : World.drewN w11 _ = w11; have n0_ : Aside0 (w11.heap[gb266]? = some (.cells #[.int .i64 a0_0, .slice A0_1 l0_1.length c0_1, .slice A0_2 l0_2.length c0_2, .int .i64 a0_3, .int .i64 a0_4, .int .i64 a0_5, .int .i64 a0_6, .int .i64 a0_7, .slice A0_8 l0_8.length c0_8, .int .i64 a0_9] 33 (0, 0))) := ⟨by rw [← hq_]; exact (bk_ BK266)⟩; have n1_ : Aside0 (Below w.heap.size w w11) := ⟨by rw [← hq_]; exact (bl1_ HB GE266)⟩; clear BK266 HB hq_; have BK266 := n0_; have HB := n1_; clear n0_ n1_)); have hcz13_0 : w11.cell? ⟨gb266, 0, none⟩ = some (.int .i64 a0_0) := bc_ BK266 0 rfl; have hcz13_1 : w11.cell? ⟨gb266, 1, none⟩ = some (.slice A0_1 l0_1.length c0_1) := bc_ BK266 1 rfl; have hcz13_2 : w11.cell? ⟨gb266, 2, none⟩ = some (.slice A0_2 l0_2.length c0_2) := bc_ BK266 2 rfl; have hcz13_3 : w11.cell? ⟨gb266, 3, none⟩ = some (.int .i64 a0_3) := bc_ BK266 3 rfl; have hcz13_4 : w11.cell? ⟨gb266, 4, none⟩ = some (.int .i64 a0_4) := bc_ BK266 4 rfl; have hcz13_5 : w11.cell? ⟨gb266, 5, none⟩ = some (.int .i64 a0_5) := bc_ BK266 5 rfl; have hcz13_6 : w11.cell? ⟨gb266, 6, none⟩ = some (.int .i64 a0_6) := bc_ BK266 6 rfl; have hcz13_7 : w11.cell? ⟨gb266, 7, none⟩ = some (.int .i64 a0_7) := bc_ BK266 7 rfl; have hcz13_8 : w11.cell? ⟨gb266, 8, none⟩ = some (.slice A0_8 l0_8.length c0_8) := bc_ BK266 8 rfl; have hcz13_9 : w11.cell? ⟨gb266, 9, none⟩ = some (.int .i64 a0_9) := bc_ BK266 9 rfl; have hfz13_0 := bf_ BK266 0; have hfz13_1 := bf_ BK266 1; have hfz13_2 := bf_ BK266 2; have hfz13_3 := bf_ BK266 3; have hfz13_4 := bf_ BK266 4; have hfz13_5 := bf_ BK266 5; have hfz13_6 := bf_ BK266 6; have hfz13_7 := bf_ BK266 7; have hfz13_8 := bf_ BK266 8; have hfz13_9 := bf_ BK266 9) | ((with_reducible refine gate_callee (f := 67) rfl ?_); refine goesL_ (some 20) rfl rfl Try.func67 (by kernel_rfl) rfl #[.agg #[.int .i64 a0_0, .slice A0_1 l0_1.length c0_1, .slice A0_2 l0_2.length c0_2, .int .i64 a0_3, .int .i64 a0_4, .int .i64 a0_5, .int .i64 a0_6, .int .i64 a0_7, .slice A0_8 l0_8.length c0_8, .int .i64 a0_9], .int .i64 a1, .int .i64 a2] rfl mp_ ?_; (with_reducible refine (spec_NodeAt.calls k a0_0 _ _ l0_1 _ _ l0_2 a0_3 a0_4 a0_5 a0_6 a0_7 _ _ l0_8 a0_9 a1 a2 t268 t269 _ ?side1 ?side2 ?side3 ?side4 ?side5 ?side6 A6.out).mono ?_); (case side1 => exact ck_ HR0_1 HB); (case side2 => exact HC0_1.out); (case side3 => exact ck_ HR0_2 HB); (case side4 => exact HC0_2.out); (case side5 => exact ck_ HR0_8 HB); (case side6 => exact HC0_8.out); rintro e w14 ⟨rfl, hb⟩; refine ⟨_, rfl, ?_⟩; have n0_ := Aside0.mk (blk_below (bk_ BK266) hb); have n1_ := Aside0.mk (below_step (bl1_ HB GE266) hb); clear BK266; clear HB; have BK266 := n0_; have HB := n1_; clear n0_ n1_; (try clear hb); (try clear hb2); (try clear hk); (try clear hi)) | ((with_reducible refine gate_dst (N := 7) rfl ?_); refine box_event ?hg (N := 7) ?hd (cs := #[.int .i64 0, .int .i64 0]) (t := 79) ?hr ?_; (case hd => rfl); (case hg => rfl); (case hr => first | (go_simp; done) | (go_simp; rfl)); intro gb270 hg w15 hbox hb; have n0_ := Aside0.mk (blk_below (bk_ BK266) hb); have n1_ := Aside0.mk (below_step (bl1_ HB GE266) hb); have n2_ := Aside0.mk (hbox); have n3_ := Aside0.mk ((by rw [hg]; exact (below_size (bl1_ HB GE266)) : w.heap.size ≤ gb270)); have n4_ := Aside0.mk ((by rw [hg]; exact (below_size (bl1_ HB GE266)) : w.heap.size ≤ gb270)); have n5_ := Aside0.mk ((by rw [hg]; exact Nat.ne_of_lt (blk_lt (bk_ BK266)) : gb266 ≠ gb270)); have n6_ := Aside0.mk ((by rw [hg]; exact Nat.ne_of_gt (blk_lt (bk_ BK266)) : gb270 ≠ gb266)); clear BK266; clear HB; have BK266 := n0_; have HB := n1_; have BK270 := n2_; have GW270 := n3_; have GE270 := n4_; have NB266_270 := n5_; have NB270_266 := n6_; clear n0_ n1_ n2_ n3_ n4_ n5_ n6_; clear hb hbox hg; have hnb16 := NB270_266.out; have hnc16 := NB266_270.out; have hcz17_0 : w15.cell? ⟨gb270, 0, none⟩ = some (.int .i64 0) := bc_ BK270 0 rfl; have hcz17_1 : w15.cell? ⟨gb270, 1, none⟩ = some (.int .i64 0) := bc_ BK270 1 rfl; have hfz17_0 := bf_ BK270 0; have hfz17_1 := bf_ BK270 1))
   have n0_ : Aside0 (((w15.setCell ⟨gb270, 0, none⟩ (.int .i64 t268)).setCell ⟨gb270, 1, none⟩ (.int .i64 t269)).heap[gb266]? = some (.cells #[.int .i64 a0_0, .slice A0_1 l0_1.length c0_1, .slice A0_2 l0_2.length c0_2, .int .i64 a0_3, .int .i64 a0_4, .int .i64 a0_5, .int .i64 a0_6, .int .i64 a0_7, .slice A0_8 l0_8.length c0_8, .int .i64 a0_9] 33 (0, 0))) := ⟨by (with_reducible repeat (first | refine blk_drewN ?_ _ | refine blk_drew ?_ | refine blk_alloc ?_ _)); refine blk_far ?_ NB266_270.out _; (with_reducible repeat (first | refine blk_drewN ?_ _ | refine blk_drew ?_ | refine blk_alloc ?_ _)); refine blk_far ?_ NB266_270.out _; (with_reducible repeat (first | refine blk_drewN ?_ _ | refine blk_drew ?_ | refine blk_alloc ?_ _)); exact BK266.out⟩
   have n1_ : Aside0 (((w15.setCell ⟨gb270, 0, none⟩ (.int .i64 t268)).setCell ⟨gb270, 1, none⟩ (.int .i64 t269)).heap[gb270]? = some (.cells #[.int .i64 t268, .int .i64 t269] 79 (0, 0))) := ⟨by (with_reducible repeat (first | refine blk_drewN ?_ _ | refine blk_drew ?_ | refine blk_alloc ?_ _)); refine blk_put (cs := #[.int .i64 t268, .int .i64 0]) ?_ 1 _ rfl; (with_reducible repeat (first | refine blk_drewN ?_ _ | refine blk_drew ?_ | refine blk_alloc ?_ _)); refine blk_put (cs := #[.int .i64 0, .int .i64 0]) ?_ 0 _ rfl; (with_reducible repeat (first | refine blk_drewN ?_ _ | refine blk_drew ?_ | refine blk_alloc ?_ _)); exact BK270.out⟩
   have n2_ : Aside0 (Below w.heap.size w ((w15.setCell ⟨gb270, 0, none⟩ (.int .i64 t268)).setCell ⟨gb270, 1, none⟩ (.int .i64 t269))) := ⟨by repeat (first | (with_reducible first | exact HB.out | apply below_alloc | apply pw_below_drewN | apply below_drew1 | refine below_set ?_ GE266.out | refine below_set ?_ GE270.out) | exact HB.out)⟩
   (try clear BK266)
   (try clear BK270)
   (try clear HB)
   generalize ((w15.setCell ⟨gb270, 0, none⟩ (.int .i64 t268)).setCell ⟨gb270, 1, none⟩ (.int .i64 t269)) = w18 at n0_ n1_ n2_ ⊢
   have BK266 := n0_
   have BK270 := n1_
   have HB := n2_
   clear n0_ n1_ n2_
   have n0_ := Aside0.mk (blk_drew BK266.out)
   have n1_ := Aside0.mk (blk_drew BK270.out)
   have n2_ := Aside0.mk (below_drew1 HB.out)
   clear BK266
   clear BK270
   clear HB
   have BK266 := n0_
   have BK270 := n1_
   have HB := n2_
   clear n0_ n1_ n2_
   refine start_ (n := 8) (S := fun w' => w'.cell? ⟨gb270, 0, none⟩ = some (.int .i64 t268) ∧ w'.cell? ⟨gb270, 1, none⟩ = some (.int .i64 t269) ∧ w'.cell? ⟨gb266, 0, none⟩ = some (.int .i64 a0_0) ∧ w'.cell? ⟨gb266, 1, none⟩ = some (.slice A0_1 l0_1.length c0_1) ∧ w'.cell? ⟨gb266, 2, none⟩ = some (.slice A0_2 l0_2.length c0_2) ∧ w'.cell? ⟨gb266, 3, none⟩ = some (.int .i64 a0_3) ∧ w'.cell? ⟨gb266, 4, none⟩ = some (.int .i64 a0_4) ∧ w'.cell? ⟨gb266, 5, none⟩ = some (.int .i64 a0_5) ∧ w'.cell? ⟨gb266, 6, none⟩ = some (.int .i64 a0_6) ∧ w'.cell? ⟨gb266, 7, none⟩ = some (.int .i64 a0_7) ∧ w'.cell? ⟨gb266, 8, none⟩ = some (.slice A0_8 l0_8.length c0_8) ∧ w'.cell? ⟨gb266, 9, none⟩ = some (.int .i64 a0_9)) (ds := []) #[false, false, false, false, false, false, false, false] (by kernel_rfl) rfl rfl ⟨(bc_ BK270 0 rfl), (bc_ BK270 1 rfl), (bc_ BK266 0 rfl), (bc_ BK266 1 rfl), (bc_ BK266 2 rfl), (bc_ BK266 3 rfl), (bc_ BK266 4 rfl), (bc_ BK266 5 rfl), (bc_ BK266 6 rfl), (bc_ BK266 7 rfl), (bc_ BK266 8 rfl), (bc_ BK266 9 rfl)⟩ (fun hHeld => ?_); refine with_tabW spec_ShadowAt.tab4 spec_ShadowAt.bits4 (fun HT_ HW_ => ?_)
   generalize w18.drew = w19 at BK266 BK270 HB hHeld ⊢
   refine pure_ (i := 3) (N := some 24) (v := ?_) (a' := ?_) #[false, false, false, true, false, false, false, false] rfl rfl (any_of HT_.out (by kernel_rfl)) (fun _ _ _ h => h) (Or.inl ⟨by rfl, ?_⟩) ?_ ?_
   rotate_left
   ·intro w'
    go_simp
    with_reducible rfl
   rotate_left
   ·simp only [Act.put, List.setIfInBounds_toArray, List.set_cons_zero, List.set_cons_succ, i64_w, i32_w]
    rfl
   refine take_ (i := 0) (N := some 21) (v := ?_) (a' := ?_) #[true, false, false, true, false, false, false, false] rfl rfl (take_ofW HT_.out HW_.out (by kernel_rfl)) (fun _ _ _ h => h) (Or.inl ⟨by rfl, ?_⟩) hHeld ?_ ?_
   rotate_left
   ·rintro w' ⟨s0, s1, s2, s3, s4, s5, s6, s7, s8, s9, s10, s11⟩
    go_simp
    with_reducible rfl
   rotate_left
   ·simp only [Act.put, List.setIfInBounds_toArray, List.set_cons_zero, List.set_cons_succ, i64_w, i32_w]
    rfl
   refine take_ (i := 2) (N := some 23) (v := ?_) (a' := ?_) #[true, false, true, true, false, false, false, false] rfl rfl (take_ofW HT_.out HW_.out (by kernel_rfl)) (fun _ _ _ h => h) (Or.inl ⟨by rfl, ?_⟩) hHeld ?_ ?_
   rotate_left
   ·rintro w' ⟨s0, s1, s2, s3, s4, s5, s6, s7, s8, s9, s10, s11⟩
    go_simp
    with_reducible rfl
   rotate_left
   ·simp only [Act.put, List.setIfInBounds_toArray, List.set_cons_zero, List.set_cons_succ, i64_w, i32_w]
    rfl
   refine one_ (i := 1) (N := some 22) #[true, true, true, true, false, false, false, false] rfl rfl (one_of HT_.out (by kernel_rfl)) (by decide) (fun K hK => ?_)
   refine goes_ Try.func72 (by kernel_rfl) rfl #[.agg #[.int .i64 t268, .int .i64 t269]] (by rfl) rfl rfl mp_ ?_
   with_reducible refine (spec_MiddleOf.calls t268 t269 t271 _ A7.out).mono ?_
   rintro e w20 ⟨rfl, hb⟩
   refine ⟨_, rfl, ?_⟩
   have n0_ := Aside0.mk (blk_below (bk_ BK266) hb)
   have n1_ := Aside0.mk (blk_below (bk_ BK270) hb)
   have n2_ := Aside0.mk (below_step (bl2_ HB GE266 GE270) hb)
   clear BK266
   clear BK270
   clear HB
   have BK266 := n0_
   have BK270 := n1_
   have HB := n2_
   clear n0_ n1_ n2_
   (try clear hb)
   (try clear hb2)
   (try clear hk)
   (try clear hi)
   refine hK.out _ _ ⟨(bc_ BK270 0 rfl), (bc_ BK270 1 rfl), (bc_ BK266 0 rfl), (bc_ BK266 1 rfl), (bc_ BK266 2 rfl), (bc_ BK266 3 rfl), (bc_ BK266 4 rfl), (bc_ BK266 5 rfl), (bc_ BK266 6 rfl), (bc_ BK266 7 rfl), (bc_ BK266 8 rfl), (bc_ BK266 9 rfl)⟩ (fun hHeld => ?_)
   clear hK K
   refine norm_ (a' := ?_) ?_ ?_
   rotate_left
   ·show Act.put _ (some 22) _ = _
    simp only [Act.put, List.setIfInBounds_toArray, List.set_cons_zero, List.set_cons_succ, i64_w, i32_w]
    rfl
   refine one_ (i := 4) (N := some 25) #[true, true, true, true, true, false, false, false] rfl rfl (one_of HT_.out (by kernel_rfl)) (by decide) (fun K hK => ?_)
   refine goes_ Try.func73 (by kernel_rfl) rfl #[.agg #[.int .i64 a0_0, .slice A0_1 l0_1.length c0_1, .slice A0_2 l0_2.length c0_2, .int .i64 a0_3, .int .i64 a0_4, .int .i64 a0_5, .int .i64 a0_6, .int .i64 a0_7, .slice A0_8 l0_8.length c0_8, .int .i64 a0_9], .int .i64 a2] (by rfl) rfl rfl mp_ ?_
   with_reducible refine (spec_SunAt.calls a0_0 _ _ l0_1 _ _ l0_2 a0_3 a0_4 a0_5 a0_6 a0_7 _ _ l0_8 a0_9 a2 t272 _ ?side1 ?side2 ?side3 ?side4 ?side5 ?side6 A8.out).mono ?_
   (case side1 => exact ck_ HR0_1 HB)
   (case side2 => exact HC0_1.out)
   (case side3 => exact ck_ HR0_2 HB)
   (case side4 => exact HC0_2.out)
   (case side5 => exact ck_ HR0_8 HB)
   (case side6 => exact HC0_8.out)
   rintro e w21 ⟨rfl, hb⟩
   refine ⟨_, rfl, ?_⟩
   have n0_ := Aside0.mk (blk_below (bk_ BK266) hb)
   have n1_ := Aside0.mk (blk_below (bk_ BK270) hb)
   have n2_ := Aside0.mk (below_step (bl2_ HB GE266 GE270) hb)
   clear BK266
   clear BK270
   clear HB
   have BK266 := n0_
   have BK270 := n1_
   have HB := n2_
   clear n0_ n1_ n2_
   (try clear hb)
   (try clear hb2)
   (try clear hk)
   (try clear hi)
   refine hK.out _ _ ⟨(bc_ BK270 0 rfl), (bc_ BK270 1 rfl), (bc_ BK266 0 rfl), (bc_ BK266 1 rfl), (bc_ BK266 2 rfl), (bc_ BK266 3 rfl), (bc_ BK266 4 rfl), (bc_ BK266 5 rfl), (bc_ BK266 6 rfl), (bc_ BK266 7 rfl), (bc_ BK266 8 rfl), (bc_ BK266 9 rfl)⟩ (fun hHeld => ?_)
   clear hK K
   refine norm_ (a' := ?_) ?_ ?_
   rotate_left
   ·show Act.put _ (some 25) _ = _
    simp only [Act.put, List.setIfInBounds_toArray, List.set_cons_zero, List.set_cons_succ, i64_w, i32_w]
    rfl
   refine pure_ (i := 5) (N := some 26) (v := ?_) (a' := ?_) #[true, true, true, true, true, true, false, false] rfl rfl (any_of HT_.out (by kernel_rfl)) (fun _ _ _ h => h) (Or.inl ⟨by rfl, ?_⟩) ?_ ?_
   rotate_left
   ·intro w'
    go_simp
    with_reducible rfl
   rotate_left
   ·simp only [Act.put, List.setIfInBounds_toArray, List.set_cons_zero, List.set_cons_succ, i64_w, i32_w]
    rfl
   refine one_ (i := 6) (N := some 27) #[true, true, true, true, true, true, true, false] rfl rfl (one_of HT_.out (by kernel_rfl)) (by decide) (fun K hK => ?_)
   refine goes_ Try.func71 (by kernel_rfl) rfl #[.int .i64 t271, .int .i64 (wrap64 (t272 + 180))] (by rfl) rfl rfl mp_ ?_
   with_reducible refine (spec_GapOf.calls t271 (wrap64 (t272 + 180)) t273 _ A9.out).mono ?_
   rintro e w' ⟨rfl, ⟨nd, rfl⟩⟩
   refine ⟨_, rfl, ?_⟩
   refine hK.out _ _ ⟨(bc_ BK270 0 rfl), (bc_ BK270 1 rfl), (bc_ BK266 0 rfl), (bc_ BK266 1 rfl), (bc_ BK266 2 rfl), (bc_ BK266 3 rfl), (bc_ BK266 4 rfl), (bc_ BK266 5 rfl), (bc_ BK266 6 rfl), (bc_ BK266 7 rfl), (bc_ BK266 8 rfl), (bc_ BK266 9 rfl)⟩ (fun hHeld => ?_)
   clear hK K
   refine norm_ (a' := ?_) ?_ ?_
   rotate_left
   ·show Act.put _ (some 27) _ = _
    simp only [Act.put, List.setIfInBounds_toArray, List.set_cons_zero, List.set_cons_succ, i64_w, i32_w]
    rfl
   refine pure_ (i := 7) (N := some 8) (v := ?_) (a' := ?_) #[true, true, true, true, true, true, true, true] rfl rfl (any_of HT_.out (by kernel_rfl)) (fun _ _ _ h => h) (Or.inl ⟨by rfl, ?_⟩) ?_ ?_
   rotate_left
   ·intro w'
    go_simp
    with_reducible rfl
   rotate_left
   ·simp only [Act.put, List.setIfInBounds_toArray, List.set_cons_zero, List.set_cons_succ, i64_w, i32_w]
    rfl
   refine done_ (done_of HT_.out (by kernel_rfl)) ?_
   have hcz22_0 : w21.cell? ⟨gb270, 0, none⟩ = some (.int .i64 t268) := bc_ BK270 0 rfl
   have hcz22_1 : w21.cell? ⟨gb270, 1, none⟩ = some (.int .i64 t269) := bc_ BK270 1 rfl
   have hfz22_0 := bf_ BK270 0
   have hfz22_1 := bf_ BK270 1
   have hcz23_0 : w21.cell? ⟨gb266, 0, none⟩ = some (.int .i64 a0_0) := bc_ BK266 0 rfl
   have hcz23_1 : w21.cell? ⟨gb266, 1, none⟩ = some (.slice A0_1 l0_1.length c0_1) := bc_ BK266 1 rfl
   have hcz23_2 : w21.cell? ⟨gb266, 2, none⟩ = some (.slice A0_2 l0_2.length c0_2) := bc_ BK266 2 rfl
   have hcz23_3 : w21.cell? ⟨gb266, 3, none⟩ = some (.int .i64 a0_3) := bc_ BK266 3 rfl
   have hcz23_4 : w21.cell? ⟨gb266, 4, none⟩ = some (.int .i64 a0_4) := bc_ BK266 4 rfl
   have hcz23_5 : w21.cell? ⟨gb266, 5, none⟩ = some (.int .i64 a0_5) := bc_ BK266 5 rfl
   have hcz23_6 : w21.cell? ⟨gb266, 6, none⟩ = some (.int .i64 a0_6) := bc_ BK266 6 rfl
   have hcz23_7 : w21.cell? ⟨gb266, 7, none⟩ = some (.int .i64 a0_7) := bc_ BK266 7 rfl
   have hcz23_8 : w21.cell? ⟨gb266, 8, none⟩ = some (.slice A0_8 l0_8.length c0_8) := bc_ BK266 8 rfl
   have hcz23_9 : w21.cell? ⟨gb266, 9, none⟩ = some (.int .i64 a0_9) := bc_ BK266 9 rfl
   have hfz23_0 := bf_ BK266 0
   have hfz23_1 := bf_ BK266 1
   have hfz23_2 := bf_ BK266 2
   have hfz23_3 := bf_ BK266 3
   have hfz23_4 := bf_ BK266 4
   have hfz23_5 := bf_ BK266 5
   have hfz23_6 := bf_ BK266 6
   have hfz23_7 := bf_ BK266 7
   have hfz23_8 := bf_ BK266 8
   have hfz23_9 := bf_ BK266 9
   try go_wp2
   go_ret
   exact ⟨by first | rfl | (simp [errW_none, errW_some] <;> rfl) | (simp [*, errW_none, errW_some] <;> rfl), by repeat (first | (with_reducible first | exact HB.out | apply below_alloc | apply pw_below_drewN | apply below_drew1 | refine below_set ?_ GE266.out | refine below_set ?_ GE270.out) | exact HB.out)⟩
  ·rw [if_neg c10] at H
   have c10b0 : decide (a0_7 < (wrap64 (t273 - (wrap64 (Int.tdiv t269 2))))) = false := decide_eq_false c10
   clear c10
   by_cases c24 : (wrap64 (t273 + (wrap64 (Int.tdiv t269 2)))) ≤ a0_7
   ·rw [if_pos c24] at H
    have c24b0 : decide ((wrap64 (t273 + (wrap64 (Int.tdiv t269 2)))) ≤ a0_7) = true := decide_eq_true c24
    clear c24
    obtain rfl := Option.some.inj H
    go_enter Try.func48, Try.ntmps48
    try go_wp2_with (first | ((with_reducible refine gate_dst (N := 3) rfl ?_); refine box_event ?hg (N := 3) ?hd (cs := #[.int .i64 a0_0, .slice A0_1 l0_1.length c0_1, .slice A0_2 l0_2.length c0_2, .int .i64 a0_3, .int .i64 a0_4, .int .i64 a0_5, .int .i64 a0_6, .int .i64 a0_7, .slice A0_8 l0_8.length c0_8, .int .i64 a0_9]) (t := 33) ?hr ?_; (case hd => rfl); (case hg => rfl); (case hr => first | (go_simp; done) | (go_simp; rfl)); intro gb266 hg w25 hbox hb; have n0_ := Aside0.mk (below_step (bl_ HB) hb); have n1_ := Aside0.mk (hbox); have n2_ := Aside0.mk ((by rw [hg]; exact (below_size (bl_ HB)) : w.heap.size ≤ gb266)); have n3_ := Aside0.mk ((by rw [hg]; exact (below_size (bl_ HB)) : w.heap.size ≤ gb266)); clear HB; have HB := n0_; have BK266 := n1_; have GW266 := n2_; have GE266 := n3_; clear n0_ n1_ n2_ n3_; clear hb hbox hg; have hcz26_0 : w25.cell? ⟨gb266, 0, none⟩ = some (.int .i64 a0_0) := bc_ BK266 0 rfl; have hcz26_1 : w25.cell? ⟨gb266, 1, none⟩ = some (.slice A0_1 l0_1.length c0_1) := bc_ BK266 1 rfl; have hcz26_2 : w25.cell? ⟨gb266, 2, none⟩ = some (.slice A0_2 l0_2.length c0_2) := bc_ BK266 2 rfl; have hcz26_3 : w25.cell? ⟨gb266, 3, none⟩ = some (.int .i64 a0_3) := bc_ BK266 3 rfl; have hcz26_4 : w25.cell? ⟨gb266, 4, none⟩ = some (.int .i64 a0_4) := bc_ BK266 4 rfl; have hcz26_5 : w25.cell? ⟨gb266, 5, none⟩ = some (.int .i64 a0_5) := bc_ BK266 5 rfl; have hcz26_6 : w25.cell? ⟨gb266, 6, none⟩ = some (.int .i64 a0_6) := bc_ BK266 6 rfl; have hcz26_7 : w25.cell? ⟨gb266, 7, none⟩ = some (.int .i64 a0_7) := bc_ BK266 7 rfl; have hcz26_8 : w25.cell? ⟨gb266, 8, none⟩ = some (.slice A0_8 l0_8.length c0_8) := bc_ BK266 8 rfl; have hcz26_9 : w25.cell? ⟨gb266, 9, none⟩ = some (.int .i64 a0_9) := bc_ BK266 9 rfl; have hfz26_0 := bf_ BK266 0; have hfz26_1 := bf_ BK266 1; have hfz26_2 := bf_ BK266 2; have hfz26_3 := bf_ BK266 3; have hfz26_4 := bf_ BK266 4; have hfz26_5 := bf_ BK266 5; have hfz26_6 := bf_ BK266 6; have hfz26_7 := bf_ BK266 7; have hfz26_8 := bf_ BK266 8; have hfz26_9 := bf_ BK266 9) | ((with_reducible refine gate_callee (f := 65) rfl ?_); refine goesL_ (some 15) rfl rfl Try.func65 (by kernel_rfl) rfl #[.int .i64 a1, .int .i64 0, .int .i64 (wrap64 ((l0_1.length : Int) - 1))] rfl mp_ ?_; (with_reducible refine (spec_l1In.calls a1 0 (wrap64 ((l0_1.length : Int) - 1)) true _ A4.out).mono ?_); rintro e w' ⟨rfl, ⟨nd, rfl⟩⟩; refine ⟨_, rfl, ?_⟩; (try (rw [drewN_self w25]; generalize hq_ : World.drewN w25 _ = w25; have n0_ : Aside0 (w25.heap[gb266]? = some (.cells #[.int .i64 a0_0, .slice A0_1 l0_1.length c0_1, .slice A0_2 l0_2.length c0_2, .int .i64 a0_3, .int .i64 a0_4, .int .i64 a0_5, .int .i64 a0_6, .int .i64 a0_7, .slice A0_8 l0_8.length c0_8, .int .i64 a0_9] 33 (0, 0))) := ⟨by rw [← hq_]; exact (bk_ BK266)⟩; have n1_ : Aside0 (Below w.heap.size w w25) := ⟨by rw [← hq_]; exact (bl1_ HB GE266)⟩; clear BK266 HB hq_; have BK266 := n0_; have HB := n1_; clear n0_ n1_)); have hcz27_0 : w25.cell? ⟨gb266, 0, none⟩ = some (.int .i64 a0_0) := bc_ BK266 0 rfl; have hcz27_1 : w25.cell? ⟨gb266, 1, none⟩ = some (.slice A0_1 l0_1.length c0_1) := bc_ BK266 1 rfl; have hcz27_2 : w25.cell? ⟨gb266, 2, none⟩ = some (.slice A0_2 l0_2.length c0_2) := bc_ BK266 2 rfl; have hcz27_3 : w25.cell? ⟨gb266, 3, none⟩ = some (.int .i64 a0_3) := bc_ BK266 3 rfl; have hcz27_4 : w25.cell? ⟨gb266, 4, none⟩ = some (.int .i64 a0_4) := bc_ BK266 4 rfl; have hcz27_5 : w25.cell? ⟨gb266, 5, none⟩ = some (.int .i64 a0_5) := bc_ BK266 5 rfl; have hcz27_6 : w25.cell? ⟨gb266, 6, none⟩ = some (.int .i64 a0_6) := bc_ BK266 6 rfl; have hcz27_7 : w25.cell? ⟨gb266, 7, none⟩ = some (.int .i64 a0_7) := bc_ BK266 7 rfl; have hcz27_8 : w25.cell? ⟨gb266, 8, none⟩ = some (.slice A0_8 l0_8.length c0_8) := bc_ BK266 8 rfl; have hcz27_9 : w25.cell? ⟨gb266, 9, none⟩ = some (.int .i64 a0_9) := bc_ BK266 9 rfl; have hfz27_0 := bf_ BK266 0; have hfz27_1 := bf_ BK266 1; have hfz27_2 := bf_ BK266 2; have hfz27_3 := bf_ BK266 3; have hfz27_4 := bf_ BK266 4; have hfz27_5 := bf_ BK266 5; have hfz27_6 := bf_ BK266 6; have hfz27_7 := bf_ BK266 7; have hfz27_8 := bf_ BK266 8; have hfz27_9 := bf_ BK266 9) | ((with_reducible refine gate_callee (f := 67) rfl ?_); refine goesL_ (some 20) rfl rfl Try.func67 (by kernel_rfl) rfl #[.agg #[.int .i64 a0_0, .slice A0_1 l0_1.length c0_1, .slice A0_2 l0_2.length c0_2, .int .i64 a0_3, .int .i64 a0_4, .int .i64 a0_5, .int .i64 a0_6, .int .i64 a0_7, .slice A0_8 l0_8.length c0_8, .int .i64 a0_9], .int .i64 a1, .int .i64 a2] rfl mp_ ?_; (with_reducible refine (spec_NodeAt.calls k a0_0 _ _ l0_1 _ _ l0_2 a0_3 a0_4 a0_5 a0_6 a0_7 _ _ l0_8 a0_9 a1 a2 t268 t269 _ ?side1 ?side2 ?side3 ?side4 ?side5 ?side6 A6.out).mono ?_); (case side1 => exact ck_ HR0_1 HB); (case side2 => exact HC0_1.out); (case side3 => exact ck_ HR0_2 HB); (case side4 => exact HC0_2.out); (case side5 => exact ck_ HR0_8 HB); (case side6 => exact HC0_8.out); rintro e w28 ⟨rfl, hb⟩; refine ⟨_, rfl, ?_⟩; have n0_ := Aside0.mk (blk_below (bk_ BK266) hb); have n1_ := Aside0.mk (below_step (bl1_ HB GE266) hb); clear BK266; clear HB; have BK266 := n0_; have HB := n1_; clear n0_ n1_; (try clear hb); (try clear hb2); (try clear hk); (try clear hi)) | ((with_reducible refine gate_dst (N := 7) rfl ?_); refine box_event ?hg (N := 7) ?hd (cs := #[.int .i64 0, .int .i64 0]) (t := 79) ?hr ?_; (case hd => rfl); (case hg => rfl); (case hr => first | (go_simp; done) | (go_simp; rfl)); intro gb270 hg w29 hbox hb; have n0_ := Aside0.mk (blk_below (bk_ BK266) hb); have n1_ := Aside0.mk (below_step (bl1_ HB GE266) hb); have n2_ := Aside0.mk (hbox); have n3_ := Aside0.mk ((by rw [hg]; exact (below_size (bl1_ HB GE266)) : w.heap.size ≤ gb270)); have n4_ := Aside0.mk ((by rw [hg]; exact (below_size (bl1_ HB GE266)) : w.heap.size ≤ gb270)); have n5_ := Aside0.mk ((by rw [hg]; exact Nat.ne_of_lt (blk_lt (bk_ BK266)) : gb266 ≠ gb270)); have n6_ := Aside0.mk ((by rw [hg]; exact Nat.ne_of_gt (blk_lt (bk_ BK266)) : gb270 ≠ gb266)); clear BK266; clear HB; have BK266 := n0_; have HB := n1_; have BK270 := n2_; have GW270 := n3_; have GE270 := n4_; have NB266_270 := n5_; have NB270_266 := n6_; clear n0_ n1_ n2_ n3_ n4_ n5_ n6_; clear hb hbox hg; have hnb30 := NB270_266.out; have hnc30 := NB266_270.out; have hcz31_0 : w29.cell? ⟨gb270, 0, none⟩ = some (.int .i64 0) := bc_ BK270 0 rfl; have hcz31_1 : w29.cell? ⟨gb270, 1, none⟩ = some (.int .i64 0) := bc_ BK270 1 rfl; have hfz31_0 := bf_ BK270 0; have hfz31_1 := bf_ BK270 1))
    have n0_ : Aside0 (((w29.setCell ⟨gb270, 0, none⟩ (.int .i64 t268)).setCell ⟨gb270, 1, none⟩ (.int .i64 t269)).heap[gb266]? = some (.cells #[.int .i64 a0_0, .slice A0_1 l0_1.length c0_1, .slice A0_2 l0_2.length c0_2, .int .i64 a0_3, .int .i64 a0_4, .int .i64 a0_5, .int .i64 a0_6, .int .i64 a0_7, .slice A0_8 l0_8.length c0_8, .int .i64 a0_9] 33 (0, 0))) := ⟨by (with_reducible repeat (first | refine blk_drewN ?_ _ | refine blk_drew ?_ | refine blk_alloc ?_ _)); refine blk_far ?_ NB266_270.out _; (with_reducible repeat (first | refine blk_drewN ?_ _ | refine blk_drew ?_ | refine blk_alloc ?_ _)); refine blk_far ?_ NB266_270.out _; (with_reducible repeat (first | refine blk_drewN ?_ _ | refine blk_drew ?_ | refine blk_alloc ?_ _)); exact BK266.out⟩
    have n1_ : Aside0 (((w29.setCell ⟨gb270, 0, none⟩ (.int .i64 t268)).setCell ⟨gb270, 1, none⟩ (.int .i64 t269)).heap[gb270]? = some (.cells #[.int .i64 t268, .int .i64 t269] 79 (0, 0))) := ⟨by (with_reducible repeat (first | refine blk_drewN ?_ _ | refine blk_drew ?_ | refine blk_alloc ?_ _)); refine blk_put (cs := #[.int .i64 t268, .int .i64 0]) ?_ 1 _ rfl; (with_reducible repeat (first | refine blk_drewN ?_ _ | refine blk_drew ?_ | refine blk_alloc ?_ _)); refine blk_put (cs := #[.int .i64 0, .int .i64 0]) ?_ 0 _ rfl; (with_reducible repeat (first | refine blk_drewN ?_ _ | refine blk_drew ?_ | refine blk_alloc ?_ _)); exact BK270.out⟩
    have n2_ : Aside0 (Below w.heap.size w ((w29.setCell ⟨gb270, 0, none⟩ (.int .i64 t268)).setCell ⟨gb270, 1, none⟩ (.int .i64 t269))) := ⟨by repeat (first | (with_reducible first | exact HB.out | apply below_alloc | apply pw_below_drewN | apply below_drew1 | refine below_set ?_ GE266.out | refine below_set ?_ GE270.out) | exact HB.out)⟩
    (try clear BK266)
    (try clear BK270)
    (try clear HB)
    generalize ((w29.setCell ⟨gb270, 0, none⟩ (.int .i64 t268)).setCell ⟨gb270, 1, none⟩ (.int .i64 t269)) = w32 at n0_ n1_ n2_ ⊢
    have BK266 := n0_
    have BK270 := n1_
    have HB := n2_
    clear n0_ n1_ n2_
    have n0_ := Aside0.mk (blk_drew BK266.out)
    have n1_ := Aside0.mk (blk_drew BK270.out)
    have n2_ := Aside0.mk (below_drew1 HB.out)
    clear BK266
    clear BK270
    clear HB
    have BK266 := n0_
    have BK270 := n1_
    have HB := n2_
    clear n0_ n1_ n2_
    refine start_ (n := 8) (S := fun w' => w'.cell? ⟨gb270, 0, none⟩ = some (.int .i64 t268) ∧ w'.cell? ⟨gb270, 1, none⟩ = some (.int .i64 t269) ∧ w'.cell? ⟨gb266, 0, none⟩ = some (.int .i64 a0_0) ∧ w'.cell? ⟨gb266, 1, none⟩ = some (.slice A0_1 l0_1.length c0_1) ∧ w'.cell? ⟨gb266, 2, none⟩ = some (.slice A0_2 l0_2.length c0_2) ∧ w'.cell? ⟨gb266, 3, none⟩ = some (.int .i64 a0_3) ∧ w'.cell? ⟨gb266, 4, none⟩ = some (.int .i64 a0_4) ∧ w'.cell? ⟨gb266, 5, none⟩ = some (.int .i64 a0_5) ∧ w'.cell? ⟨gb266, 6, none⟩ = some (.int .i64 a0_6) ∧ w'.cell? ⟨gb266, 7, none⟩ = some (.int .i64 a0_7) ∧ w'.cell? ⟨gb266, 8, none⟩ = some (.slice A0_8 l0_8.length c0_8) ∧ w'.cell? ⟨gb266, 9, none⟩ = some (.int .i64 a0_9)) (ds := []) #[false, false, false, false, false, false, false, false] (by kernel_rfl) rfl rfl ⟨(bc_ BK270 0 rfl), (bc_ BK270 1 rfl), (bc_ BK266 0 rfl), (bc_ BK266 1 rfl), (bc_ BK266 2 rfl), (bc_ BK266 3 rfl), (bc_ BK266 4 rfl), (bc_ BK266 5 rfl), (bc_ BK266 6 rfl), (bc_ BK266 7 rfl), (bc_ BK266 8 rfl), (bc_ BK266 9 rfl)⟩ (fun hHeld => ?_); refine with_tabW spec_ShadowAt.tab4 spec_ShadowAt.bits4 (fun HT_ HW_ => ?_)
    generalize w32.drew = w33 at BK266 BK270 HB hHeld ⊢
    refine pure_ (i := 3) (N := some 24) (v := ?_) (a' := ?_) #[false, false, false, true, false, false, false, false] rfl rfl (any_of HT_.out (by kernel_rfl)) (fun _ _ _ h => h) (Or.inl ⟨by rfl, ?_⟩) ?_ ?_
    rotate_left
    ·intro w'
     go_simp
     with_reducible rfl
    rotate_left
    ·simp only [Act.put, List.setIfInBounds_toArray, List.set_cons_zero, List.set_cons_succ, i64_w, i32_w]
     rfl
    refine take_ (i := 0) (N := some 21) (v := ?_) (a' := ?_) #[true, false, false, true, false, false, false, false] rfl rfl (take_ofW HT_.out HW_.out (by kernel_rfl)) (fun _ _ _ h => h) (Or.inl ⟨by rfl, ?_⟩) hHeld ?_ ?_
    rotate_left
    ·rintro w' ⟨s0, s1, s2, s3, s4, s5, s6, s7, s8, s9, s10, s11⟩
     go_simp
     with_reducible rfl
    rotate_left
    ·simp only [Act.put, List.setIfInBounds_toArray, List.set_cons_zero, List.set_cons_succ, i64_w, i32_w]
     rfl
    refine take_ (i := 2) (N := some 23) (v := ?_) (a' := ?_) #[true, false, true, true, false, false, false, false] rfl rfl (take_ofW HT_.out HW_.out (by kernel_rfl)) (fun _ _ _ h => h) (Or.inl ⟨by rfl, ?_⟩) hHeld ?_ ?_
    rotate_left
    ·rintro w' ⟨s0, s1, s2, s3, s4, s5, s6, s7, s8, s9, s10, s11⟩
     go_simp
     with_reducible rfl
    rotate_left
    ·simp only [Act.put, List.setIfInBounds_toArray, List.set_cons_zero, List.set_cons_succ, i64_w, i32_w]
     rfl
    refine one_ (i := 1) (N := some 22) #[true, true, true, true, false, false, false, false] rfl rfl (one_of HT_.out (by kernel_rfl)) (by decide) (fun K hK => ?_)
    refine goes_ Try.func72 (by kernel_rfl) rfl #[.agg #[.int .i64 t268, .int .i64 t269]] (by rfl) rfl rfl mp_ ?_
    with_reducible refine (spec_MiddleOf.calls t268 t269 t271 _ A7.out).mono ?_
    rintro e w34 ⟨rfl, hb⟩
    refine ⟨_, rfl, ?_⟩
    have n0_ := Aside0.mk (blk_below (bk_ BK266) hb)
    have n1_ := Aside0.mk (blk_below (bk_ BK270) hb)
    have n2_ := Aside0.mk (below_step (bl2_ HB GE266 GE270) hb)
    clear BK266
    clear BK270
    clear HB
    have BK266 := n0_
    have BK270 := n1_
    have HB := n2_
    clear n0_ n1_ n2_
    (try clear hb)
    (try clear hb2)
    (try clear hk)
    (try clear hi)
    refine hK.out _ _ ⟨(bc_ BK270 0 rfl), (bc_ BK270 1 rfl), (bc_ BK266 0 rfl), (bc_ BK266 1 rfl), (bc_ BK266 2 rfl), (bc_ BK266 3 rfl), (bc_ BK266 4 rfl), (bc_ BK266 5 rfl), (bc_ BK266 6 rfl), (bc_ BK266 7 rfl), (bc_ BK266 8 rfl), (bc_ BK266 9 rfl)⟩ (fun hHeld => ?_)
    clear hK K
    refine norm_ (a' := ?_) ?_ ?_
    rotate_left
    ·show Act.put _ (some 22) _ = _
     simp only [Act.put, List.setIfInBounds_toArray, List.set_cons_zero, List.set_cons_succ, i64_w, i32_w]
     rfl
    refine one_ (i := 4) (N := some 25) #[true, true, true, true, true, false, false, false] rfl rfl (one_of HT_.out (by kernel_rfl)) (by decide) (fun K hK => ?_)
    refine goes_ Try.func73 (by kernel_rfl) rfl #[.agg #[.int .i64 a0_0, .slice A0_1 l0_1.length c0_1, .slice A0_2 l0_2.length c0_2, .int .i64 a0_3, .int .i64 a0_4, .int .i64 a0_5, .int .i64 a0_6, .int .i64 a0_7, .slice A0_8 l0_8.length c0_8, .int .i64 a0_9], .int .i64 a2] (by rfl) rfl rfl mp_ ?_
    with_reducible refine (spec_SunAt.calls a0_0 _ _ l0_1 _ _ l0_2 a0_3 a0_4 a0_5 a0_6 a0_7 _ _ l0_8 a0_9 a2 t272 _ ?side1 ?side2 ?side3 ?side4 ?side5 ?side6 A8.out).mono ?_
    (case side1 => exact ck_ HR0_1 HB)
    (case side2 => exact HC0_1.out)
    (case side3 => exact ck_ HR0_2 HB)
    (case side4 => exact HC0_2.out)
    (case side5 => exact ck_ HR0_8 HB)
    (case side6 => exact HC0_8.out)
    rintro e w35 ⟨rfl, hb⟩
    refine ⟨_, rfl, ?_⟩
    have n0_ := Aside0.mk (blk_below (bk_ BK266) hb)
    have n1_ := Aside0.mk (blk_below (bk_ BK270) hb)
    have n2_ := Aside0.mk (below_step (bl2_ HB GE266 GE270) hb)
    clear BK266
    clear BK270
    clear HB
    have BK266 := n0_
    have BK270 := n1_
    have HB := n2_
    clear n0_ n1_ n2_
    (try clear hb)
    (try clear hb2)
    (try clear hk)
    (try clear hi)
    refine hK.out _ _ ⟨(bc_ BK270 0 rfl), (bc_ BK270 1 rfl), (bc_ BK266 0 rfl), (bc_ BK266 1 rfl), (bc_ BK266 2 rfl), (bc_ BK266 3 rfl), (bc_ BK266 4 rfl), (bc_ BK266 5 rfl), (bc_ BK266 6 rfl), (bc_ BK266 7 rfl), (bc_ BK266 8 rfl), (bc_ BK266 9 rfl)⟩ (fun hHeld => ?_)
    clear hK K
    refine norm_ (a' := ?_) ?_ ?_
    rotate_left
    ·show Act.put _ (some 25) _ = _
     simp only [Act.put, List.setIfInBounds_toArray, List.set_cons_zero, List.set_cons_succ, i64_w, i32_w]
     rfl
    refine pure_ (i := 5) (N := some 26) (v := ?_) (a' := ?_) #[true, true, true, true, true, true, false, false] rfl rfl (any_of HT_.out (by kernel_rfl)) (fun _ _ _ h => h) (Or.inl ⟨by rfl, ?_⟩) ?_ ?_
    rotate_left
    ·intro w'
     go_simp
     with_reducible rfl
    rotate_left
    ·simp only [Act.put, List.setIfInBounds_toArray, List.set_cons_zero, List.set_cons_succ, i64_w, i32_w]
     rfl
    refine one_ (i := 6) (N := some 27) #[true, true, true, true, true, true, true, false] rfl rfl (one_of HT_.out (by kernel_rfl)) (by decide) (fun K hK => ?_)
    refine goes_ Try.func71 (by kernel_rfl) rfl #[.int .i64 t271, .int .i64 (wrap64 (t272 + 180))] (by rfl) rfl rfl mp_ ?_
    with_reducible refine (spec_GapOf.calls t271 (wrap64 (t272 + 180)) t273 _ A9.out).mono ?_
    rintro e w' ⟨rfl, ⟨nd, rfl⟩⟩
    refine ⟨_, rfl, ?_⟩
    refine hK.out _ _ ⟨(bc_ BK270 0 rfl), (bc_ BK270 1 rfl), (bc_ BK266 0 rfl), (bc_ BK266 1 rfl), (bc_ BK266 2 rfl), (bc_ BK266 3 rfl), (bc_ BK266 4 rfl), (bc_ BK266 5 rfl), (bc_ BK266 6 rfl), (bc_ BK266 7 rfl), (bc_ BK266 8 rfl), (bc_ BK266 9 rfl)⟩ (fun hHeld => ?_)
    clear hK K
    refine norm_ (a' := ?_) ?_ ?_
    rotate_left
    ·show Act.put _ (some 27) _ = _
     simp only [Act.put, List.setIfInBounds_toArray, List.set_cons_zero, List.set_cons_succ, i64_w, i32_w]
     rfl
    refine pure_ (i := 7) (N := some 8) (v := ?_) (a' := ?_) #[true, true, true, true, true, true, true, true] rfl rfl (any_of HT_.out (by kernel_rfl)) (fun _ _ _ h => h) (Or.inl ⟨by rfl, ?_⟩) ?_ ?_
    rotate_left
    ·intro w'
     go_simp
     with_reducible rfl
    rotate_left
    ·simp only [Act.put, List.setIfInBounds_toArray, List.set_cons_zero, List.set_cons_succ, i64_w, i32_w]
     rfl
    refine done_ (done_of HT_.out (by kernel_rfl)) ?_
    have hcz36_0 : w35.cell? ⟨gb270, 0, none⟩ = some (.int .i64 t268) := bc_ BK270 0 rfl
    have hcz36_1 : w35.cell? ⟨gb270, 1, none⟩ = some (.int .i64 t269) := bc_ BK270 1 rfl
    have hfz36_0 := bf_ BK270 0
    have hfz36_1 := bf_ BK270 1
    have hcz37_0 : w35.cell? ⟨gb266, 0, none⟩ = some (.int .i64 a0_0) := bc_ BK266 0 rfl
    have hcz37_1 : w35.cell? ⟨gb266, 1, none⟩ = some (.slice A0_1 l0_1.length c0_1) := bc_ BK266 1 rfl
    have hcz37_2 : w35.cell? ⟨gb266, 2, none⟩ = some (.slice A0_2 l0_2.length c0_2) := bc_ BK266 2 rfl
    have hcz37_3 : w35.cell? ⟨gb266, 3, none⟩ = some (.int .i64 a0_3) := bc_ BK266 3 rfl
    have hcz37_4 : w35.cell? ⟨gb266, 4, none⟩ = some (.int .i64 a0_4) := bc_ BK266 4 rfl
    have hcz37_5 : w35.cell? ⟨gb266, 5, none⟩ = some (.int .i64 a0_5) := bc_ BK266 5 rfl
    have hcz37_6 : w35.cell? ⟨gb266, 6, none⟩ = some (.int .i64 a0_6) := bc_ BK266 6 rfl
    have hcz37_7 : w35.cell? ⟨gb266, 7, none⟩ = some (.int .i64 a0_7) := bc_ BK266 7 rfl
    have hcz37_8 : w35.cell? ⟨gb266, 8, none⟩ = some (.slice A0_8 l0_8.length c0_8) := bc_ BK266 8 rfl
    have hcz37_9 : w35.cell? ⟨gb266, 9, none⟩ = some (.int .i64 a0_9) := bc_ BK266 9 rfl
    have hfz37_0 := bf_ BK266 0
    have hfz37_1 := bf_ BK266 1
    have hfz37_2 := bf_ BK266 2
    have hfz37_3 := bf_ BK266 3
    have hfz37_4 := bf_ BK266 4
    have hfz37_5 := bf_ BK266 5
    have hfz37_6 := bf_ BK266 6
    have hfz37_7 := bf_ BK266 7
    have hfz37_8 := bf_ BK266 8
    have hfz37_9 := bf_ BK266 9
    try go_wp2
    go_ret
    exact ⟨by first | rfl | (simp [errW_none, errW_some] <;> rfl) | (simp [*, errW_none, errW_some] <;> rfl), by repeat (first | (with_reducible first | exact HB.out | apply below_alloc | apply pw_below_drewN | apply below_drew1 | refine below_set ?_ GE266.out | refine below_set ?_ GE270.out) | exact HB.out)⟩
   ·rw [if_neg c24] at H
    have c24b0 : decide ((wrap64 (t273 + (wrap64 (Int.tdiv t269 2)))) ≤ a0_7) = false := decide_eq_false c24
    clear c24
    obtain rfl := Option.some.inj H
    go_enter Try.func48, Try.ntmps48
    try go_wp2_with (first | ((with_reducible refine gate_dst (N := 3) rfl ?_); refine box_event ?hg (N := 3) ?hd (cs := #[.int .i64 a0_0, .slice A0_1 l0_1.length c0_1, .slice A0_2 l0_2.length c0_2, .int .i64 a0_3, .int .i64 a0_4, .int .i64 a0_5, .int .i64 a0_6, .int .i64 a0_7, .slice A0_8 l0_8.length c0_8, .int .i64 a0_9]) (t := 33) ?hr ?_; (case hd => rfl); (case hg => rfl); (case hr => first | (go_simp; done) | (go_simp; rfl)); intro gb266 hg w38 hbox hb; have n0_ := Aside0.mk (below_step (bl_ HB) hb); have n1_ := Aside0.mk (hbox); have n2_ := Aside0.mk ((by rw [hg]; exact (below_size (bl_ HB)) : w.heap.size ≤ gb266)); have n3_ := Aside0.mk ((by rw [hg]; exact (below_size (bl_ HB)) : w.heap.size ≤ gb266)); clear HB; have HB := n0_; have BK266 := n1_; have GW266 := n2_; have GE266 := n3_; clear n0_ n1_ n2_ n3_; clear hb hbox hg; have hcz39_0 : w38.cell? ⟨gb266, 0, none⟩ = some (.int .i64 a0_0) := bc_ BK266 0 rfl; have hcz39_1 : w38.cell? ⟨gb266, 1, none⟩ = some (.slice A0_1 l0_1.length c0_1) := bc_ BK266 1 rfl; have hcz39_2 : w38.cell? ⟨gb266, 2, none⟩ = some (.slice A0_2 l0_2.length c0_2) := bc_ BK266 2 rfl; have hcz39_3 : w38.cell? ⟨gb266, 3, none⟩ = some (.int .i64 a0_3) := bc_ BK266 3 rfl; have hcz39_4 : w38.cell? ⟨gb266, 4, none⟩ = some (.int .i64 a0_4) := bc_ BK266 4 rfl; have hcz39_5 : w38.cell? ⟨gb266, 5, none⟩ = some (.int .i64 a0_5) := bc_ BK266 5 rfl; have hcz39_6 : w38.cell? ⟨gb266, 6, none⟩ = some (.int .i64 a0_6) := bc_ BK266 6 rfl; have hcz39_7 : w38.cell? ⟨gb266, 7, none⟩ = some (.int .i64 a0_7) := bc_ BK266 7 rfl; have hcz39_8 : w38.cell? ⟨gb266, 8, none⟩ = some (.slice A0_8 l0_8.length c0_8) := bc_ BK266 8 rfl; have hcz39_9 : w38.cell? ⟨gb266, 9, none⟩ = some (.int .i64 a0_9) := bc_ BK266 9 rfl; have hfz39_0 := bf_ BK266 0; have hfz39_1 := bf_ BK266 1; have hfz39_2 := bf_ BK266 2; have hfz39_3 := bf_ BK266 3; have hfz39_4 := bf_ BK266 4; have hfz39_5 := bf_ BK266 5; have hfz39_6 := bf_ BK266 6; have hfz39_7 := bf_ BK266 7; have hfz39_8 := bf_ BK266 8; have hfz39_9 := bf_ BK266 9) | ((with_reducible refine gate_callee (f := 65) rfl ?_); refine goesL_ (some 15) rfl rfl Try.func65 (by kernel_rfl) rfl #[.int .i64 a1, .int .i64 0, .int .i64 (wrap64 ((l0_1.length : Int) - 1))] rfl mp_ ?_; (with_reducible refine (spec_l1In.calls a1 0 (wrap64 ((l0_1.length : Int) - 1)) true _ A4.out).mono ?_); rintro e w' ⟨rfl, ⟨nd, rfl⟩⟩; refine ⟨_, rfl, ?_⟩; (try (rw [drewN_self w38]; generalize hq_ : World.drewN w38 _ = w38; have n0_ : Aside0 (w38.heap[gb266]? = some (.cells #[.int .i64 a0_0, .slice A0_1 l0_1.length c0_1, .slice A0_2 l0_2.length c0_2, .int .i64 a0_3, .int .i64 a0_4, .int .i64 a0_5, .int .i64 a0_6, .int .i64 a0_7, .slice A0_8 l0_8.length c0_8, .int .i64 a0_9] 33 (0, 0))) := ⟨by rw [← hq_]; exact (bk_ BK266)⟩; have n1_ : Aside0 (Below w.heap.size w w38) := ⟨by rw [← hq_]; exact (bl1_ HB GE266)⟩; clear BK266 HB hq_; have BK266 := n0_; have HB := n1_; clear n0_ n1_)); have hcz40_0 : w38.cell? ⟨gb266, 0, none⟩ = some (.int .i64 a0_0) := bc_ BK266 0 rfl; have hcz40_1 : w38.cell? ⟨gb266, 1, none⟩ = some (.slice A0_1 l0_1.length c0_1) := bc_ BK266 1 rfl; have hcz40_2 : w38.cell? ⟨gb266, 2, none⟩ = some (.slice A0_2 l0_2.length c0_2) := bc_ BK266 2 rfl; have hcz40_3 : w38.cell? ⟨gb266, 3, none⟩ = some (.int .i64 a0_3) := bc_ BK266 3 rfl; have hcz40_4 : w38.cell? ⟨gb266, 4, none⟩ = some (.int .i64 a0_4) := bc_ BK266 4 rfl; have hcz40_5 : w38.cell? ⟨gb266, 5, none⟩ = some (.int .i64 a0_5) := bc_ BK266 5 rfl; have hcz40_6 : w38.cell? ⟨gb266, 6, none⟩ = some (.int .i64 a0_6) := bc_ BK266 6 rfl; have hcz40_7 : w38.cell? ⟨gb266, 7, none⟩ = some (.int .i64 a0_7) := bc_ BK266 7 rfl; have hcz40_8 : w38.cell? ⟨gb266, 8, none⟩ = some (.slice A0_8 l0_8.length c0_8) := bc_ BK266 8 rfl; have hcz40_9 : w38.cell? ⟨gb266, 9, none⟩ = some (.int .i64 a0_9) := bc_ BK266 9 rfl; have hfz40_0 := bf_ BK266 0; have hfz40_1 := bf_ BK266 1; have hfz40_2 := bf_ BK266 2; have hfz40_3 := bf_ BK266 3; have hfz40_4 := bf_ BK266 4; have hfz40_5 := bf_ BK266 5; have hfz40_6 := bf_ BK266 6; have hfz40_7 := bf_ BK266 7; have hfz40_8 := bf_ BK266 8; have hfz40_9 := bf_ BK266 9) | ((with_reducible refine gate_callee (f := 67) rfl ?_); refine goesL_ (some 20) rfl rfl Try.func67 (by kernel_rfl) rfl #[.agg #[.int .i64 a0_0, .slice A0_1 l0_1.length c0_1, .slice A0_2 l0_2.length c0_2, .int .i64 a0_3, .int .i64 a0_4, .int .i64 a0_5, .int .i64 a0_6, .int .i64 a0_7, .slice A0_8 l0_8.length c0_8, .int .i64 a0_9], .int .i64 a1, .int .i64 a2] rfl mp_ ?_; (with_reducible refine (spec_NodeAt.calls k a0_0 _ _ l0_1 _ _ l0_2 a0_3 a0_4 a0_5 a0_6 a0_7 _ _ l0_8 a0_9 a1 a2 t268 t269 _ ?side1 ?side2 ?side3 ?side4 ?side5 ?side6 A6.out).mono ?_); (case side1 => exact ck_ HR0_1 HB); (case side2 => exact HC0_1.out); (case side3 => exact ck_ HR0_2 HB); (case side4 => exact HC0_2.out); (case side5 => exact ck_ HR0_8 HB); (case side6 => exact HC0_8.out); rintro e w41 ⟨rfl, hb⟩; refine ⟨_, rfl, ?_⟩; have n0_ := Aside0.mk (blk_below (bk_ BK266) hb); have n1_ := Aside0.mk (below_step (bl1_ HB GE266) hb); clear BK266; clear HB; have BK266 := n0_; have HB := n1_; clear n0_ n1_; (try clear hb); (try clear hb2); (try clear hk); (try clear hi)) | ((with_reducible refine gate_dst (N := 7) rfl ?_); refine box_event ?hg (N := 7) ?hd (cs := #[.int .i64 0, .int .i64 0]) (t := 79) ?hr ?_; (case hd => rfl); (case hg => rfl); (case hr => first | (go_simp; done) | (go_simp; rfl)); intro gb270 hg w42 hbox hb; have n0_ := Aside0.mk (blk_below (bk_ BK266) hb); have n1_ := Aside0.mk (below_step (bl1_ HB GE266) hb); have n2_ := Aside0.mk (hbox); have n3_ := Aside0.mk ((by rw [hg]; exact (below_size (bl1_ HB GE266)) : w.heap.size ≤ gb270)); have n4_ := Aside0.mk ((by rw [hg]; exact (below_size (bl1_ HB GE266)) : w.heap.size ≤ gb270)); have n5_ := Aside0.mk ((by rw [hg]; exact Nat.ne_of_lt (blk_lt (bk_ BK266)) : gb266 ≠ gb270)); have n6_ := Aside0.mk ((by rw [hg]; exact Nat.ne_of_gt (blk_lt (bk_ BK266)) : gb270 ≠ gb266)); clear BK266; clear HB; have BK266 := n0_; have HB := n1_; have BK270 := n2_; have GW270 := n3_; have GE270 := n4_; have NB266_270 := n5_; have NB270_266 := n6_; clear n0_ n1_ n2_ n3_ n4_ n5_ n6_; clear hb hbox hg; have hnb43 := NB270_266.out; have hnc43 := NB266_270.out; have hcz44_0 : w42.cell? ⟨gb270, 0, none⟩ = some (.int .i64 0) := bc_ BK270 0 rfl; have hcz44_1 : w42.cell? ⟨gb270, 1, none⟩ = some (.int .i64 0) := bc_ BK270 1 rfl; have hfz44_0 := bf_ BK270 0; have hfz44_1 := bf_ BK270 1))
    have n0_ : Aside0 (((w42.setCell ⟨gb270, 0, none⟩ (.int .i64 t268)).setCell ⟨gb270, 1, none⟩ (.int .i64 t269)).heap[gb266]? = some (.cells #[.int .i64 a0_0, .slice A0_1 l0_1.length c0_1, .slice A0_2 l0_2.length c0_2, .int .i64 a0_3, .int .i64 a0_4, .int .i64 a0_5, .int .i64 a0_6, .int .i64 a0_7, .slice A0_8 l0_8.length c0_8, .int .i64 a0_9] 33 (0, 0))) := ⟨by (with_reducible repeat (first | refine blk_drewN ?_ _ | refine blk_drew ?_ | refine blk_alloc ?_ _)); refine blk_far ?_ NB266_270.out _; (with_reducible repeat (first | refine blk_drewN ?_ _ | refine blk_drew ?_ | refine blk_alloc ?_ _)); refine blk_far ?_ NB266_270.out _; (with_reducible repeat (first | refine blk_drewN ?_ _ | refine blk_drew ?_ | refine blk_alloc ?_ _)); exact BK266.out⟩
    have n1_ : Aside0 (((w42.setCell ⟨gb270, 0, none⟩ (.int .i64 t268)).setCell ⟨gb270, 1, none⟩ (.int .i64 t269)).heap[gb270]? = some (.cells #[.int .i64 t268, .int .i64 t269] 79 (0, 0))) := ⟨by (with_reducible repeat (first | refine blk_drewN ?_ _ | refine blk_drew ?_ | refine blk_alloc ?_ _)); refine blk_put (cs := #[.int .i64 t268, .int .i64 0]) ?_ 1 _ rfl; (with_reducible repeat (first | refine blk_drewN ?_ _ | refine blk_drew ?_ | refine blk_alloc ?_ _)); refine blk_put (cs := #[.int .i64 0, .int .i64 0]) ?_ 0 _ rfl; (with_reducible repeat (first | refine blk_drewN ?_ _ | refine blk_drew ?_ | refine blk_alloc ?_ _)); exact BK270.out⟩
    have n2_ : Aside0 (Below w.heap.size w ((w42.setCell ⟨gb270, 0, none⟩ (.int .i64 t268)).setCell ⟨gb270, 1, none⟩ (.int .i64 t269))) := ⟨by repeat (first | (with_reducible first | exact HB.out | apply below_alloc | apply pw_below_drewN | apply below_drew1 | refine below_set ?_ GE266.out | refine below_set ?_ GE270.out) | exact HB.out)⟩
    (try clear BK266)
    (try clear BK270)
    (try clear HB)
    generalize ((w42.setCell ⟨gb270, 0, none⟩ (.int .i64 t268)).setCell ⟨gb270, 1, none⟩ (.int .i64 t269)) = w45 at n0_ n1_ n2_ ⊢
    have BK266 := n0_
    have BK270 := n1_
    have HB := n2_
    clear n0_ n1_ n2_
    have n0_ := Aside0.mk (blk_drew BK266.out)
    have n1_ := Aside0.mk (blk_drew BK270.out)
    have n2_ := Aside0.mk (below_drew1 HB.out)
    clear BK266
    clear BK270
    clear HB
    have BK266 := n0_
    have BK270 := n1_
    have HB := n2_
    clear n0_ n1_ n2_
    refine start_ (n := 8) (S := fun w' => w'.cell? ⟨gb270, 0, none⟩ = some (.int .i64 t268) ∧ w'.cell? ⟨gb270, 1, none⟩ = some (.int .i64 t269) ∧ w'.cell? ⟨gb266, 0, none⟩ = some (.int .i64 a0_0) ∧ w'.cell? ⟨gb266, 1, none⟩ = some (.slice A0_1 l0_1.length c0_1) ∧ w'.cell? ⟨gb266, 2, none⟩ = some (.slice A0_2 l0_2.length c0_2) ∧ w'.cell? ⟨gb266, 3, none⟩ = some (.int .i64 a0_3) ∧ w'.cell? ⟨gb266, 4, none⟩ = some (.int .i64 a0_4) ∧ w'.cell? ⟨gb266, 5, none⟩ = some (.int .i64 a0_5) ∧ w'.cell? ⟨gb266, 6, none⟩ = some (.int .i64 a0_6) ∧ w'.cell? ⟨gb266, 7, none⟩ = some (.int .i64 a0_7) ∧ w'.cell? ⟨gb266, 8, none⟩ = some (.slice A0_8 l0_8.length c0_8) ∧ w'.cell? ⟨gb266, 9, none⟩ = some (.int .i64 a0_9)) (ds := []) #[false, false, false, false, false, false, false, false] (by kernel_rfl) rfl rfl ⟨(bc_ BK270 0 rfl), (bc_ BK270 1 rfl), (bc_ BK266 0 rfl), (bc_ BK266 1 rfl), (bc_ BK266 2 rfl), (bc_ BK266 3 rfl), (bc_ BK266 4 rfl), (bc_ BK266 5 rfl), (bc_ BK266 6 rfl), (bc_ BK266 7 rfl), (bc_ BK266 8 rfl), (bc_ BK266 9 rfl)⟩ (fun hHeld => ?_); refine with_tabW spec_ShadowAt.tab4 spec_ShadowAt.bits4 (fun HT_ HW_ => ?_)
    generalize w45.drew = w46 at BK266 BK270 HB hHeld ⊢
    refine pure_ (i := 3) (N := some 24) (v := ?_) (a' := ?_) #[false, false, false, true, false, false, false, false] rfl rfl (any_of HT_.out (by kernel_rfl)) (fun _ _ _ h => h) (Or.inl ⟨by rfl, ?_⟩) ?_ ?_
    rotate_left
    ·intro w'
     go_simp
     with_reducible rfl
    rotate_left
    ·simp only [Act.put, List.setIfInBounds_toArray, List.set_cons_zero, List.set_cons_succ, i64_w, i32_w]
     rfl
    refine take_ (i := 0) (N := some 21) (v := ?_) (a' := ?_) #[true, false, false, true, false, false, false, false] rfl rfl (take_ofW HT_.out HW_.out (by kernel_rfl)) (fun _ _ _ h => h) (Or.inl ⟨by rfl, ?_⟩) hHeld ?_ ?_
    rotate_left
    ·rintro w' ⟨s0, s1, s2, s3, s4, s5, s6, s7, s8, s9, s10, s11⟩
     go_simp
     with_reducible rfl
    rotate_left
    ·simp only [Act.put, List.setIfInBounds_toArray, List.set_cons_zero, List.set_cons_succ, i64_w, i32_w]
     rfl
    refine take_ (i := 2) (N := some 23) (v := ?_) (a' := ?_) #[true, false, true, true, false, false, false, false] rfl rfl (take_ofW HT_.out HW_.out (by kernel_rfl)) (fun _ _ _ h => h) (Or.inl ⟨by rfl, ?_⟩) hHeld ?_ ?_
    rotate_left
    ·rintro w' ⟨s0, s1, s2, s3, s4, s5, s6, s7, s8, s9, s10, s11⟩
     go_simp
     with_reducible rfl
    rotate_left
    ·simp only [Act.put, List.setIfInBounds_toArray, List.set_cons_zero, List.set_cons_succ, i64_w, i32_w]
     rfl
    refine one_ (i := 1) (N := some 22) #[true, true, true, true, false, false, false, false] rfl rfl (one_of HT_.out (by kernel_rfl)) (by decide) (fun K hK => ?_)
    refine goes_ Try.func72 (by kernel_rfl) rfl #[.agg #[.int .i64 t268, .int .i64 t269]] (by rfl) rfl rfl mp_ ?_
    with_reducible refine (spec_MiddleOf.calls t268 t269 t271 _ A7.out).mono ?_
    rintro e w47 ⟨rfl, hb⟩
    refine ⟨_, rfl, ?_⟩
    have n0_ := Aside0.mk (blk_below (bk_ BK266) hb)
    have n1_ := Aside0.mk (blk_below (bk_ BK270) hb)
    have n2_ := Aside0.mk (below_step (bl2_ HB GE266 GE270) hb)
    clear BK266
    clear BK270
    clear HB
    have BK266 := n0_
    have BK270 := n1_
    have HB := n2_
    clear n0_ n1_ n2_
    (try clear hb)
    (try clear hb2)
    (try clear hk)
    (try clear hi)
    refine hK.out _ _ ⟨(bc_ BK270 0 rfl), (bc_ BK270 1 rfl), (bc_ BK266 0 rfl), (bc_ BK266 1 rfl), (bc_ BK266 2 rfl), (bc_ BK266 3 rfl), (bc_ BK266 4 rfl), (bc_ BK266 5 rfl), (bc_ BK266 6 rfl), (bc_ BK266 7 rfl), (bc_ BK266 8 rfl), (bc_ BK266 9 rfl)⟩ (fun hHeld => ?_)
    clear hK K
    refine norm_ (a' := ?_) ?_ ?_
    rotate_left
    ·show Act.put _ (some 22) _ = _
     simp only [Act.put, List.setIfInBounds_toArray, List.set_cons_zero, List.set_cons_succ, i64_w, i32_w]
     rfl
    refine one_ (i := 4) (N := some 25) #[true, true, true, true, true, false, false, false] rfl rfl (one_of HT_.out (by kernel_rfl)) (by decide) (fun K hK => ?_)
    refine goes_ Try.func73 (by kernel_rfl) rfl #[.agg #[.int .i64 a0_0, .slice A0_1 l0_1.length c0_1, .slice A0_2 l0_2.length c0_2, .int .i64 a0_3, .int .i64 a0_4, .int .i64 a0_5, .int .i64 a0_6, .int .i64 a0_7, .slice A0_8 l0_8.length c0_8, .int .i64 a0_9], .int .i64 a2] (by rfl) rfl rfl mp_ ?_
    with_reducible refine (spec_SunAt.calls a0_0 _ _ l0_1 _ _ l0_2 a0_3 a0_4 a0_5 a0_6 a0_7 _ _ l0_8 a0_9 a2 t272 _ ?side1 ?side2 ?side3 ?side4 ?side5 ?side6 A8.out).mono ?_
    (case side1 => exact ck_ HR0_1 HB)
    (case side2 => exact HC0_1.out)
    (case side3 => exact ck_ HR0_2 HB)
    (case side4 => exact HC0_2.out)
    (case side5 => exact ck_ HR0_8 HB)
    (case side6 => exact HC0_8.out)
    rintro e w48 ⟨rfl, hb⟩
    refine ⟨_, rfl, ?_⟩
    have n0_ := Aside0.mk (blk_below (bk_ BK266) hb)
    have n1_ := Aside0.mk (blk_below (bk_ BK270) hb)
    have n2_ := Aside0.mk (below_step (bl2_ HB GE266 GE270) hb)
    clear BK266
    clear BK270
    clear HB
    have BK266 := n0_
    have BK270 := n1_
    have HB := n2_
    clear n0_ n1_ n2_
    (try clear hb)
    (try clear hb2)
    (try clear hk)
    (try clear hi)
    refine hK.out _ _ ⟨(bc_ BK270 0 rfl), (bc_ BK270 1 rfl), (bc_ BK266 0 rfl), (bc_ BK266 1 rfl), (bc_ BK266 2 rfl), (bc_ BK266 3 rfl), (bc_ BK266 4 rfl), (bc_ BK266 5 rfl), (bc_ BK266 6 rfl), (bc_ BK266 7 rfl), (bc_ BK266 8 rfl), (bc_ BK266 9 rfl)⟩ (fun hHeld => ?_)
    clear hK K
    refine norm_ (a' := ?_) ?_ ?_
    rotate_left
    ·show Act.put _ (some 25) _ = _
     simp only [Act.put, List.setIfInBounds_toArray, List.set_cons_zero, List.set_cons_succ, i64_w, i32_w]
     rfl
    refine pure_ (i := 5) (N := some 26) (v := ?_) (a' := ?_) #[true, true, true, true, true, true, false, false] rfl rfl (any_of HT_.out (by kernel_rfl)) (fun _ _ _ h => h) (Or.inl ⟨by rfl, ?_⟩) ?_ ?_
    rotate_left
    ·intro w'
     go_simp
     with_reducible rfl
    rotate_left
    ·simp only [Act.put, List.setIfInBounds_toArray, List.set_cons_zero, List.set_cons_succ, i64_w, i32_w]
     rfl
    refine one_ (i := 6) (N := some 27) #[true, true, true, true, true, true, true, false] rfl rfl (one_of HT_.out (by kernel_rfl)) (by decide) (fun K hK => ?_)
    refine goes_ Try.func71 (by kernel_rfl) rfl #[.int .i64 t271, .int .i64 (wrap64 (t272 + 180))] (by rfl) rfl rfl mp_ ?_
    with_reducible refine (spec_GapOf.calls t271 (wrap64 (t272 + 180)) t273 _ A9.out).mono ?_
    rintro e w' ⟨rfl, ⟨nd, rfl⟩⟩
    refine ⟨_, rfl, ?_⟩
    refine hK.out _ _ ⟨(bc_ BK270 0 rfl), (bc_ BK270 1 rfl), (bc_ BK266 0 rfl), (bc_ BK266 1 rfl), (bc_ BK266 2 rfl), (bc_ BK266 3 rfl), (bc_ BK266 4 rfl), (bc_ BK266 5 rfl), (bc_ BK266 6 rfl), (bc_ BK266 7 rfl), (bc_ BK266 8 rfl), (bc_ BK266 9 rfl)⟩ (fun hHeld => ?_)
    clear hK K
    refine norm_ (a' := ?_) ?_ ?_
    rotate_left
    ·show Act.put _ (some 27) _ = _
     simp only [Act.put, List.setIfInBounds_toArray, List.set_cons_zero, List.set_cons_succ, i64_w, i32_w]
     rfl
    refine pure_ (i := 7) (N := some 8) (v := ?_) (a' := ?_) #[true, true, true, true, true, true, true, true] rfl rfl (any_of HT_.out (by kernel_rfl)) (fun _ _ _ h => h) (Or.inl ⟨by rfl, ?_⟩) ?_ ?_
    rotate_left
    ·intro w'
     go_simp
     with_reducible rfl
    rotate_left
    ·simp only [Act.put, List.setIfInBounds_toArray, List.set_cons_zero, List.set_cons_succ, i64_w, i32_w]
     rfl
    refine done_ (done_of HT_.out (by kernel_rfl)) ?_
    have hcz49_0 : w48.cell? ⟨gb270, 0, none⟩ = some (.int .i64 t268) := bc_ BK270 0 rfl
    have hcz49_1 : w48.cell? ⟨gb270, 1, none⟩ = some (.int .i64 t269) := bc_ BK270 1 rfl
    have hfz49_0 := bf_ BK270 0
    have hfz49_1 := bf_ BK270 1
    have hcz50_0 : w48.cell? ⟨gb266, 0, none⟩ = some (.int .i64 a0_0) := bc_ BK266 0 rfl
    have hcz50_1 : w48.cell? ⟨gb266, 1, none⟩ = some (.slice A0_1 l0_1.length c0_1) := bc_ BK266 1 rfl
    have hcz50_2 : w48.cell? ⟨gb266, 2, none⟩ = some (.slice A0_2 l0_2.length c0_2) := bc_ BK266 2 rfl
    have hcz50_3 : w48.cell? ⟨gb266, 3, none⟩ = some (.int .i64 a0_3) := bc_ BK266 3 rfl
    have hcz50_4 : w48.cell? ⟨gb266, 4, none⟩ = some (.int .i64 a0_4) := bc_ BK266 4 rfl
    have hcz50_5 : w48.cell? ⟨gb266, 5, none⟩ = some (.int .i64 a0_5) := bc_ BK266 5 rfl
    have hcz50_6 : w48.cell? ⟨gb266, 6, none⟩ = some (.int .i64 a0_6) := bc_ BK266 6 rfl
    have hcz50_7 : w48.cell? ⟨gb266, 7, none⟩ = some (.int .i64 a0_7) := bc_ BK266 7 rfl
    have hcz50_8 : w48.cell? ⟨gb266, 8, none⟩ = some (.slice A0_8 l0_8.length c0_8) := bc_ BK266 8 rfl
    have hcz50_9 : w48.cell? ⟨gb266, 9, none⟩ = some (.int .i64 a0_9) := bc_ BK266 9 rfl
    have hfz50_0 := bf_ BK266 0
    have hfz50_1 := bf_ BK266 1
    have hfz50_2 := bf_ BK266 2
    have hfz50_3 := bf_ BK266 3
    have hfz50_4 := bf_ BK266 4
    have hfz50_5 := bf_ BK266 5
    have hfz50_6 := bf_ BK266 6
    have hfz50_7 := bf_ BK266 7
    have hfz50_8 := bf_ BK266 8
    have hfz50_9 := bf_ BK266 9
    try go_wp2
    go_ret
    exact ⟨by first | rfl | (simp [errW_none, errW_some] <;> rfl) | (simp [*, errW_none, errW_some] <;> rfl), by repeat (first | (with_reducible first | exact HB.out | apply below_alloc | apply pw_below_drewN | apply below_drew1 | refine below_set ?_ GE266.out | refine below_set ?_ GE270.out) | exact HB.out)⟩
 ·replace c5 := Bool.eq_false_iff.mpr c5
  subst c5
  have H1 : (some 0) = some r := by rw [if_neg (show ¬ (false = true) by decide)] at H; exact H
  clear H
  have H := H1
  clear H1
  obtain rfl := Option.some.inj H
  go_enter Try.func48, Try.ntmps48
  go_wp2_with (first | ((with_reducible refine gate_dst (N := 3) rfl ?_); refine box_event ?hg (N := 3) ?hd (cs := #[.int .i64 a0_0, .slice A0_1 l0_1.length c0_1, .slice A0_2 l0_2.length c0_2, .int .i64 a0_3, .int .i64 a0_4, .int .i64 a0_5, .int .i64 a0_6, .int .i64 a0_7, .slice A0_8 l0_8.length c0_8, .int .i64 a0_9]) (t := 33) ?hr ?_; (case hd => rfl); (case hg => rfl); (case hr => first | (go_simp; done) | (go_simp; rfl)); intro gb266 hg w51 hbox hb; have n0_ := Aside0.mk (below_step (bl_ HB) hb); have n1_ := Aside0.mk (hbox); have n2_ := Aside0.mk ((by rw [hg]; exact (below_size (bl_ HB)) : w.heap.size ≤ gb266)); have n3_ := Aside0.mk ((by rw [hg]; exact (below_size (bl_ HB)) : w.heap.size ≤ gb266)); clear HB; have HB := n0_; have BK266 := n1_; have GW266 := n2_; have GE266 := n3_; clear n0_ n1_ n2_ n3_; clear hb hbox hg; have hcz52_0 : w51.cell? ⟨gb266, 0, none⟩ = some (.int .i64 a0_0) := bc_ BK266 0 rfl; have hcz52_1 : w51.cell? ⟨gb266, 1, none⟩ = some (.slice A0_1 l0_1.length c0_1) := bc_ BK266 1 rfl; have hcz52_2 : w51.cell? ⟨gb266, 2, none⟩ = some (.slice A0_2 l0_2.length c0_2) := bc_ BK266 2 rfl; have hcz52_3 : w51.cell? ⟨gb266, 3, none⟩ = some (.int .i64 a0_3) := bc_ BK266 3 rfl; have hcz52_4 : w51.cell? ⟨gb266, 4, none⟩ = some (.int .i64 a0_4) := bc_ BK266 4 rfl; have hcz52_5 : w51.cell? ⟨gb266, 5, none⟩ = some (.int .i64 a0_5) := bc_ BK266 5 rfl; have hcz52_6 : w51.cell? ⟨gb266, 6, none⟩ = some (.int .i64 a0_6) := bc_ BK266 6 rfl; have hcz52_7 : w51.cell? ⟨gb266, 7, none⟩ = some (.int .i64 a0_7) := bc_ BK266 7 rfl; have hcz52_8 : w51.cell? ⟨gb266, 8, none⟩ = some (.slice A0_8 l0_8.length c0_8) := bc_ BK266 8 rfl; have hcz52_9 : w51.cell? ⟨gb266, 9, none⟩ = some (.int .i64 a0_9) := bc_ BK266 9 rfl; have hfz52_0 := bf_ BK266 0; have hfz52_1 := bf_ BK266 1; have hfz52_2 := bf_ BK266 2; have hfz52_3 := bf_ BK266 3; have hfz52_4 := bf_ BK266 4; have hfz52_5 := bf_ BK266 5; have hfz52_6 := bf_ BK266 6; have hfz52_7 := bf_ BK266 7; have hfz52_8 := bf_ BK266 8; have hfz52_9 := bf_ BK266 9) | ((with_reducible refine gate_callee (f := 65) rfl ?_); refine goesL_ (some 15) rfl rfl Try.func65 (by kernel_rfl) rfl #[.int .i64 a1, .int .i64 0, .int .i64 (wrap64 ((l0_1.length : Int) - 1))] rfl mp_ ?_; (with_reducible refine (spec_l1In.calls a1 0 (wrap64 ((l0_1.length : Int) - 1)) false _ A4.out).mono ?_); rintro e w' ⟨rfl, ⟨nd, rfl⟩⟩; refine ⟨_, rfl, ?_⟩))
  go_ret
  exact ⟨by first | rfl | (simp [errW_none, errW_some] <;> rfl) | (simp [*, errW_none, errW_some] <;> rfl), by repeat (first | (with_reducible first | exact HB.out | apply below_alloc | apply pw_below_drewN | apply below_drew1 | refine below_set ?_ GE266.out) | exact HB.out)⟩

/-! ### spec_LitSpans: function 22 -/
def spec_LitSpans.l0 : Nat → Int → List (S51) → Int → Int → Int → List (S71) → List (S75) → Int → Int → Int → Int → Int → List (S81) → Int → Option ((List (S51)))
 | 0, _, _, _, _, _, _, _, _, _, _, _, _, _, _ => none
 | k + 1, x1, x9, x11, x12, x275000, x275001, x275002, x275003, x275004, x275005, x275006, x275007, x275008, x275009 => if x12 < x11 then ((spec_ShadowAt.f k x275000 x275001 x275002 x275003 x275004 x275005 x275006 x275007 x275008 x275009 x1 x12).bind fun t280 => (if t280 = 0 then ((spec_l4Put.f x9 x12).bind fun t281 => (spec_LitSpans.l0 k x1 t281 x11 (wrap64 (x12 + 1)) x275000 x275001 x275002 x275003 x275004 x275005 x275006 x275007 x275008 x275009)) else (spec_LitSpans.l0 k x1 x9 x11 (wrap64 (x12 + 1)) x275000 x275001 x275002 x275003 x275004 x275005 x275006 x275007 x275008 x275009))) else (some x9)
def spec_LitSpans.f (k : Nat) (a0_0 : Int) (l0_1 : List (S71)) (l0_2 : List (S75)) (a0_3 : Int) (a0_4 : Int) (a0_5 : Int) (a0_6 : Int) (a0_7 : Int) (l0_8 : List (S81)) (a0_9 : Int) (a1 : Int) (a2 : Int) (a3 : Int) : Option ((List (S51))) := (spec_l8Ticks.f a2 a3).bind fun bt278 => (spec_LitSpans.l0 k a1 (([] : List (S51))) bt278.2 bt278.1 a0_0 l0_1 l0_2 a0_3 a0_4 a0_5 a0_6 a0_7 l0_8 a0_9)
theorem spec_LitSpans.mono_l : ∀ k, (∀ y0 y1 y2 y3 y4 y5 y6 y7 y8 y9 y10 y11 y12 y13, LeO (spec_LitSpans.l0 k y0 y1 y2 y3 y4 y5 y6 y7 y8 y9 y10 y11 y12 y13) (spec_LitSpans.l0 (k + 1) y0 y1 y2 y3 y4 y5 y6 y7 y8 y9 y10 y11 y12 y13))
 | 0 => fun _ _ _ _ _ _ _ _ _ _ _ _ _ _ r h => by simp [spec_LitSpans.l0] at h
 | k + 1 => by
  have ih0 := spec_LitSpans.mono_l k
  ·intro y0 y1 y2 y3 y4 y5 y6 y7 y8 y9 y10 y11 y12 y13
   unfold spec_LitSpans.l0
   repeat' first
   | (with_reducible exact ih0 _ _ _ _ _ _ _ _ _ _ _ _ _ _)
   | (with_reducible exact spec_ShadowAt.mono _ _ _ _ _ _ _ _ _ _ _ _ _)
   | (with_reducible exact LeO.refl _)
   | (with_reducible exact LeO.none _)
   | (with_reducible refine LeO.ite ?_ ?_)
   | (with_reducible refine LeO.bind ?_ (fun _ => ?_))
   | exact ih0 _ _ _ _ _ _ _ _ _ _ _ _ _ _
   | exact spec_ShadowAt.mono _ _ _ _ _ _ _ _ _ _ _ _ _
   | exact LeO.none _
   | refine LeO.ite ?_ ?_
   | refine LeO.bind ?_ (fun _ => ?_)
theorem spec_LitSpans.mono : ∀ a0 a1 a2 a3 a4 a5 a6 a7 a8 a9 a10 a11 a12 k, LeO (spec_LitSpans.f k a0 a1 a2 a3 a4 a5 a6 a7 a8 a9 a10 a11 a12) (spec_LitSpans.f (k + 1) a0 a1 a2 a3 a4 a5 a6 a7 a8 a9 a10 a11 a12) := by
 intro a0 a1 a2 a3 a4 a5 a6 a7 a8 a9 a10 a11 a12 k
 have ih0 := spec_LitSpans.mono_l k
 unfold spec_LitSpans.f
 repeat' first
   | (with_reducible exact ih0 _ _ _ _ _ _ _ _ _ _ _ _ _ _)
   | (with_reducible exact spec_ShadowAt.mono _ _ _ _ _ _ _ _ _ _ _ _ _)
   | (with_reducible exact LeO.refl _)
   | (with_reducible exact LeO.none _)
   | (with_reducible refine LeO.ite ?_ ?_)
   | (with_reducible refine LeO.bind ?_ (fun _ => ?_))
   | exact ih0 _ _ _ _ _ _ _ _ _ _ _ _ _ _
   | exact spec_ShadowAt.mono _ _ _ _ _ _ _ _ _ _ _ _ _
   | exact LeO.none _
   | refine LeO.ite ?_ ?_
   | refine LeO.bind ?_ (fun _ => ?_)
set_option maxHeartbeats 8000000 in
set_option maxRecDepth 100000 in
theorem spec_LitSpans.calls (k : Nat) (a0_0 : Int) (A0_1 : Option Addr) (c0_1 : Nat) (l0_1 : List (S71)) (A0_2 : Option Addr) (c0_2 : Nat) (l0_2 : List (S75)) (a0_3 : Int) (a0_4 : Int) (a0_5 : Int) (a0_6 : Int) (a0_7 : Int) (A0_8 : Option Addr) (c0_8 : Nat) (l0_8 : List (S81)) (a0_9 : Int) (a1 : Int) (a2 : Int) (a3 : Int) (r : List (S51)) (w : World) (hr0_1 : Kd.C k71 w A0_1 l0_1.length l0_1) (hc0_1 : l0_1.length ≤ c0_1) (hr0_2 : Kd.C k75 w A0_2 l0_2.length l0_2) (hc0_2 : l0_2.length ≤ c0_2) (hr0_8 : Kd.C k81 w A0_8 l0_8.length l0_8) (hc0_8 : l0_8.length ≤ c0_8) (h : spec_LitSpans.f k a0_0 l0_1 l0_2 a0_3 a0_4 a0_5 a0_6 a0_7 l0_8 a0_9 a1 a2 a3 = some r) :
  Calls Try.prog 22 #[.agg #[.int .i64 a0_0, .slice A0_1 l0_1.length c0_1, .slice A0_2 l0_2.length c0_2, .int .i64 a0_3, .int .i64 a0_4, .int .i64 a0_5, .int .i64 a0_6, .int .i64 a0_7, .slice A0_8 l0_8.length c0_8, .int .i64 a0_9], .int .i64 a1, .int .i64 a2, .int .i64 a3] w fun e w' => ∃ v0_ : Value, e = .returned (v0_) ∧ Kd.R k51 51 w' w.heap.size (fun _ => True) v0_ r ∧ Below w.heap.size w w' := by
 have hu33 := Try.underlying33
 have HR0_1 := Aside0.mk hr0_1
 have HC0_1 := Aside0.mk hc0_1
 clear hr0_1 hc0_1
 have HR0_2 := Aside0.mk hr0_2
 have HC0_2 := Aside0.mk hc0_2
 clear hr0_2 hc0_2
 have HR0_8 := Aside0.mk hr0_8
 have HC0_8 := Aside0.mk hc0_8
 clear hr0_8 hc0_8
 have HB := Aside0.mk (Below.refl w.heap.size w)
 have H := h
 clear h
 unfold spec_LitSpans.f at H
 obtain ⟨y275, hy275⟩ : ∃ y_ : List (S51), y_ = (([] : List (S51))) := ⟨_, rfl⟩
 replace H : ((spec_l8Ticks.f a2 a3).bind fun bt278 => (spec_LitSpans.l0 k a1 y275 bt278.2 bt278.1 a0_0 l0_1 l0_2 a0_3 a0_4 a0_5 a0_6 a0_7 l0_8 a0_9)) = some r := by first | (rw [hy275]; with_reducible exact H) | (have H2_ := (Option.bind_some _ _).symm.trans H; rw [hy275]; with_reducible exact H2_) | (have H2_ := (Option.bind_some _ _).symm.trans H; with_reducible exact H2_) | with_reducible exact H | (rw [hy275]; exact H) | exact H
 have Ny275 := Aside0.mk hy275
 clear hy275
 replace H := Option.bind_eq_some_iff.mp H
 obtain ⟨⟨t278, t279⟩, A50, H⟩ := H
 replace H : (spec_LitSpans.l0 k a1 y275 t279 t278 a0_0 l0_1 l0_2 a0_3 a0_4 a0_5 a0_6 a0_7 l0_8 a0_9) = some r := H
 have A5 := Aside0.mk A50
 clear A50
 have H' := Aside0.mk H
 clear H
 go_enter Try.func22, Try.ntmps22
 go_wp2_with (first | ((with_reducible refine gate_dst (N := 4) rfl ?_); refine box_event ?hg (N := 4) ?hd (cs := #[.int .i64 a0_0, .slice A0_1 l0_1.length c0_1, .slice A0_2 l0_2.length c0_2, .int .i64 a0_3, .int .i64 a0_4, .int .i64 a0_5, .int .i64 a0_6, .int .i64 a0_7, .slice A0_8 l0_8.length c0_8, .int .i64 a0_9]) (t := 33) ?hr ?_; (case hd => rfl); (case hg => rfl); (case hr => first | (go_simp; done) | (go_simp; rfl)); intro gb274 hg w6 hbox hb; have n0_ := Aside0.mk (below_step (bl_ HB) hb); have n1_ := Aside0.mk (hbox); have n2_ := Aside0.mk ((by rw [hg]; exact (below_size (bl_ HB)) : w.heap.size ≤ gb274)); have n3_ := Aside0.mk ((by rw [hg]; exact (below_size (bl_ HB)) : w.heap.size ≤ gb274)); clear HB; have HB := n0_; have BK274 := n1_; have GW274 := n2_; have GE274 := n3_; clear n0_ n1_ n2_ n3_; clear hb hbox hg) | ((with_reducible refine gate_dst (N := 13) rfl ?_); refine Kd.R_lit k51 _ 51 ?hg (N := 13) ?hd (xs := ([] : List (S51))) (inner := []) (ok := fun _ => True) (okp := fun _ => True) ?hr ?hp (fun _ hk => hk) trivial (Below.refl _ _) (Nat.le_refl _) (by simp) ?_; (case hd => rfl); (case hg => rfl); (case hr => first | (go_simp; done) | (go_simp; rfl)); (case hp => exact (Reps.none _ _)); intro v276 w7 ho8 hb hg_ hnew_; clear hg_ hnew_; (first | rw [← Ny275.out] at ho8 | (simp only [Int.reduceToNat] at ho8; rw [← Ny275.out] at ho8)); have n0_ := Aside0.mk (Kd.R_lower ho8 (below_size (bl1_ HB GE274))); have n1_ := Aside0.mk (blk_below (bk_ BK274) hb); have n2_ := Aside0.mk (below_step (bl1_ HB GE274) hb); clear BK274; clear HB; have HO277 := n0_; have BK274 := n1_; have HB := n2_; clear n0_ n1_ n2_; clear hb ho8) | ((with_reducible refine gate_callee (f := 38) rfl ?_); refine goesL_ (some 17) rfl rfl Try.func38 (by kernel_rfl) rfl #[.int .i64 a2, .int .i64 a3] rfl mp_ ?_; (with_reducible refine (spec_l8Ticks.calls a2 a3 t278 t279 _ A5.out).mono ?_); rintro e w' ⟨rfl, ⟨nd, rfl⟩⟩; refine ⟨_, rfl, ?_⟩))
 go_loopg [9, 12] k (fun kq v9 v12 w' => ∃ (x9_1 : List (S51)) (x12_1 : Int), v12 = .int .i64 x12_1 ∧ Aside0 (spec_LitSpans.l0 kq a1 x9_1 t279 x12_1 a0_0 l0_1 l0_2 a0_3 a0_4 a0_5 a0_6 a0_7 l0_8 a0_9 = some r) ∧ Aside0 (kq ≤ k) ∧ Aside0 (Kd.R k51 51 w' w.heap.size (fun _ => True) v9 x9_1) ∧ Aside0 (w'.heap[gb274]? = some (.cells #[.int .i64 a0_0, (.slice A0_1 l0_1.length c0_1), (.slice A0_2 l0_2.length c0_2), .int .i64 a0_3, .int .i64 a0_4, .int .i64 a0_5, .int .i64 a0_6, .int .i64 a0_7, (.slice A0_8 l0_8.length c0_8), .int .i64 a0_9] 33 (0, 0))) ∧ Aside0 (Below w.heap.size w w'))
 case atStart => exact ⟨(y275), (t278), (by first | rfl | (simp; done) | (simp [*]; done)), H', ⟨Nat.le_refl _⟩, ⟨by (with_reducible repeat (first | apply Kd.R_alloc | apply Kd.R_drewN | apply Kd.R_drew)); exact HO277.out⟩, ⟨by (with_reducible repeat (first | refine blk_drewN ?_ _ | refine blk_drew ?_ | refine blk_alloc ?_ _)); exact BK274.out⟩, ⟨by repeat (first | (with_reducible first | exact HB.out | apply below_alloc | apply pw_below_drewN | apply below_drew1 | refine below_set ?_ GE274.out) | exact HB.out)⟩⟩
 case round =>
  clear H'
  try clear c2
  try clear p2
  try clear c3
  obtain ⟨x9_1, x12_1, rfl, HA, HK1, HO_9, BK274, HB⟩ := hrel
  cases gk with
  | zero => exact absurd HA.out (by simp [spec_LitSpans.l0])
  | succ k1 =>
   have H := HA.out
   clear HA
   simp only [spec_LitSpans.l0] at H
   by_cases c9 : x12_1 < t279
   ·rw [if_pos c9] at H
    have c9b0 : decide (x12_1 < t279) = true := decide_eq_true c9
    clear c9
    replace H := Option.bind_eq_some_iff.mp H
    obtain ⟨t280, A100, H⟩ := H
    have A10 := Aside0.mk A100
    clear A100
    by_cases c11 : t280 = 0
    ·rw [if_pos c11] at H
     have c11b0 : (t280 == 0) = true := beq_iff_eq.mpr c11
     have c11b1 : (t280 != 0) = false := bne_eq_false_iff_eq.mpr c11
     clear c11
     replace H := Option.bind_eq_some_iff.mp H
     obtain ⟨t281, A120, H⟩ := H
     have A12 := Aside0.mk A120
     clear A120
     have H' := Aside0.mk H
     clear H
     have hcz13_0 : wr.cell? ⟨gb274, 0, none⟩ = some (.int .i64 a0_0) := bc_ BK274 0 rfl
     have hcz13_1 : wr.cell? ⟨gb274, 1, none⟩ = some (.slice A0_1 l0_1.length c0_1) := bc_ BK274 1 rfl
     have hcz13_2 : wr.cell? ⟨gb274, 2, none⟩ = some (.slice A0_2 l0_2.length c0_2) := bc_ BK274 2 rfl
     have hcz13_3 : wr.cell? ⟨gb274, 3, none⟩ = some (.int .i64 a0_3) := bc_ BK274 3 rfl
     have hcz13_4 : wr.cell? ⟨gb274, 4, none⟩ = some (.int .i64 a0_4) := bc_ BK274 4 rfl
     have hcz13_5 : wr.cell? ⟨gb274, 5, none⟩ = some (.int .i64 a0_5) := bc_ BK274 5 rfl
     have hcz13_6 : wr.cell? ⟨gb274, 6, none⟩ = some (.int .i64 a0_6) := bc_ BK274 6 rfl
     have hcz13_7 : wr.cell? ⟨gb274, 7, none⟩ = some (.int .i64 a0_7) := bc_ BK274 7 rfl
     have hcz13_8 : wr.cell? ⟨gb274, 8, none⟩ = some (.slice A0_8 l0_8.length c0_8) := bc_ BK274 8 rfl
     have hcz13_9 : wr.cell? ⟨gb274, 9, none⟩ = some (.int .i64 a0_9) := bc_ BK274 9 rfl
     have hfz13_0 := bf_ BK274 0
     have hfz13_1 := bf_ BK274 1
     have hfz13_2 := bf_ BK274 2
     have hfz13_3 := bf_ BK274 3
     have hfz13_4 := bf_ BK274 4
     have hfz13_5 := bf_ BK274 5
     have hfz13_6 := bf_ BK274 6
     have hfz13_7 := bf_ BK274 7
     have hfz13_8 := bf_ BK274 8
     have hfz13_9 := bf_ BK274 9
     go_wp2_with (first | ((with_reducible refine gate_callee (f := 48) rfl ?_); refine goesL_ (some 29) rfl rfl Try.func48 (by kernel_rfl) rfl #[.agg #[.int .i64 a0_0, .slice A0_1 l0_1.length c0_1, .slice A0_2 l0_2.length c0_2, .int .i64 a0_3, .int .i64 a0_4, .int .i64 a0_5, .int .i64 a0_6, .int .i64 a0_7, .slice A0_8 l0_8.length c0_8, .int .i64 a0_9], .int .i64 a1, .int .i64 x12_1] rfl mp_ ?_; (with_reducible refine (spec_ShadowAt.calls k1 a0_0 _ _ l0_1 _ _ l0_2 a0_3 a0_4 a0_5 a0_6 a0_7 _ _ l0_8 a0_9 a1 x12_1 t280 _ ?side1 ?side2 ?side3 ?side4 ?side5 ?side6 A10.out).mono ?_); (case side1 => exact ck_ HR0_1 HB); (case side2 => exact HC0_1.out); (case side3 => exact ck_ HR0_2 HB); (case side4 => exact HC0_2.out); (case side5 => exact ck_ HR0_8 HB); (case side6 => exact HC0_8.out); rintro e w14 ⟨rfl, hb⟩; refine ⟨_, rfl, ?_⟩; have n0_ := Aside0.mk (Kd.R_below (by (with_reducible repeat (first | apply Kd.R_alloc | apply Kd.R_drewN | apply Kd.R_drew)); exact HO_9.out) hb); have n1_ := Aside0.mk (blk_below (bk_ BK274) hb); have n2_ := Aside0.mk (below_step (bl1_ HB GE274) hb); clear HO_9; clear BK274; clear HB; have HO_9 := n0_; have BK274 := n1_; have HB := n2_; clear n0_ n1_ n2_; (try clear hb); (try clear hb2); (try clear hk); (try clear hi); obtain ⟨Ao15, co15, eo15⟩ := Kd.R_slice HO_9.out; subst eo15) | ((with_reducible refine gate_callee (f := 40) rfl ?_); refine goesL_ (some 33) rfl rfl Try.func40 (by kernel_rfl) rfl #[.slice Ao15 x9_1.length co15, .int .i64 x12_1] rfl mp_ ?_; (with_reducible refine (spec_l4Put.calls (fun k_ => some k_ = (.slice Ao15 x9_1.length co15 : Value).ownBlock) (.slice Ao15 x9_1.length co15) x9_1 x12_1 t281 w _ ?side1 ?side2 A12.out).mono ?_); (case side1 => repeat (first | (with_reducible first | exact HB.out | apply below_alloc | apply pw_below_drewN | apply below_drew1 | refine below_set ?_ GE274.out) | exact HB.out)); (case side2 => exact Kd.R_tight rfl HO_9.out); rintro e w16 ⟨v282, rfl, ho0, hb, hkp⟩; refine ⟨_, rfl, ?_⟩; have n0_ := Aside0.mk (blk_kept (bk_ BK274) hkp (fun hs_ => (fun e_ => (Kd.R_ne HO_9.out BK274.out (by decide)) e_) hs_)); have n1_ := Aside0.mk (Kd.R_mono (ok' := fun k_ => True) ho0 (fun k_ hk_ => trivial)); have n2_ := Aside0.mk (hb); clear BK274; clear HB; clear HO_9; have BK274 := n0_; have HO283 := n1_; have HB := n2_; clear n0_ n1_ n2_; (try clear hb); (try clear hkp); (try clear ho0)))
     go_roundg k1
     case measure => have := HK1.out; omega
     case rel => exact ⟨(t281), (wrap64 (x12_1 + 1)), (by first | rfl | (simp; done) | (simp [*]; done)), H', ⟨by have := HK1.out; omega⟩, ⟨by (with_reducible repeat (first | apply Kd.R_alloc | apply Kd.R_drewN | apply Kd.R_drew)); exact HO283.out⟩, ⟨by (with_reducible repeat (first | refine blk_drewN ?_ _ | refine blk_drew ?_ | refine blk_alloc ?_ _)); exact BK274.out⟩, ⟨by repeat (first | (with_reducible first | exact HB.out | apply below_alloc | apply pw_below_drewN | apply below_drew1 | refine below_set ?_ GE274.out) | exact HB.out)⟩⟩
    ·rw [if_neg c11] at H
     have c11b0 : (t280 == 0) = false := beq_eq_false_iff_ne.mpr c11
     have c11b1 : (t280 != 0) = true := bne_iff_ne.mpr c11
     have H' := Aside0.mk H
     clear H
     have hcz17_0 : wr.cell? ⟨gb274, 0, none⟩ = some (.int .i64 a0_0) := bc_ BK274 0 rfl
     have hcz17_1 : wr.cell? ⟨gb274, 1, none⟩ = some (.slice A0_1 l0_1.length c0_1) := bc_ BK274 1 rfl
     have hcz17_2 : wr.cell? ⟨gb274, 2, none⟩ = some (.slice A0_2 l0_2.length c0_2) := bc_ BK274 2 rfl
     have hcz17_3 : wr.cell? ⟨gb274, 3, none⟩ = some (.int .i64 a0_3) := bc_ BK274 3 rfl
     have hcz17_4 : wr.cell? ⟨gb274, 4, none⟩ = some (.int .i64 a0_4) := bc_ BK274 4 rfl
     have hcz17_5 : wr.cell? ⟨gb274, 5, none⟩ = some (.int .i64 a0_5) := bc_ BK274 5 rfl
     have hcz17_6 : wr.cell? ⟨gb274, 6, none⟩ = some (.int .i64 a0_6) := bc_ BK274 6 rfl
     have hcz17_7 : wr.cell? ⟨gb274, 7, none⟩ = some (.int .i64 a0_7) := bc_ BK274 7 rfl
     have hcz17_8 : wr.cell? ⟨gb274, 8, none⟩ = some (.slice A0_8 l0_8.length c0_8) := bc_ BK274 8 rfl
     have hcz17_9 : wr.cell? ⟨gb274, 9, none⟩ = some (.int .i64 a0_9) := bc_ BK274 9 rfl
     have hfz17_0 := bf_ BK274 0
     have hfz17_1 := bf_ BK274 1
     have hfz17_2 := bf_ BK274 2
     have hfz17_3 := bf_ BK274 3
     have hfz17_4 := bf_ BK274 4
     have hfz17_5 := bf_ BK274 5
     have hfz17_6 := bf_ BK274 6
     have hfz17_7 := bf_ BK274 7
     have hfz17_8 := bf_ BK274 8
     have hfz17_9 := bf_ BK274 9
     go_wp2_with (first | ((with_reducible refine gate_callee (f := 48) rfl ?_); refine goesL_ (some 29) rfl rfl Try.func48 (by kernel_rfl) rfl #[.agg #[.int .i64 a0_0, .slice A0_1 l0_1.length c0_1, .slice A0_2 l0_2.length c0_2, .int .i64 a0_3, .int .i64 a0_4, .int .i64 a0_5, .int .i64 a0_6, .int .i64 a0_7, .slice A0_8 l0_8.length c0_8, .int .i64 a0_9], .int .i64 a1, .int .i64 x12_1] rfl mp_ ?_; (with_reducible refine (spec_ShadowAt.calls k1 a0_0 _ _ l0_1 _ _ l0_2 a0_3 a0_4 a0_5 a0_6 a0_7 _ _ l0_8 a0_9 a1 x12_1 t280 _ ?side1 ?side2 ?side3 ?side4 ?side5 ?side6 A10.out).mono ?_); (case side1 => exact ck_ HR0_1 HB); (case side2 => exact HC0_1.out); (case side3 => exact ck_ HR0_2 HB); (case side4 => exact HC0_2.out); (case side5 => exact ck_ HR0_8 HB); (case side6 => exact HC0_8.out); rintro e w18 ⟨rfl, hb⟩; refine ⟨_, rfl, ?_⟩; have n0_ := Aside0.mk (Kd.R_below (by (with_reducible repeat (first | apply Kd.R_alloc | apply Kd.R_drewN | apply Kd.R_drew)); exact HO_9.out) hb); have n1_ := Aside0.mk (blk_below (bk_ BK274) hb); have n2_ := Aside0.mk (below_step (bl1_ HB GE274) hb); clear HO_9; clear BK274; clear HB; have HO_9 := n0_; have BK274 := n1_; have HB := n2_; clear n0_ n1_ n2_; (try clear hb); (try clear hb2); (try clear hk); (try clear hi)))
     go_roundg k1
     case measure => have := HK1.out; omega
     case rel => exact ⟨(x9_1), (wrap64 (x12_1 + 1)), (by first | rfl | (simp; done) | (simp [*]; done)), H', ⟨by have := HK1.out; omega⟩, ⟨by (with_reducible repeat (first | apply Kd.R_alloc | apply Kd.R_drewN | apply Kd.R_drew)); exact HO_9.out⟩, ⟨by (with_reducible repeat (first | refine blk_drewN ?_ _ | refine blk_drew ?_ | refine blk_alloc ?_ _)); exact BK274.out⟩, ⟨by repeat (first | (with_reducible first | exact HB.out | apply below_alloc | apply pw_below_drewN | apply below_drew1 | refine below_set ?_ GE274.out) | exact HB.out)⟩⟩
   ·rw [if_neg c9] at H
    have c9b0 : decide (x12_1 < t279) = false := decide_eq_false c9
    clear c9
    obtain rfl := Option.some.inj H
    go_wp2
    go_ret
    exact ⟨_, by first | rfl | (simp [errW_none, errW_some] <;> rfl) | (simp [*, errW_none, errW_some] <;> rfl), by (with_reducible repeat (first | apply Kd.R_alloc | apply Kd.R_drewN | apply Kd.R_drew)); exact HO_9.out, by repeat (first | (with_reducible first | exact HB.out | apply below_alloc | apply pw_below_drewN | apply below_drew1 | refine below_set ?_ GE274.out) | exact HB.out)⟩

section
variable {P : Program} {ops : Array Oper} {Q : Exit → Act → World → Prop}
theorem gate_fnval {rest : List Oper} {o : Oper} {a : Act} {W : World} {s : Tmp} {az : Array Operand} {ts : Array TypeId} (_ho : o.op = .call { callee := .value (.tmp s), args := az, argTypes := ts }) (h : wpList P ops Q (o :: rest) a W) : wpList P ops Q (o :: rest) a W := h
theorem goesF_ {rest : List Oper} {oi : Oper} {a : Act} {w : World} (N : Option Tmp) (hd : oi.dst = N) (hg : oi.guard = none) {f : FuncId} {lb : Array Value} {s : Tmp} {az : Array Operand} {ts : Array TypeId} (eg : ∀ args w, (callFunc f args).run P w = .ok (.enter f args) w) (args : Array Value)
  (hop : oi.op = .call { callee := .value (.tmp s), args := az, argTypes := ts }) (hs : a.eval (.tmp s) = .func (.func f) #[] lb) (hargs : az.map a.eval = args)
  (h : Calls P f (args ++ lb) w fun e w' => ∃ v, e = .returned v ∧ wpList P ops Q rest (a.put N v) w') : wpList P ops Q (oi :: rest) a w := by
 refine wpList_plain hg fun K hK => ?_
 have he := eg (args ++ lb) w
 have hrun : (execOp a.eval oi).run P w = .ok (.enter f (args ++ lb)) w := by
  unfold execOp
  simp [hop, resolve, Deferred.ofValue, invoke, hs, hargs, he]
 unfold Oper.wp
 rw [hrun, Oper.upon_enter]
 refine h.mono fun e w'' hh => ?_
 obtain ⟨v, rfl, hk⟩ := hh
 subst hd
 exact hK _ _ hk
end
/-! ### spansWhere, at any function value: function 41 -/
def sw.l0 (q : Nat → Int → Option Bool) : Nat → Int → List (S51) → Int → Option ((List (S51)))
 | 0, _, _, _ => none
 | k + 1, x1, x7, x8 => if x8 < (mn x1 1000) then ((q k x8).bind fun t287 => (if t287 = true then (if (wrap64 ((x7.length : Int) - 1)) ≥ 0 then (if 0 ≤ (wrap64 ((x7.length : Int) - 1)) then (if (wrap64 ((x7.length : Int) - 1)) < (x7.length : Int) then (if ((rd_T51 x7 (wrap64 ((x7.length : Int) - 1))).f1) = x8 then (sw.l0 q k x1 (x7.set ((wrap64 ((x7.length : Int) - 1)) : Int).toNat (⟨(rd_T51 x7 (wrap64 ((x7.length : Int) - 1))).f0, wrap64 (((rd_T51 x7 (wrap64 ((x7.length : Int) - 1))).f1) + 1)⟩ : S51)) (wrap64 (x8 + 1))) else (if x7.length < 8796093022208 then (sw.l0 q k x1 (x7 ++ [(⟨x8, wrap64 (x8 + 1)⟩ : S51)]) (wrap64 (x8 + 1))) else (none))) else (none)) else (none)) else (if x7.length < 8796093022208 then (sw.l0 q k x1 (x7 ++ [(⟨x8, wrap64 (x8 + 1)⟩ : S51)]) (wrap64 (x8 + 1))) else (none))) else (sw.l0 q k x1 x7 (wrap64 (x8 + 1))))) else (some x7)
def sw.f (q : Nat → Int → Option Bool) (k : Nat) (a0 : Int) (a1 : Int) : Option ((List (S51))) := sw.l0 q k a1 (([] : List (S51))) (mx a0 0)
theorem sw.mono_l (q : Nat → Int → Option Bool) (hm : ∀ t k, LeO (q k t) (q (k + 1) t)) : ∀ k, (∀ y0 y1 y2, LeO (sw.l0 q k y0 y1 y2) (sw.l0 q (k + 1) y0 y1 y2))
 | 0 => fun _ _ _ r h => by simp [sw.l0] at h
 | k + 1 => by
  have ih0 := sw.mono_l q hm k
  ·intro y0 y1 y2
   unfold sw.l0
   repeat' first
   | (with_reducible exact ih0 _ _ _)
   | (with_reducible exact hm _ _)
   | (with_reducible exact LeO.refl _)
   | (with_reducible exact LeO.none _)
   | (with_reducible refine LeO.ite ?_ ?_)
   | (with_reducible refine LeO.bind ?_ (fun _ => ?_))
   | exact ih0 _ _ _
   | exact hm _ _
   | exact LeO.none _
   | refine LeO.ite ?_ ?_
   | refine LeO.bind ?_ (fun _ => ?_)
theorem sw.mono (q : Nat → Int → Option Bool) (hm : ∀ t k, LeO (q k t) (q (k + 1) t)) : ∀ a0 a1 k, LeO (sw.f q k a0 a1) (sw.f q (k + 1) a0 a1) := by
 intro a0 a1 k
 have ih0 := sw.mono_l q hm k
 unfold sw.f
 repeat' first
   | (with_reducible exact ih0 _ _ _)
   | (with_reducible exact hm _ _)
   | (with_reducible exact LeO.refl _)
   | (with_reducible exact LeO.none _)
   | (with_reducible refine LeO.ite ?_ ?_)
   | (with_reducible refine LeO.bind ?_ (fun _ => ?_))
   | exact ih0 _ _ _
   | exact hm _ _
   | exact LeO.none _
   | refine LeO.ite ?_ ?_
   | refine LeO.bind ?_ (fun _ => ?_)
set_option maxHeartbeats 8000000 in
set_option maxRecDepth 100000 in
theorem sw.calls (q : Nat → Int → Option Bool) (k : Nat) (a0 : Int) (a1 : Int) (r : List (S51)) (w : World) (gF : FuncId) (lb : Array Value) (eg : ∀ args w, (callFunc gF args).run Try.prog w = .ok (.enter gF args) w) (hq : ∀ (k' : Nat) (t : Int) (b : Bool) (W : World), q k' t = some b → Below w.heap.size w W → Calls Try.prog gF (#[.int .i64 t] ++ lb) W fun e w' => e = .returned (.bool b) ∧ Below W.heap.size W w') (h : sw.f q k a0 a1 = some r) :
  Calls Try.prog 41 #[.int .i64 a0, .int .i64 a1, .func (.func gF) #[] lb] w fun e w' => ∃ v0_ : Value, e = .returned (v0_) ∧ Kd.R k51 51 w' w.heap.size (fun _ => True) v0_ r ∧ Below w.heap.size w w' := by
 have hu51 := Try.underlying51
 have HB := Aside0.mk (Below.refl w.heap.size w)
 have H := h
 clear h
 unfold sw.f at H
 obtain ⟨y284, hy284⟩ : ∃ y_ : List (S51), y_ = (([] : List (S51))) := ⟨_, rfl⟩
 replace H : (sw.l0 q k a1 y284 (mx a0 0)) = some r := by first | (rw [hy284]; with_reducible exact H) | (have H2_ := (Option.bind_some _ _).symm.trans H; rw [hy284]; with_reducible exact H2_) | (have H2_ := (Option.bind_some _ _).symm.trans H; with_reducible exact H2_) | with_reducible exact H | (rw [hy284]; exact H) | exact H
 have Ny284 := Aside0.mk hy284
 clear hy284
 obtain ⟨ji4, hji4⟩ : ∃ j_ : Int, (mx a0 0) = j_ := ⟨_, rfl⟩
 replace H : (sw.l0 q k a1 y284 ji4) = some r := by first | (rw [hji4] at H; exact H) | (simp only [hji4] at H ⊢; exact H)
 (try (have hji4l : 0 ≤ ji4 := by (rw [← hji4]; unfold mx; (repeat' split) <;> omega)))
 (try (have hji4m : 0 ≤ ji4 := by omega))
 have hji4_ : (if a0 < 0 then 0 else a0) = ji4 := hji4
 have H' := Aside0.mk H
 clear H
 go_enter Try.func41, Try.ntmps41
 go_wp2_with (first | ((with_reducible refine gate_dst (N := 10) rfl ?_); refine Kd.R_lit k51 _ 51 ?hg (N := 10) ?hd (xs := ([] : List (S51))) (inner := []) (ok := fun _ => True) (okp := fun _ => True) ?hr ?hp (fun _ hk => hk) trivial (Below.refl _ _) (Nat.le_refl _) (by simp) ?_; (case hd => rfl); (case hg => rfl); (case hr => first | (go_simp; done) | (go_simp; rfl)); (case hp => exact (Reps.none _ _)); intro v285 w5 ho6 hb hg_ hnew_; clear hg_ hnew_; (first | rw [← Ny284.out] at ho6 | (simp only [Int.reduceToNat] at ho6; rw [← Ny284.out] at ho6)); have n0_ := Aside0.mk (Kd.R_lower ho6 (below_size (bl_ HB))); have n1_ := Aside0.mk (below_step (bl_ HB) hb); clear HB; have HO286 := n0_; have HB := n1_; clear n0_ n1_; clear hb ho6))
 go_loopg [7, 8] k (fun kq v7 v8 w' => ∃ (x7_1 : List (S51)) (x8_1 : Int), v8 = .int .i64 x8_1 ∧ Aside0 (sw.l0 q kq a1 x7_1 x8_1 = some r) ∧ Aside0 (kq ≤ k) ∧ Aside0 (Kd.R k51 51 w' w.heap.size (fun _ => True) v7 x7_1) ∧ Aside0 (Below w.heap.size w w'))
 case atStart => exact ⟨(y284), (ji4), (by first | rfl | (simp; done) | (simp only [← hji4] <;> (first | rfl | simp)) | (simp [*]; done)), H', ⟨Nat.le_refl _⟩, ⟨by (with_reducible repeat (first | apply Kd.R_alloc | apply Kd.R_drewN | apply Kd.R_drew)); exact HO286.out⟩, ⟨by repeat (first | (with_reducible first | exact HB.out | apply below_alloc | apply pw_below_drewN | apply below_drew1) | exact HB.out)⟩⟩
 case round =>
  clear H'
  try clear p2
  try clear c4
  obtain ⟨x7_1, x8_1, rfl, HA, HK1, HO_7, HB⟩ := hrel
  cases gk with
  | zero => exact absurd HA.out (by simp [sw.l0])
  | succ k1 =>
   have H := HA.out
   clear HA
   simp only [sw.l0] at H
   obtain ⟨ji7, hji7⟩ : ∃ j_ : Int, (mn a1 1000) = j_ := ⟨_, rfl⟩
   replace H : (if x8_1 < (ji7) then ((q k1 x8_1).bind fun t287 => (if t287 = true then (if (wrap64 ((x7_1.length : Int) - 1)) ≥ 0 then (if 0 ≤ (wrap64 ((x7_1.length : Int) - 1)) then (if (wrap64 ((x7_1.length : Int) - 1)) < (x7_1.length : Int) then (if ((rd_T51 x7_1 (wrap64 ((x7_1.length : Int) - 1))).f1) = x8_1 then (sw.l0 q k1 a1 (x7_1.set ((wrap64 ((x7_1.length : Int) - 1)) : Int).toNat (⟨(rd_T51 x7_1 (wrap64 ((x7_1.length : Int) - 1))).f0, wrap64 (((rd_T51 x7_1 (wrap64 ((x7_1.length : Int) - 1))).f1) + 1)⟩ : S51)) (wrap64 (x8_1 + 1))) else (if x7_1.length < 8796093022208 then (sw.l0 q k1 a1 (x7_1 ++ [(⟨x8_1, wrap64 (x8_1 + 1)⟩ : S51)]) (wrap64 (x8_1 + 1))) else (none))) else (none)) else (none)) else (if x7_1.length < 8796093022208 then (sw.l0 q k1 a1 (x7_1 ++ [(⟨x8_1, wrap64 (x8_1 + 1)⟩ : S51)]) (wrap64 (x8_1 + 1))) else (none))) else (sw.l0 q k1 a1 x7_1 (wrap64 (x8_1 + 1))))) else (some x7_1)) = some r := by first | (rw [hji7] at H; exact H) | (simp only [hji7] at H ⊢; exact H)
   have hji7_ : (if 1000 < a1 then 1000 else a1) = ji7 := hji7
   by_cases c8 : x8_1 < (ji7)
   ·rw [if_pos c8] at H
    have c8b0 : decide (x8_1 < (ji7)) = true := decide_eq_true c8
    clear c8
    replace H := Option.bind_eq_some_iff.mp H
    obtain ⟨t287, A90, H⟩ := H
    have A9 := Aside0.mk A90
    clear A90
    by_cases c10 : t287 = true
    ·subst c10
     have H1 : (if (wrap64 ((x7_1.length : Int) - 1)) ≥ 0 then (if 0 ≤ (wrap64 ((x7_1.length : Int) - 1)) then (if (wrap64 ((x7_1.length : Int) - 1)) < (x7_1.length : Int) then (if ((rd_T51 x7_1 (wrap64 ((x7_1.length : Int) - 1))).f1) = x8_1 then (sw.l0 q k1 a1 (x7_1.set ((wrap64 ((x7_1.length : Int) - 1)) : Int).toNat (⟨(rd_T51 x7_1 (wrap64 ((x7_1.length : Int) - 1))).f0, wrap64 (((rd_T51 x7_1 (wrap64 ((x7_1.length : Int) - 1))).f1) + 1)⟩ : S51)) (wrap64 (x8_1 + 1))) else (if x7_1.length < 8796093022208 then (sw.l0 q k1 a1 (x7_1 ++ [(⟨x8_1, wrap64 (x8_1 + 1)⟩ : S51)]) (wrap64 (x8_1 + 1))) else (none))) else (none)) else (none)) else (if x7_1.length < 8796093022208 then (sw.l0 q k1 a1 (x7_1 ++ [(⟨x8_1, wrap64 (x8_1 + 1)⟩ : S51)]) (wrap64 (x8_1 + 1))) else (none))) = some r := by rw [if_pos rfl] at H; exact H
     clear H
     have H := H1
     clear H1
     by_cases c11 : (wrap64 ((x7_1.length : Int) - 1)) ≥ 0
     ·rw [if_pos c11] at H
      have c11b0 : decide (0 ≤ (wrap64 ((x7_1.length : Int) - 1))) = true := decide_eq_true c11
      clear c11
      obtain ⟨ji12, hji12⟩ : ∃ j_ : Int, (wrap64 ((x7_1.length : Int) - 1)) = j_ := ⟨_, rfl⟩
      replace H : (if 0 ≤ (ji12) then (if (ji12) < (x7_1.length : Int) then (if ((rd_T51 x7_1 (ji12)).f1) = x8_1 then (sw.l0 q k1 a1 (x7_1.set ((ji12) : Int).toNat (⟨(rd_T51 x7_1 (ji12)).f0, wrap64 (((rd_T51 x7_1 (ji12)).f1) + 1)⟩ : S51)) (wrap64 (x8_1 + 1))) else (if x7_1.length < 8796093022208 then (sw.l0 q k1 a1 (x7_1 ++ [(⟨x8_1, wrap64 (x8_1 + 1)⟩ : S51)]) (wrap64 (x8_1 + 1))) else (none))) else (none)) else (none)) = some r := by first | (rw [hji12] at H; exact H) | (simp only [hji12] at H ⊢; exact H)
      (try rw [hji12] at c11b0)
      (try rw [hji12] at A9)
      have hji12w : (IntKind.i64.wrap ((x7_1.length : Int) - 1)) = ji12 := (i64_w _).trans hji12
      by_cases c13 : 0 ≤ (ji12)
      ·rw [if_pos c13] at H
       have c13b0 : decide (0 ≤ (ji12)) = true := decide_eq_true c13
       clear c13
       by_cases c14 : (ji12) < (x7_1.length : Int)
       ·rw [if_pos c14] at H
        have c14b0 : decide ((ji12) < (x7_1.length : Int)) = true := decide_eq_true c14
        clear c14
        by_cases c15 : ((rd_T51 x7_1 (ji12)).f1) = x8_1
        ·rw [if_pos c15] at H
         have c15b0 : (((rd_T51 x7_1 (ji12)).f1) == x8_1) = true := beq_iff_eq.mpr c15
         have c15b1 : (((rd_T51 x7_1 (ji12)).f1) != x8_1) = false := bne_eq_false_iff_eq.mpr c15
         clear c15
         obtain ⟨y290, hy290⟩ : ∃ y_ : List (S51), y_ = (x7_1.set ((ji12) : Int).toNat (⟨(rd_T51 x7_1 (ji12)).f0, wrap64 (((rd_T51 x7_1 (ji12)).f1) + 1)⟩ : S51)) := ⟨_, rfl⟩
         replace H : (sw.l0 q k1 a1 y290 (wrap64 (x8_1 + 1))) = some r := by first | (rw [hy290]; with_reducible exact H) | (have H2_ := (Option.bind_some _ _).symm.trans H; rw [hy290]; with_reducible exact H2_) | (have H2_ := (Option.bind_some _ _).symm.trans H; with_reducible exact H2_) | with_reducible exact H | (rw [hy290]; exact H) | exact H
         have Ny290 := Aside0.mk hy290
         clear hy290
         have H' := Aside0.mk H
         clear H
         go_wp2_with (first | ((with_reducible refine gate_fnval (s := 19) rfl ?_); refine goesF_ (some 21) rfl rfl eg #[.int .i64 x8_1] rfl rfl mp_ ?_; (refine (hq k1 x8_1 true _ A9.out (bl_ HB)).mono ?_); rintro e w17 ⟨rfl, hb⟩; refine ⟨_, rfl, ?_⟩; have n0_ := Aside0.mk (Kd.R_below (by (with_reducible repeat (first | apply Kd.R_alloc | apply Kd.R_drewN | apply Kd.R_drew)); exact HO_7.out) hb); have n1_ := Aside0.mk (below_step (bl_ HB) hb); clear HO_7; clear HB; have HO_7 := n0_; have HB := n1_; clear n0_ n1_; (try clear hb); (try clear hb2); (try clear hk); (try clear hi); obtain ⟨Ao18, co18, eo18⟩ := Kd.R_slice HO_7.out; subst eo18; have p288 : 0 ≤ ((ji12) : Int) := of_decide_eq_true (by first | (with_reducible assumption) | assumption); have q288 : (ji12) < (x7_1.length : Int) := of_decide_eq_true (by first | (with_reducible assumption) | assumption); obtain ⟨ad288, e288, hx288_0, hx288_1⟩ := at_T51 (Kd.R_reads' HO_7.out).2.2 (ji12) p288 q288; cases e288; replace p288 := eq_true p288; replace q288 := eq_true q288; have p289 : 0 ≤ ((ji12) : Int) := of_decide_eq_true (by first | (with_reducible assumption) | assumption); have q289 : (ji12) < (x7_1.length : Int) := of_decide_eq_true (by first | (with_reducible assumption) | assumption); obtain ⟨ad289, e289, hx289_0, hx289_1⟩ := at_T51 (Kd.R_reads' HO_7.out).2.2 (ji12) p289 q289; obtain rfl : ad288 = ad289 := (by injection e289); replace p289 := eq_true p289; replace q289 := eq_true q289; have p16 : 0 ≤ ((ji12) : Int) := of_decide_eq_true (by first | (with_reducible assumption) | assumption); have q16 : ((ji12) : Int) < ((x7_1.length : Int) : Int) := of_decide_eq_true (by first | (with_reducible assumption) | assumption); obtain ⟨go16, co16, eo16, gb16, gl16, cl16, HG16⟩ := Kd.R_form HO_7.out (by omega); (first | cases eo16 | (injection eo16 with ea_ en_ ec_; (first | subst ea_ | (injection ea_ with ea_; subst ea_)); subst ec_; clear en_)); have GB16 := Aside0.mk gb16; have GG16 := Aside0.mk HG16; clear gb16 gl16 HG16; (first | simp only [add_plain] at hx288_0 | skip); (first | simp only [add_plain] at hx288_1 | skip); (first | simp only [add_plain] at hx289_0 | skip); (first | simp only [add_plain] at hx289_1 | skip); obtain ⟨ce16, hcl16, hM16, hcc16, hfr16⟩ := Kd.R_elem HO_7.out z51 ((ji12) : Int) p16 q16; obtain rfl := k51_openM hM16; have hx16_0 : w17.cell? ⟨go16, ((ji12) : Int).toNat * 2, none⟩ = some (.int .i64 ((rd_T51 x7_1 (ji12)).f0)) := hcc16 0 _ rfl; have hx16_1 : w17.cell? ⟨go16, ((ji12) : Int).toNat * 2 + 1, none⟩ = some (.int .i64 ((rd_T51 x7_1 (ji12)).f1)) := hcc16 1 _ rfl; have hf16_0 : w17.frozen? ⟨go16, ((ji12) : Int).toNat * 2, none⟩ = false := hfr16 0; have hf16_1 : w17.frozen? ⟨go16, ((ji12) : Int).toNat * 2 + 1, none⟩ = false := hfr16 1; clear hcl16 hcc16 hfr16 hM16; replace p16 := eq_true p16; replace q16 := eq_true q16; have HX19 := Aside0.mk (show Kd.R k51 51 w17 w.heap.size (fun _ => True) (.slice (some ⟨go16, 0, none⟩) x7_1.length co18) x7_1 from (by (with_reducible repeat (first | apply Kd.R_alloc | apply Kd.R_drewN | apply Kd.R_drew)); exact HO_7.out)); obtain ⟨ce19, hcl19, hM19, hcc19, hfr19⟩ := Kd.R_elem HX19.out z51 ((ji12) : Int) (of_decide_eq_true (by first | (with_reducible assumption) | assumption)) (by have h_ : ((ji12) : Int) < ((x7_1.length : Int) : Int) := of_decide_eq_true (by first | (with_reducible assumption) | assumption); first | exact h_ | (have e_ := (Kd.R_reads' HO_7.out).1; omega) | simpa using h_); obtain rfl := k51_openM hM19; have HP19 := Kd.R_seg HX19.out ((ji12) : Int) (of_decide_eq_true (by first | (with_reducible assumption) | assumption)) (by have h_ : ((ji12) : Int) < ((x7_1.length : Int) : Int) := of_decide_eq_true (by first | (with_reducible assumption) | assumption); first | exact h_ | (have e_ := (Kd.R_reads' HO_7.out).1; omega) | simpa using h_) (seg := [.int .i64 (wrap64 (((rd_T51 x7_1 (ji12)).f1) + 1))]) (j := 1) hcl19 hcc19 (show 2 ≤ 2 from by decide) (x' := (⟨(rd_T51 x7_1 (ji12)).f0, wrap64 (((rd_T51 x7_1 (ji12)).f1) + 1)⟩ : S51)) (k51_mkM _ _ _ (⟨(rd_T51 x7_1 (ji12)).f0, wrap64 (((rd_T51 x7_1 (ji12)).f1) + 1)⟩ : S51) ) (fun _ hk => hk); have hx19_1 := hcc19 1 _ rfl; (try simp only [show (k51).sz = 2 from rfl, Nat.mul_one, Nat.add_zero] at hx19_1); have hf19_1 := hfr19 1; (try simp only [show (k51).sz = 2 from rfl, Nat.mul_one, Nat.add_zero] at hf19_1); clear hcl19 hcc19 hfr19 hM19) | ((with_reducible refine gate_store (t := 3) (p := 44) rfl ?_); refine store_event (t := 3) (p := 44) (v := ?vo_w20) (w1 := (w17.setCell ⟨go16, ((ji12) : Int).toNat * 2 + 1, none⟩ (.int .i64 (wrap64 (((rd_T51 x7_1 (ji12)).f1) + 1))))) ?hg ?ho ?hn ?hr ?_; (case ho => rfl); (case hg => rfl); (case hn => rfl); (case hr => first | (go_simp; done) | (go_simp; rfl)); intro w20 hw; have hg : w17.grownBy w20 (some go16) := (by rw [hw]; exact HP19.2); have hp_ : Kd.R k51 51 w20 w.heap.size (fun _ => True) (.slice (some ⟨go16, 0, none⟩) x7_1.length co18) y290 := (by rw [hw, Ny290.out]; exact HP19.1); clear HP19; have n0_ := Aside0.mk (hp_); have n1_ := Aside0.mk ((by rw [hw]; exact below_set (HB.out) GB16.out : Below w.heap.size w w20)); clear HO_7; clear HB; have HO_7 := n0_; have HB := n1_; clear n0_ n1_; clear hg hw hp_))
         go_roundg k1
         case measure => have := HK1.out; omega
         case rel => exact ⟨(y290), (wrap64 (x8_1 + 1)), (by first | rfl | (simp; done) | (simp [*]; done)), H', ⟨by have := HK1.out; omega⟩, ⟨by (with_reducible repeat (first | apply Kd.R_alloc | apply Kd.R_drewN | apply Kd.R_drew)); exact HO_7.out⟩, ⟨by repeat (first | (with_reducible first | exact HB.out | apply below_alloc | apply pw_below_drewN | apply below_drew1) | exact HB.out)⟩⟩
        ·rw [if_neg c15] at H
         have c15b0 : (((rd_T51 x7_1 (ji12)).f1) == x8_1) = false := beq_eq_false_iff_ne.mpr c15
         have c15b1 : (((rd_T51 x7_1 (ji12)).f1) != x8_1) = true := bne_iff_ne.mpr c15
         by_cases c21 : x7_1.length < 8796093022208
         ·rw [if_pos c21] at H
          have LMc21 := Aside0.mk c21
          clear c21
          obtain ⟨y291, hy291⟩ : ∃ y_ : List (S51), y_ = (x7_1 ++ [(⟨x8_1, wrap64 (x8_1 + 1)⟩ : S51)]) := ⟨_, rfl⟩
          replace H : (sw.l0 q k1 a1 y291 (wrap64 (x8_1 + 1))) = some r := by first | (rw [hy291]; with_reducible exact H) | (have H2_ := (Option.bind_some _ _).symm.trans H; rw [hy291]; with_reducible exact H2_) | (have H2_ := (Option.bind_some _ _).symm.trans H; with_reducible exact H2_) | with_reducible exact H | (rw [hy291]; exact H) | exact H
          have Ny291 := Aside0.mk hy291
          clear hy291
          have H' := Aside0.mk H
          clear H
          go_wp2_with (first | ((with_reducible refine gate_fnval (s := 19) rfl ?_); refine goesF_ (some 21) rfl rfl eg #[.int .i64 x8_1] rfl rfl mp_ ?_; (refine (hq k1 x8_1 true _ A9.out (bl_ HB)).mono ?_); rintro e w22 ⟨rfl, hb⟩; refine ⟨_, rfl, ?_⟩; have n0_ := Aside0.mk (Kd.R_below (by (with_reducible repeat (first | apply Kd.R_alloc | apply Kd.R_drewN | apply Kd.R_drew)); exact HO_7.out) hb); have n1_ := Aside0.mk (below_step (bl_ HB) hb); clear HO_7; clear HB; have HO_7 := n0_; have HB := n1_; clear n0_ n1_; (try clear hb); (try clear hb2); (try clear hk); (try clear hi); obtain ⟨Ao23, co23, eo23⟩ := Kd.R_slice HO_7.out; subst eo23; have p288 : 0 ≤ ((ji12) : Int) := of_decide_eq_true (by first | (with_reducible assumption) | assumption); have q288 : (ji12) < (x7_1.length : Int) := of_decide_eq_true (by first | (with_reducible assumption) | assumption); obtain ⟨ad288, e288, hx288_0, hx288_1⟩ := at_T51 (Kd.R_reads' HO_7.out).2.2 (ji12) p288 q288; cases e288; replace p288 := eq_true p288; replace q288 := eq_true q288) | ((with_reducible refine gate_builtin (b := .append) (xs := #[.tmp 45, .tmp 50]) rfl ?_); at_builtin; refine Kd.R_append k51 (w0 := w) w.heap.size rfl (.tmp 45) (.tmp 50) 37 51 (.agg #[(.int .i64 0), (.int .i64 0)]) 16 rfl Try.underlying37 info51 rfl (by decide) (by omega) (.slice (some ad288) x7_1.length co23) x7_1 (⟨x8_1, wrap64 (x8_1 + 1)⟩ : S51) [.int .i64 x8_1, .int .i64 (wrap64 (x8_1 + 1))] (fun _ => True) (fun _ => False) rfl rfl ?aP (fun _ hk => hk.elim) ?aF ?aO ?aB ?aS ?aL ?_; (case aP => exact k51_mkM _ _ _ (⟨x8_1, wrap64 (x8_1 + 1)⟩ : S51)); (case aB => exact (bl_ HB)); (case aF => exact (fun _ _ => trivial)); (case aO => exact (by (with_reducible repeat (first | apply Kd.R_alloc | apply Kd.R_drewN | apply Kd.R_drew)); exact HO_7.out)); (case aS => exact (below_size (bl_ HB))); (case aL => have := LMc21.out; omega); intro v292 w24 ho hb hg hat; rw [← Ny291.out] at ho; have n0_ := Aside0.mk (hb); have n1_ := Aside0.mk (ho); clear HB; clear HO_7; have HB := n0_; have HO293 := n1_; clear n0_ n1_; clear ho hb hg hat))
          go_roundg k1
          case measure => have := HK1.out; omega
          case rel => exact ⟨(y291), (wrap64 (x8_1 + 1)), (by first | rfl | (simp; done) | (simp [*]; done)), H', ⟨by have := HK1.out; omega⟩, ⟨by (with_reducible repeat (first | apply Kd.R_alloc | apply Kd.R_drewN | apply Kd.R_drew)); exact HO293.out⟩, ⟨by repeat (first | (with_reducible first | exact HB.out | apply below_alloc | apply pw_below_drewN | apply below_drew1) | exact HB.out)⟩⟩
         ·rw [if_neg c21] at H
          exact absurd H (by simp)
       ·rw [if_neg c14] at H
        exact absurd H (by simp)
      ·rw [if_neg c13] at H
       exact absurd H (by simp)
     ·rw [if_neg c11] at H
      have c11b0 : decide (0 ≤ (wrap64 ((x7_1.length : Int) - 1))) = false := decide_eq_false c11
      clear c11
      by_cases c25 : x7_1.length < 8796093022208
      ·rw [if_pos c25] at H
       have LMc25 := Aside0.mk c25
       clear c25
       obtain ⟨y294, hy294⟩ : ∃ y_ : List (S51), y_ = (x7_1 ++ [(⟨x8_1, wrap64 (x8_1 + 1)⟩ : S51)]) := ⟨_, rfl⟩
       replace H : (sw.l0 q k1 a1 y294 (wrap64 (x8_1 + 1))) = some r := by first | (rw [hy294]; with_reducible exact H) | (have H2_ := (Option.bind_some _ _).symm.trans H; rw [hy294]; with_reducible exact H2_) | (have H2_ := (Option.bind_some _ _).symm.trans H; with_reducible exact H2_) | with_reducible exact H | (rw [hy294]; exact H) | exact H
       have Ny294 := Aside0.mk hy294
       clear hy294
       have H' := Aside0.mk H
       clear H
       go_wp2_with (first | ((with_reducible refine gate_fnval (s := 19) rfl ?_); refine goesF_ (some 21) rfl rfl eg #[.int .i64 x8_1] rfl rfl mp_ ?_; (refine (hq k1 x8_1 true _ A9.out (bl_ HB)).mono ?_); rintro e w26 ⟨rfl, hb⟩; refine ⟨_, rfl, ?_⟩; have n0_ := Aside0.mk (Kd.R_below (by (with_reducible repeat (first | apply Kd.R_alloc | apply Kd.R_drewN | apply Kd.R_drew)); exact HO_7.out) hb); have n1_ := Aside0.mk (below_step (bl_ HB) hb); clear HO_7; clear HB; have HO_7 := n0_; have HB := n1_; clear n0_ n1_; (try clear hb); (try clear hb2); (try clear hk); (try clear hi); obtain ⟨Ao27, co27, eo27⟩ := Kd.R_slice HO_7.out; subst eo27) | ((with_reducible refine gate_builtin (b := .append) (xs := #[.tmp 45, .tmp 50]) rfl ?_); at_builtin; refine Kd.R_append k51 (w0 := w) w.heap.size rfl (.tmp 45) (.tmp 50) 37 51 (.agg #[(.int .i64 0), (.int .i64 0)]) 16 rfl Try.underlying37 info51 rfl (by decide) (by omega) (.slice Ao27 x7_1.length co27) x7_1 (⟨x8_1, wrap64 (x8_1 + 1)⟩ : S51) [.int .i64 x8_1, .int .i64 (wrap64 (x8_1 + 1))] (fun _ => True) (fun _ => False) rfl rfl ?aP (fun _ hk => hk.elim) ?aF ?aO ?aB ?aS ?aL ?_; (case aP => exact k51_mkM _ _ _ (⟨x8_1, wrap64 (x8_1 + 1)⟩ : S51)); (case aB => exact (bl_ HB)); (case aF => exact (fun _ _ => trivial)); (case aO => exact (by (with_reducible repeat (first | apply Kd.R_alloc | apply Kd.R_drewN | apply Kd.R_drew)); exact HO_7.out)); (case aS => exact (below_size (bl_ HB))); (case aL => have := LMc25.out; omega); intro v295 w28 ho hb hg hat; rw [← Ny294.out] at ho; have n0_ := Aside0.mk (hb); have n1_ := Aside0.mk (ho); clear HB; clear HO_7; have HB := n0_; have HO296 := n1_; clear n0_ n1_; clear ho hb hg hat))
       go_roundg k1
       case measure => have := HK1.out; omega
       case rel => exact ⟨(y294), (wrap64 (x8_1 + 1)), (by first | rfl | (simp; done) | (simp [*]; done)), H', ⟨by have := HK1.out; omega⟩, ⟨by (with_reducible repeat (first | apply Kd.R_alloc | apply Kd.R_drewN | apply Kd.R_drew)); exact HO296.out⟩, ⟨by repeat (first | (with_reducible first | exact HB.out | apply below_alloc | apply pw_below_drewN | apply below_drew1) | exact HB.out)⟩⟩
      ·rw [if_neg c25] at H
       exact absurd H (by simp)
    ·replace c10 := Bool.eq_false_iff.mpr c10
     subst c10
     have H1 : (sw.l0 q k1 a1 x7_1 (wrap64 (x8_1 + 1))) = some r := by rw [if_neg (show ¬ (false = true) by decide)] at H; exact H
     clear H
     have H := H1
     clear H1
     have H' := Aside0.mk H
     clear H
     go_wp2_with (first | ((with_reducible refine gate_fnval (s := 19) rfl ?_); refine goesF_ (some 21) rfl rfl eg #[.int .i64 x8_1] rfl rfl mp_ ?_; (refine (hq k1 x8_1 false _ A9.out (bl_ HB)).mono ?_); rintro e w29 ⟨rfl, hb⟩; refine ⟨_, rfl, ?_⟩; have n0_ := Aside0.mk (Kd.R_below (by (with_reducible repeat (first | apply Kd.R_alloc | apply Kd.R_drewN | apply Kd.R_drew)); exact HO_7.out) hb); have n1_ := Aside0.mk (below_step (bl_ HB) hb); clear HO_7; clear HB; have HO_7 := n0_; have HB := n1_; clear n0_ n1_; (try clear hb); (try clear hb2); (try clear hk); (try clear hi)))
     go_roundg k1
     case measure => have := HK1.out; omega
     case rel => exact ⟨(x7_1), (wrap64 (x8_1 + 1)), (by first | rfl | (simp; done) | (simp [*]; done)), H', ⟨by have := HK1.out; omega⟩, ⟨by (with_reducible repeat (first | apply Kd.R_alloc | apply Kd.R_drewN | apply Kd.R_drew)); exact HO_7.out⟩, ⟨by repeat (first | (with_reducible first | exact HB.out | apply below_alloc | apply pw_below_drewN | apply below_drew1) | exact HB.out)⟩⟩
   ·rw [if_neg c8] at H
    have c8b0 : decide (x8_1 < (ji7)) = false := decide_eq_false c8
    clear c8
    obtain rfl := Option.some.inj H
    go_wp2
    go_ret
    exact ⟨_, by first | rfl | (simp [errW_none, errW_some] <;> rfl) | (simp only [← hji4, ← hji7]; first | rfl | (simp [errW_none, errW_some] <;> rfl)) | (simp [*, errW_none, errW_some] <;> rfl), by (with_reducible repeat (first | apply Kd.R_alloc | apply Kd.R_drewN | apply Kd.R_drew)); exact HO_7.out, by repeat (first | (with_reducible first | exact HB.out | apply below_alloc | apply pw_below_drewN | apply below_drew1) | exact HB.out)⟩

/-! ### impl_InRange: function 87 -/
def impl_InRange.f (a0 : Int) (a1 : Int) (a2 : Int) : Option (Bool) := if a1 ≤ a0 then (some (decide (a0 ≤ a2))) else (some false)
set_option maxHeartbeats 8000000 in
set_option maxRecDepth 100000 in
theorem impl_InRange.calls (a0 : Int) (a1 : Int) (a2 : Int) (r : Bool) (w : World) (h : impl_InRange.f a0 a1 a2 = some r) :
  Calls Try.prog 87 #[.int .i64 a0, .int .i64 a1, .int .i64 a2] w fun e w' => e = .returned (.bool r) ∧ Drawn0 w w' := by
 have H := h
 clear h
 unfold impl_InRange.f at H
 by_cases c4 : a1 ≤ a0
 ·rw [if_pos c4] at H
  have c4b0 : decide (a1 ≤ a0) = true := decide_eq_true c4
  clear c4
  obtain rfl := Option.some.inj H
  go_enter Try.func87, Try.ntmps87
  go_wp2
  go_ret
  exact ⟨by first | rfl | (simp; done) | (simp [*]; done), by repeat (first | exact Drawn0.refl _ | apply Drawn0.step)⟩
 ·rw [if_neg c4] at H
  have c4b0 : decide (a1 ≤ a0) = false := decide_eq_false c4
  clear c4
  obtain rfl := Option.some.inj H
  go_enter Try.func87, Try.ntmps87
  go_wp2
  go_ret
  exact ⟨by first | rfl | (simp; done) | (simp [*]; done), by repeat (first | exact Drawn0.refl _ | apply Drawn0.step)⟩

/-! ### impl_isSatellite: function 68 -/
def impl_isSatellite.f (a0_0 : Int) (l0_1 : List (S71)) (l0_2 : List (S75)) (a0_3 : Int) (a0_4 : Int) (a0_5 : Int) (a0_6 : Int) (a0_7 : Int) (l0_8 : List (S81)) (a0_9 : Int) (a1 : Int) : Option (Bool) := (impl_InRange.f a1 0 (wrap64 ((l0_1.length : Int) - 1))).bind fun t298 => (some t298)
set_option maxHeartbeats 8000000 in
set_option maxRecDepth 100000 in
theorem impl_isSatellite.calls (a0_0 : Int) (A0_1 : Option Addr) (c0_1 : Nat) (l0_1 : List (S71)) (A0_2 : Option Addr) (c0_2 : Nat) (l0_2 : List (S75)) (a0_3 : Int) (a0_4 : Int) (a0_5 : Int) (a0_6 : Int) (a0_7 : Int) (A0_8 : Option Addr) (c0_8 : Nat) (l0_8 : List (S81)) (a0_9 : Int) (a1 : Int) (r : Bool) (w : World) (hr0_1 : Kd.C k71 w A0_1 l0_1.length l0_1) (hc0_1 : l0_1.length ≤ c0_1) (hr0_2 : Kd.C k75 w A0_2 l0_2.length l0_2) (hc0_2 : l0_2.length ≤ c0_2) (hr0_8 : Kd.C k81 w A0_8 l0_8.length l0_8) (hc0_8 : l0_8.length ≤ c0_8) (h : impl_isSatellite.f a0_0 l0_1 l0_2 a0_3 a0_4 a0_5 a0_6 a0_7 l0_8 a0_9 a1 = some r) :
  Calls Try.prog 68 #[.agg #[.int .i64 a0_0, .slice A0_1 l0_1.length c0_1, .slice A0_2 l0_2.length c0_2, .int .i64 a0_3, .int .i64 a0_4, .int .i64 a0_5, .int .i64 a0_6, .int .i64 a0_7, .slice A0_8 l0_8.length c0_8, .int .i64 a0_9], .int .i64 a1] w fun e w' => e = .returned (.bool r) ∧ Below w.heap.size w w' := by
 have hu33 := Try.underlying33
 have HR0_1 := Aside0.mk hr0_1
 have HC0_1 := Aside0.mk hc0_1
 clear hr0_1 hc0_1
 have HR0_2 := Aside0.mk hr0_2
 have HC0_2 := Aside0.mk hc0_2
 clear hr0_2 hc0_2
 have HR0_8 := Aside0.mk hr0_8
 have HC0_8 := Aside0.mk hc0_8
 clear hr0_8 hc0_8
 have HB := Aside0.mk (Below.refl w.heap.size w)
 have H := h
 clear h
 unfold impl_isSatellite.f at H
 replace H := Option.bind_eq_some_iff.mp H
 obtain ⟨t298, A30, H⟩ := H
 have A3 := Aside0.mk A30
 clear A30
 obtain rfl := Option.some.inj H
 go_enter Try.func68, Try.ntmps68
 go_wp2_with (first | ((with_reducible refine gate_dst (N := 2) rfl ?_); refine box_event ?hg (N := 2) ?hd (cs := #[.int .i64 a0_0, .slice A0_1 l0_1.length c0_1, .slice A0_2 l0_2.length c0_2, .int .i64 a0_3, .int .i64 a0_4, .int .i64 a0_5, .int .i64 a0_6, .int .i64 a0_7, .slice A0_8 l0_8.length c0_8, .int .i64 a0_9]) (t := 33) ?hr ?_; (case hd => rfl); (case hg => rfl); (case hr => first | (go_simp; done) | (go_simp; rfl)); intro gb297 hg w4 hbox hb; have n0_ := Aside0.mk (below_step (bl_ HB) hb); have n1_ := Aside0.mk (hbox); have n2_ := Aside0.mk ((by rw [hg]; exact (below_size (bl_ HB)) : w.heap.size ≤ gb297)); have n3_ := Aside0.mk ((by rw [hg]; exact (below_size (bl_ HB)) : w.heap.size ≤ gb297)); clear HB; have HB := n0_; have BK297 := n1_; have GW297 := n2_; have GE297 := n3_; clear n0_ n1_ n2_ n3_; clear hb hbox hg; have hcz5_0 : w4.cell? ⟨gb297, 0, none⟩ = some (.int .i64 a0_0) := bc_ BK297 0 rfl; have hcz5_1 : w4.cell? ⟨gb297, 1, none⟩ = some (.slice A0_1 l0_1.length c0_1) := bc_ BK297 1 rfl; have hcz5_2 : w4.cell? ⟨gb297, 2, none⟩ = some (.slice A0_2 l0_2.length c0_2) := bc_ BK297 2 rfl; have hcz5_3 : w4.cell? ⟨gb297, 3, none⟩ = some (.int .i64 a0_3) := bc_ BK297 3 rfl; have hcz5_4 : w4.cell? ⟨gb297, 4, none⟩ = some (.int .i64 a0_4) := bc_ BK297 4 rfl; have hcz5_5 : w4.cell? ⟨gb297, 5, none⟩ = some (.int .i64 a0_5) := bc_ BK297 5 rfl; have hcz5_6 : w4.cell? ⟨gb297, 6, none⟩ = some (.int .i64 a0_6) := bc_ BK297 6 rfl; have hcz5_7 : w4.cell? ⟨gb297, 7, none⟩ = some (.int .i64 a0_7) := bc_ BK297 7 rfl; have hcz5_8 : w4.cell? ⟨gb297, 8, none⟩ = some (.slice A0_8 l0_8.length c0_8) := bc_ BK297 8 rfl; have hcz5_9 : w4.cell? ⟨gb297, 9, none⟩ = some (.int .i64 a0_9) := bc_ BK297 9 rfl; have hfz5_0 := bf_ BK297 0; have hfz5_1 := bf_ BK297 1; have hfz5_2 := bf_ BK297 2; have hfz5_3 := bf_ BK297 3; have hfz5_4 := bf_ BK297 4; have hfz5_5 := bf_ BK297 5; have hfz5_6 := bf_ BK297 6; have hfz5_7 := bf_ BK297 7; have hfz5_8 := bf_ BK297 8; have hfz5_9 := bf_ BK297 9) | ((with_reducible refine gate_callee (f := 87) rfl ?_); refine goesL_ (some 10) rfl rfl Try.func87 (by kernel_rfl) rfl #[.int .i64 a1, .int .i64 0, .int .i64 (wrap64 ((l0_1.length : Int) - 1))] rfl mp_ ?_; (with_reducible refine (impl_InRange.calls a1 0 (wrap64 ((l0_1.length : Int) - 1)) t298 _ A3.out).mono ?_); rintro e w' ⟨rfl, ⟨nd, rfl⟩⟩; refine ⟨_, rfl, ?_⟩))
 go_ret
 exact ⟨by first | rfl | (simp [errW_none, errW_some] <;> rfl) | (simp [*, errW_none, errW_some] <;> rfl), by repeat (first | (with_reducible first | exact HB.out | apply below_alloc | apply pw_below_drewN | apply below_drew1 | refine below_set ?_ GE297.out) | exact HB.out)⟩

/-! ### impl_Mod: function 108 -/
def impl_Mod.f (a0 : Int) (a1 : Int) : Option (Int) := (impl_InRange.f a1 1 1000000000000).bind fun t299 => (if t299 = true then (if a1 = 0 then (none) else (if (Int.tmod a0 a1) < 0 then (some (wrap64 ((Int.tmod a0 a1) + a1))) else (some (Int.tmod a0 a1)))) else (some 0))
set_option maxHeartbeats 8000000 in
set_option maxRecDepth 100000 in
theorem impl_Mod.calls (a0 : Int) (a1 : Int) (r : Int) (w : World) (h : impl_Mod.f a0 a1 = some r) :
  Calls Try.prog 108 #[.int .i64 a0, .int .i64 a1] w fun e w' => e = .returned (.int .i64 r) ∧ Drawn0 w w' := by
 have H := h
 clear h
 unfold impl_Mod.f at H
 replace H := Option.bind_eq_some_iff.mp H
 obtain ⟨t299, A30, H⟩ := H
 have A3 := Aside0.mk A30
 clear A30
 by_cases c4 : t299 = true
 ·subst c4
  have H1 : (if a1 = 0 then (none) else (if (Int.tmod a0 a1) < 0 then (some (wrap64 ((Int.tmod a0 a1) + a1))) else (some (Int.tmod a0 a1)))) = some r := by rw [if_pos rfl] at H; exact H
  clear H
  have H := H1
  clear H1
  by_cases c5 : a1 = 0
  ·rw [if_pos c5] at H
   exact absurd H (by simp)
  ·rw [if_neg c5] at H
   have c5b0 : (a1 == 0) = false := beq_eq_false_iff_ne.mpr c5
   have c5b1 : (a1 != 0) = true := bne_iff_ne.mpr c5
   by_cases c6 : (Int.tmod a0 a1) < 0
   ·rw [if_pos c6] at H
    have c6b0 : decide ((Int.tmod a0 a1) < 0) = true := decide_eq_true c6
    clear c6
    obtain rfl := Option.some.inj H
    go_enter Try.func108, Try.ntmps108
    go_wp2_with (first | ((with_reducible refine gate_callee (f := 87) rfl ?_); refine goesL_ (some 7) rfl rfl Try.func87 (by kernel_rfl) rfl #[.int .i64 a1, .int .i64 1, .int .i64 1000000000000] rfl mp_ ?_; (with_reducible refine (impl_InRange.calls a1 1 1000000000000 true _ A3.out).mono ?_); rintro e w' ⟨rfl, ⟨nd, rfl⟩⟩; refine ⟨_, rfl, ?_⟩))
    go_ret
    exact ⟨by first | rfl | (simp; done) | (simp [*]; done), by repeat (first | exact Drawn0.refl _ | apply Drawn0.step)⟩
   ·rw [if_neg c6] at H
    have c6b0 : decide ((Int.tmod a0 a1) < 0) = false := decide_eq_false c6
    clear c6
    obtain rfl := Option.some.inj H
    go_enter Try.func108, Try.ntmps108
    go_wp2_with (first | ((with_reducible refine gate_callee (f := 87) rfl ?_); refine goesL_ (some 7) rfl rfl Try.func87 (by kernel_rfl) rfl #[.int .i64 a1, .int .i64 1, .int .i64 1000000000000] rfl mp_ ?_; (with_reducible refine (impl_InRange.calls a1 1 1000000000000 true _ A3.out).mono ?_); rintro e w' ⟨rfl, ⟨nd, rfl⟩⟩; refine ⟨_, rfl, ?_⟩))
    go_ret
    exact ⟨by first | rfl | (simp; done) | (simp [*]; done), by repeat (first | exact Drawn0.refl _ | apply Drawn0.step)⟩
 ·replace c4 := Bool.eq_false_iff.mpr c4
  subst c4
  have H1 : (some 0) = some r := by rw [if_neg (show ¬ (false = true) by decide)] at H; exact H
  clear H
  have H := H1
  clear H1
  obtain rfl := Option.some.inj H
  go_enter Try.func108, Try.ntmps108
  go_wp2_with (first | ((with_reducible refine gate_callee (f := 87) rfl ?_); refine goesL_ (some 7) rfl rfl Try.func87 (by kernel_rfl) rfl #[.int .i64 a1, .int .i64 1, .int .i64 1000000000000] rfl mp_ ?_; (with_reducible refine (impl_InRange.calls a1 1 1000000000000 false _ A3.out).mono ?_); rintro e w' ⟨rfl, ⟨nd, rfl⟩⟩; refine ⟨_, rfl, ?_⟩))
  go_ret
  exact ⟨by first | rfl | (simp; done) | (simp [*]; done), by repeat (first | exact Drawn0.refl _ | apply Drawn0.step)⟩

/-! ### impl_AngleOf: function 93 -/
def impl_AngleOf.f (a0 : Int) : Option (Int) := (impl_Mod.f a0 360).bind fun t300 => (some t300)
set_option maxHeartbeats 8000000 in
set_option maxRecDepth 100000 in
theorem impl_AngleOf.calls (a0 : Int) (r : Int) (w : World) (h : impl_AngleOf.f a0 = some r) :
  Calls Try.prog 93 #[.int .i64 a0] w fun e w' => e = .returned (.int .i64 r) ∧ Drawn0 w w' := by
 have H := h
 clear h
 unfold impl_AngleOf.f at H
 replace H := Option.bind_eq_some_iff.mp H
 obtain ⟨t300, A20, H⟩ := H
 have A2 := Aside0.mk A20
 clear A20
 obtain rfl := Option.some.inj H
 go_enter Try.func93, Try.ntmps93
 go_wp2_with (first | ((with_reducible refine gate_callee (f := 108) rfl ?_); refine goesL_ (some 4) rfl rfl Try.func108 (by kernel_rfl) rfl #[.int .i64 a0, .int .i64 360] rfl mp_ ?_; (with_reducible refine (impl_Mod.calls a0 360 t300 _ A2.out).mono ?_); rintro e w' ⟨rfl, ⟨nd, rfl⟩⟩; refine ⟨_, rfl, ?_⟩))
 go_ret
 exact ⟨by first | rfl | (simp; done) | (simp [*]; done), by repeat (first | exact Drawn0.refl _ | apply Drawn0.step)⟩

/-! ### impl_speedOf: function 106 -/
def impl_speedOf.f (a0_0 : Int) (a0_1 : Int) (a0_2 : Int) (a0_3 : Int) : Option (Int) := (impl_InRange.f a0_2 (-60) 60).bind fun t302 => (if t302 = true then (some a0_2) else (some 0))
set_option maxHeartbeats 8000000 in
set_option maxRecDepth 100000 in
theorem impl_speedOf.calls (a0_0 : Int) (a0_1 : Int) (a0_2 : Int) (a0_3 : Int) (r : Int) (w : World) (h : impl_speedOf.f a0_0 a0_1 a0_2 a0_3 = some r) :
  Calls Try.prog 106 #[.agg #[.int .i64 a0_0, .int .i64 a0_1, .int .i64 a0_2, .int .i64 a0_3]] w fun e w' => e = .returned (.int .i64 r) ∧ Below w.heap.size w w' := by
 have hu71 := Try.underlying71
 have HB := Aside0.mk (Below.refl w.heap.size w)
 have H := h
 clear h
 unfold impl_speedOf.f at H
 replace H := Option.bind_eq_some_iff.mp H
 obtain ⟨t302, A20, H⟩ := H
 have A2 := Aside0.mk A20
 clear A20
 by_cases c3 : t302 = true
 ·subst c3
  have H1 : (some a0_2) = some r := by rw [if_pos rfl] at H; exact H
  clear H
  have H := H1
  clear H1
  obtain rfl := Option.some.inj H
  go_enter Try.func106, Try.ntmps106
  go_wp2_with (first | ((with_reducible refine gate_dst (N := 1) rfl ?_); refine box_event ?hg (N := 1) ?hd (cs := #[.int .i64 a0_0, .int .i64 a0_1, .int .i64 a0_2, .int .i64 a0_3]) (t := 71) ?hr ?_; (case hd => rfl); (case hg => rfl); (case hr => first | (go_simp; done) | (go_simp; rfl)); intro gb301 hg w4 hbox hb; have n0_ := Aside0.mk (below_step (bl_ HB) hb); have n1_ := Aside0.mk (hbox); have n2_ := Aside0.mk ((by rw [hg]; exact (below_size (bl_ HB)) : w.heap.size ≤ gb301)); have n3_ := Aside0.mk ((by rw [hg]; exact (below_size (bl_ HB)) : w.heap.size ≤ gb301)); clear HB; have HB := n0_; have BK301 := n1_; have GW301 := n2_; have GE301 := n3_; clear n0_ n1_ n2_ n3_; clear hb hbox hg; have hcz5_0 : w4.cell? ⟨gb301, 0, none⟩ = some (.int .i64 a0_0) := bc_ BK301 0 rfl; have hcz5_1 : w4.cell? ⟨gb301, 1, none⟩ = some (.int .i64 a0_1) := bc_ BK301 1 rfl; have hcz5_2 : w4.cell? ⟨gb301, 2, none⟩ = some (.int .i64 a0_2) := bc_ BK301 2 rfl; have hcz5_3 : w4.cell? ⟨gb301, 3, none⟩ = some (.int .i64 a0_3) := bc_ BK301 3 rfl; have hfz5_0 := bf_ BK301 0; have hfz5_1 := bf_ BK301 1; have hfz5_2 := bf_ BK301 2; have hfz5_3 := bf_ BK301 3) | ((with_reducible refine gate_callee (f := 87) rfl ?_); refine goesL_ (some 5) rfl rfl Try.func87 (by kernel_rfl) rfl #[.int .i64 a0_2, .int .i64 (-60), .int .i64 60] rfl mp_ ?_; (with_reducible refine (impl_InRange.calls a0_2 (-60) 60 true _ A2.out).mono ?_); rintro e w' ⟨rfl, ⟨nd, rfl⟩⟩; refine ⟨_, rfl, ?_⟩))
  go_ret
  exact ⟨by first | rfl | (simp [errW_none, errW_some] <;> rfl) | (simp [*, errW_none, errW_some] <;> rfl), by repeat (first | (with_reducible first | exact HB.out | apply below_alloc | apply pw_below_drewN | apply below_drew1 | refine below_set ?_ GE301.out) | exact HB.out)⟩
 ·replace c3 := Bool.eq_false_iff.mpr c3
  subst c3
  have H1 : (some 0) = some r := by rw [if_neg (show ¬ (false = true) by decide)] at H; exact H
  clear H
  have H := H1
  clear H1
  obtain rfl := Option.some.inj H
  go_enter Try.func106, Try.ntmps106
  go_wp2_with (first | ((with_reducible refine gate_dst (N := 1) rfl ?_); refine box_event ?hg (N := 1) ?hd (cs := #[.int .i64 a0_0, .int .i64 a0_1, .int .i64 a0_2, .int .i64 a0_3]) (t := 71) ?hr ?_; (case hd => rfl); (case hg => rfl); (case hr => first | (go_simp; done) | (go_simp; rfl)); intro gb301 hg w6 hbox hb; have n0_ := Aside0.mk (below_step (bl_ HB) hb); have n1_ := Aside0.mk (hbox); have n2_ := Aside0.mk ((by rw [hg]; exact (below_size (bl_ HB)) : w.heap.size ≤ gb301)); have n3_ := Aside0.mk ((by rw [hg]; exact (below_size (bl_ HB)) : w.heap.size ≤ gb301)); clear HB; have HB := n0_; have BK301 := n1_; have GW301 := n2_; have GE301 := n3_; clear n0_ n1_ n2_ n3_; clear hb hbox hg; have hcz7_0 : w6.cell? ⟨gb301, 0, none⟩ = some (.int .i64 a0_0) := bc_ BK301 0 rfl; have hcz7_1 : w6.cell? ⟨gb301, 1, none⟩ = some (.int .i64 a0_1) := bc_ BK301 1 rfl; have hcz7_2 : w6.cell? ⟨gb301, 2, none⟩ = some (.int .i64 a0_2) := bc_ BK301 2 rfl; have hcz7_3 : w6.cell? ⟨gb301, 3, none⟩ = some (.int .i64 a0_3) := bc_ BK301 3 rfl; have hfz7_0 := bf_ BK301 0; have hfz7_1 := bf_ BK301 1; have hfz7_2 := bf_ BK301 2; have hfz7_3 := bf_ BK301 3) | ((with_reducible refine gate_callee (f := 87) rfl ?_); refine goesL_ (some 5) rfl rfl Try.func87 (by kernel_rfl) rfl #[.int .i64 a0_2, .int .i64 (-60), .int .i64 60] rfl mp_ ?_; (with_reducible refine (impl_InRange.calls a0_2 (-60) 60 false _ A2.out).mono ?_); rintro e w' ⟨rfl, ⟨nd, rfl⟩⟩; refine ⟨_, rfl, ?_⟩))
  go_ret
  exact ⟨by first | rfl | (simp [errW_none, errW_some] <;> rfl) | (simp [*, errW_none, errW_some] <;> rfl), by repeat (first | (with_reducible first | exact HB.out | apply below_alloc | apply pw_below_drewN | apply below_drew1 | refine below_set ?_ GE301.out) | exact HB.out)⟩

end Go.Proofs.Ytikklalaggkdoaa.PFnExactLitSpans
