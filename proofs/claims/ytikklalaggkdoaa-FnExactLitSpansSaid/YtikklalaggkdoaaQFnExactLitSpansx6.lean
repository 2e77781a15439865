-- Written by a program of this session for this claim (the kit's printer with changes).
import Derived.Test.YtikklalaggkdoaaQFnExactLitSpansx0
import Derived.Test.YtikklalaggkdoaaQFnExactLitSpansx4
import Derived.Test.YtikklalaggkdoaaQFnExactLitSpansx5
namespace Go.Proofs.Ytikklalaggkdoaa.PFnExactLitSpans
open Go.RowKit Go.Proofs.YtikklalaggkdoaaW.PrintWords Go.Proofs.YtikklalaggkdoaaW.PrintLast Go.Proofs.YtikklalaggkdoaaW.PrintMore
attribute [local go_sem] max2_int min2_int max_two min_two max_three min_three max_four min_four   -- for this text's walks alone
set_option linter.unusedVariables false
set_option linter.unusedSimpArgs false

/-! ### impl_ShadowAt: function 50 -/
def impl_ShadowAt.f (a0_0 : Int) (l0_1 : List (S71)) (l0_2 : List (S75)) (a0_3 : Int) (a0_4 : Int) (a0_5 : Int) (a0_6 : Int) (a0_7 : Int) (l0_8 : List (S81)) (a0_9 : Int) (a1 : Int) (a2 : Int) : Option (Int) := (impl_isSatellite.f a0_0 l0_1 l0_2 a0_3 a0_4 a0_5 a0_6 a0_7 l0_8 a0_9 a1).bind fun t348 => (if t348 = true then ((impl_NodeAt.f a0_0 l0_1 l0_2 a0_3 a0_4 a0_5 a0_6 a0_7 l0_8 a0_9 a1 a2).bind fun bt349 => ((impl_MiddleOf.f bt349.1 bt349.2).bind fun t352 => ((impl_SunAt.f a0_0 l0_1 l0_2 a0_3 a0_4 a0_5 a0_6 a0_7 l0_8 a0_9 a2).bind fun t353 => ((impl_GapOf.f t352 (wrap64 (t353 + 180))).bind fun t354 => (if (wrap64 (t354 - (wrap64 (Int.tdiv bt349.2 2)))) > a0_7 then (some 0) else (if (wrap64 (t354 + (wrap64 (Int.tdiv bt349.2 2)))) ≤ a0_7 then (some 2) else (some 1))))))) else (some 0))
def impl_ShadowAt.T4 : Bool × List (List Nat × List Nat) := (true, [([], []), ([0], [0]), ([], []), ([], []), ([2, 3, 1], [2, 3]), ([4], [4]), ([1, 5, 4], [1, 5]), ([], []), ([7], [7]), ([8], [8]), ([6, 6, 0, 1, 2, 3, 4, 5, 6], [6]), ([9, 10, 0, 1, 2, 3, 4, 5, 6, 7, 8, 9, 10], [9])])
def impl_ShadowAt.B4 : List Nat := [0, 1, 0, 0, 15, 31, 63, 0, 128, 384, 127, 2047]
theorem impl_ShadowAt.tab4 : rtab .any (opsOf Try.f50 4) = impl_ShadowAt.T4 := by kernel_rfl
theorem impl_ShadowAt.bits4 : waitsOk impl_ShadowAt.T4.2 impl_ShadowAt.B4 = true := by kernel_rfl
set_option maxHeartbeats 8000000 in
set_option maxRecDepth 100000 in
theorem impl_ShadowAt.calls (a0_0 : Int) (A0_1 : Option Addr) (c0_1 : Nat) (l0_1 : List (S71)) (A0_2 : Option Addr) (c0_2 : Nat) (l0_2 : List (S75)) (a0_3 : Int) (a0_4 : Int) (a0_5 : Int) (a0_6 : Int) (a0_7 : Int) (A0_8 : Option Addr) (c0_8 : Nat) (l0_8 : List (S81)) (a0_9 : Int) (a1 : Int) (a2 : Int) (r : Int) (w : World) (hr0_1 : Kd.C k71 w A0_1 l0_1.length l0_1) (hc0_1 : l0_1.length ≤ c0_1) (hr0_2 : Kd.C k75 w A0_2 l0_2.length l0_2) (hc0_2 : l0_2.length ≤ c0_2) (hr0_8 : Kd.C k81 w A0_8 l0_8.length l0_8) (hc0_8 : l0_8.length ≤ c0_8) (h : impl_ShadowAt.f a0_0 l0_1 l0_2 a0_3 a0_4 a0_5 a0_6 a0_7 l0_8 a0_9 a1 a2 = some r) :
  Calls Try.prog 50 #[.agg #[.int .i64 a0_0, .slice A0_1 l0_1.length c0_1, .slice A0_2 l0_2.length c0_2, .int .i64 a0_3, .int .i64 a0_4, .int .i64 a0_5, .int .i64 a0_6, .int .i64 a0_7, .slice A0_8 l0_8.length c0_8, .int .i64 a0_9], .int .i64 a1, .int .i64 a2] w fun e w' => e = .returned (.int .i64 r) ∧ Below w.heap.size w w' := by
 have hu33 := Try.underlying33
 have hu79 := Try.underlying79
 have HR0_1 := Aside0.mk hr0_1
 have HC0_1 := Aside0.mk hc0_1
 clear hr0_1 hc0_1
 have HR0_2 := Aside0.mk hr0_2
 have HC0_2 := Aside0.mk hc0_2
 clear hr0_2 hc0_2
 have HR0_8 := Aside0.mk hr0_8
 have HC0_8 := Aside0.mk hc0_8
 clear hr0_8 hc0_8
 have HB := Aside0.mk (Below.refl w.heap.size w)
 have H := h
 clear h
 unfold impl_ShadowAt.f at H
 replace H := Option.bind_eq_some_iff.mp H
 obtain ⟨t348, A40, H⟩ := H
 have A4 := Aside0.mk A40
 clear A40
 by_cases c5 : t348 = true
 ·subst c5
  have H1 : ((impl_NodeAt.f a0_0 l0_1 l0_2 a0_3 a0_4 a0_5 a0_6 a0_7 l0_8 a0_9 a1 a2).bind fun bt349 => ((impl_MiddleOf.f bt349.1 bt349.2).bind fun t352 => ((impl_SunAt.f a0_0 l0_1 l0_2 a0_3 a0_4 a0_5 a0_6 a0_7 l0_8 a0_9 a2).bind fun t353 => ((impl_GapOf.f t352 (wrap64 (t353 + 180))).bind fun t354 => (if (wrap64 (t354 - (wrap64 (Int.tdiv bt349.2 2)))) > a0_7 then (some 0) else (if (wrap64 (t354 + (wrap64 (Int.tdiv bt349.2 2)))) ≤ a0_7 then (some 2) else (some 1))))))) = some r := by rw [if_pos rfl] at H; exact H
  clear H
  have H := H1
  clear H1
  replace H := Option.bind_eq_some_iff.mp H
  obtain ⟨⟨t349, t350⟩, A60, H⟩ := H
  replace H : ((impl_MiddleOf.f t349 t350).bind fun t352 => ((impl_SunAt.f a0_0 l0_1 l0_2 a0_3 a0_4 a0_5 a0_6 a0_7 l0_8 a0_9 a2).bind fun t353 => ((impl_GapOf.f t352 (wrap64 (t353 + 180))).bind fun t354 => (if (wrap64 (t354 - (wrap64 (Int.tdiv t350 2)))) > a0_7 then (some 0) else (if (wrap64 (t354 + (wrap64 (Int.tdiv t350 2)))) ≤ a0_7 then (some 2) else (some 1)))))) = some r := H
  have A6 := Aside0.mk A60
  clear A60
  replace H := Option.bind_eq_some_iff.mp H
  obtain ⟨t352, A70, H⟩ := H
  have A7 := Aside0.mk A70
  clear A70
  replace H := Option.bind_eq_some_iff.mp H
  obtain ⟨t353, A80, H⟩ := H
  have A8 := Aside0.mk A80
  clear A80
  replace H := Option.bind_eq_some_iff.mp H
  obtain ⟨t354, A90, H⟩ := H
  have A9 := Aside0.mk A90
  clear A90
  by_cases c10 : (wrap64 (t354 - (wrap64 (Int.tdiv t350 2)))) > a0_7
  ·rw [if_pos c10] at H
   have c10b0 : decide (a0_7 < (wrap64 (t354 - (wrap64 (Int.tdiv t350 2))))) = true := decide_eq_true c10
   clear c10
   obtain rfl := Option.some.inj H
   go_enter Try.func50, Try.ntmps50
   try go_wp2_with (first | ((with_reducible refine gate_dst (N := 3) rfl ?_); refine box_event ?hg (N := 3) ?hd (cs := #[.int .i64 a0_0, .slice A0_1 l0_1.length c0_1, .slice A0_2 l0_2.length c0_2, .int .i64 a0_3, .int .i64 a0_4, .int .i64 a0_5, .int .i64 a0_6, .int .i64 a0_7, .slice A0_8 l0_8.length c0_8, .int .i64 a0_9]) (t := 33) ?hr ?_; (case hd => rfl); (case hg => rfl); (case hr => first | (go_simp; done) | (go_simp; rfl)); intro gb347 hg w11 hbox hb; have n0_ := Aside0.mk (below_step (bl_ HB) hb); have n1_ := Aside0.mk (hbox); have n2_ := Aside0.mk ((by rw [hg]; exact (below_size (bl_ HB)) : w.heap.size ≤ gb347)); have n3_ := Aside0.mk ((by rw [hg]; exact (below_size (bl_ HB)) : w.heap.size ≤ gb347)); clear HB; have HB := n0_; have BK347 := n1_; have GW347 := n2_; have GE347 := n3_; clear n0_ n1_ n2_ n3_; clear hb hbox hg; have hcz12_0 : w11.cell? ⟨gb347, 0, none⟩ = some (.int .i64 a0_0) := bc_ BK347 0 rfl; have hcz12_1 : w11.cell? ⟨gb347, 1, none⟩ = some (.slice A0_1 l0_1.length c0_1) := bc_ BK347 1 rfl; have hcz12_2 : w11.cell? ⟨gb347, 2, none⟩ = some (.slice A0_2 l0_2.length c0_2) := bc_ BK347 2 rfl; have hcz12_3 : w11.cell? ⟨gb347, 3, none⟩ = some (.int .i64 a0_3) := bc_ BK347 3 rfl; have hcz12_4 : w11.cell? ⟨gb347, 4, none⟩ = some (.int .i64 a0_4) := bc_ BK347 4 rfl; have hcz12_5 : w11.cell? ⟨gb347, 5, none⟩ = some (.int .i64 a0_5) := bc_ BK347 5 rfl; have hcz12_6 : w11.cell? ⟨gb347, 6, none⟩ = some (.int .i64 a0_6) := bc_ BK347 6 rfl; have hcz12_7 : w11.cell? ⟨gb347, 7, none⟩ = some (.int .i64 a0_7) := bc_ BK347 7 rfl; have hcz12_8 : w11.cell? ⟨gb347, 8, none⟩ = some (.slice A0_8 l0_8.length c0_8) := bc_ BK347 8 rfl; have hcz12_9 : w11.cell? ⟨gb347, 9, none⟩ = some (.int .i64 a0_9) := bc_ BK347 9 rfl; have hfz12_0 := bf_ BK347 0; have hfz12_1 := bf_ BK347 1; have hfz12_2 := bf_ BK347 2; have hfz12_3 := bf_ BK347 3; have hfz12_4 := bf_ BK347 4; have hfz12_5 := bf_ BK347 5; have hfz12_6 := bf_ BK347 6; have hfz12_7 := bf_ BK347 7; have hfz12_8 := bf_ BK347 8; have hfz12_9 := bf_ BK347 9) | ((with_reducible refine gate_callee (f := 68) rfl ?_); refine goesL_ (some 12) rfl rfl Try.func68 (by kernel_rfl) rfl #[.agg #[.int .i64 a0_0, .slice A0_1 l0_1.length c0_1, .slice A0_2 l0_2.length c0_2, .int .i64 a0_3, .int .i64 a0_4, .int .i64 a0_5, .int .i64 a0_6, .int .i64 a0_7, .slice A0_8 l0_8.length c0_8, .int .i64 a0_9], .int .i64 a1] rfl mp_ ?_; (with_reducible refine (impl_isSatellite.calls a0_0 _ _ l0_1 _ _ l0_2 a0_3 a0_4 a0_5 a0_6 a0_7 _ _ l0_8 a0_9 a1 true _ ?side1 ?side2 ?side3 ?side4 ?side5 ?side6 A4.out).mono ?_); (case side1 => exact ck_ HR0_1 HB); (case side2 => exact HC0_1.out); (case side3 => exact ck_ HR0_2 HB); (case side4 => exact HC0_2.out); (case side5 => exact ck_ HR0_8 HB); (case side6 => exact HC0_8.out); rintro e w13 ⟨rfl, hb⟩; refine ⟨_, rfl, ?_⟩; have n0_ := Aside0.mk (blk_below (bk_ BK347) hb); have n1_ := Aside0.mk (below_step (bl1_ HB GE347) hb); clear BK347; clear HB; have BK347 := n0_; have HB := n1_; clear n0_ n1_; (try clear hb); (try clear hb2); (try clear hk); (try clear hi); have hcz14_0 : w13.cell? ⟨gb347, 0, none⟩ = some (.int .i64 a0_0) := bc_ BK347 0 rfl; have hcz14_1 : w13.cell? ⟨gb347, 1, none⟩ = some (.slice A0_1 l0_1.length c0_1) := bc_ BK347 1 rfl; have hcz14_2 : w13.cell? ⟨gb347, 2, none⟩ = some (.slice A0_2 l0_2.length c0_2) := bc_ BK347 2 rfl; have hcz14_3 : w13.cell? ⟨gb347, 3, none⟩ = some (.int .i64 a0_3) := bc_ BK347 3 rfl; have hcz14_4 : w13.cell? ⟨gb347, 4, none⟩ = some (.int .i64 a0_4) := bc_ BK347 4 rfl; have hcz14_5 : w13.cell? ⟨gb347, 5, none⟩ = some (.int .i64 a0_5) := bc_ BK347 5 rfl; have hcz14_6 : w13.cell? ⟨gb347, 6, none⟩ = some (.int .i64 a0_6) := bc_ BK347 6 rfl; have hcz14_7 : w13.cell? ⟨gb347, 7, none⟩ = some (.int .i64 a0_7) := bc_ BK347 7 rfl; have hcz14_8 : w13.cell? ⟨gb347, 8, none⟩ = some (.slice A0_8 l0_8.length c0_8) := bc_ BK347 8 rfl; have hcz14_9 : w13.cell? ⟨gb347, 9, none⟩ = some (.int .i64 a0_9) := bc_ BK347 9 rfl; have hfz14_0 := bf_ BK347 0; have hfz14_1 := bf_ BK347 1; have hfz14_2 := bf_ BK347 2; have hfz14_3 := bf_ BK347 3; have hfz14_4 := bf_ BK347 4; have hfz14_5 := bf_ BK347 5; have hfz14_6 := bf_ BK347 6; have hfz14_7 := bf_ BK347 7; have hfz14_8 := bf_ BK347 8; have hfz14_9 := bf_ BK347 9) | ((with_reducible refine gate_callee (f := 69) rfl ?_); refine goesL_ (some 17) rfl rfl Try.func69 (by kernel_rfl) rfl #[.agg #[.int .i64 a0_0, .slice A0_1 l0_1.length c0_1, .slice A0_2 l0_2.length c0_2, .int .i64 a0_3, .int .i64 a0_4, .int .i64 a0_5, .int .i64 a0_6, .int .i64 a0_7, .slice A0_8 l0_8.length c0_8, .int .i64 a0_9], .int .i64 a1, .int .i64 a2] rfl mp_ ?_; (with_reducible refine (impl_NodeAt.calls a0_0 _ _ l0_1 _ _ l0_2 a0_3 a0_4 a0_5 a0_6 a0_7 _ _ l0_8 a0_9 a1 a2 t349 t350 _ ?side1 ?side2 ?side3 ?side4 ?side5 ?side6 A6.out).mono ?_); (case side1 => exact ck_ HR0_1 HB); (case side2 => exact HC0_1.out); (case side3 => exact ck_ HR0_2 HB); (case side4 => exact HC0_2.out); (case side5 => exact ck_ HR0_8 HB); (case side6 => exact HC0_8.out); rintro e w15 ⟨rfl, hb⟩; refine ⟨_, rfl, ?_⟩; have n0_ := Aside0.mk (blk_below (bk_ BK347) hb); have n1_ := Aside0.mk (below_step (bl1_ HB GE347) hb); clear BK347; clear HB; have BK347 := n0_; have HB := n1_; clear n0_ n1_; (try clear hb); (try clear hb2); (try clear hk); (try clear hi)) | ((with_reducible refine gate_dst (N := 7) rfl ?_); refine box_event ?hg (N := 7) ?hd (cs := #[.int .i64 0, .int .i64 0]) (t := 79) ?hr ?_; (case hd => rfl); (case hg => rfl); (case hr => first | (go_simp; done) | (go_simp; rfl)); intro gb351 hg w16 hbox hb; have n0_ := Aside0.mk (blk_below (bk_ BK347) hb); have n1_ := Aside0.mk (below_step (bl1_ HB GE347) hb); have n2_ := Aside0.mk (hbox); have n3_ := Aside0.mk ((by rw [hg]; exact (below_size (bl1_ HB GE347)) : w.heap.size ≤ gb351)); have n4_ := Aside0.mk ((by rw [hg]; exact (below_size (bl1_ HB GE347)) : w.heap.size ≤ gb351)); have n5_ := Aside0.mk ((by rw [hg]; exact Nat.ne_of_lt (blk_lt (bk_ BK347)) : gb347 ≠ gb351)); have n6_ := Aside0.mk ((by rw [hg]; exact Nat.ne_of_gt (blk_lt (bk_ BK347)) : gb351 ≠ gb347)); clear BK347; clear HB; have BK347 := n0_; have HB := n1_; have BK351 := n2_; have GW351 := n3_; have GE351 := n4_; have NB347_351 := n5_; have NB351_347 := n6_; clear n0_ n1_ n2_ n3_ n4_ n5_ n6_; clear hb hbox hg; have hnb17 := NB351_347.out; have hnc17 := NB347_351.out; have hcz18_0 : w16.cell? ⟨gb351, 0, none⟩ = some (.int .i64 0) := bc_ BK351 0 rfl; have hcz18_1 : w16.cell? ⟨gb351, 1, none⟩ = some (.int .i64 0) := bc_ BK351 1 rfl; have hfz18_0 := bf_ BK351 0; have hfz18_1 := bf_ BK351 1))
   have n0_ : Aside0 (((w16.setCell ⟨gb351, 0, none⟩ (.int .i64 t349)).setCell ⟨gb351, 1, none⟩ (.int .i64 t350)).heap[gb347]? = some (.cells #[.int .i64 a0_0, .slice A0_1 l0_1.length c0_1, .slice A0_2 l0_2.length c0_2, .int .i64 a0_3, .int .i64 a0_4, .int .i64 a0_5, .int .i64 a0_6, .int .i64 a0_7, .slice A0_8 l0_8.length c0_8, .int .i64 a0_9] 33 (0, 0))) := ⟨by (with_reducible repeat (first | refine blk_drewN ?_ _ | refine blk_drew ?_ | refine blk_alloc ?_ _)); refine blk_far ?_ NB347_351.out _; (with_reducible repeat (first | refine blk_drewN ?_ _ | refine blk_drew ?_ | refine blk_alloc ?_ _)); refine blk_far ?_ NB347_351.out _; (with_reducible repeat (first | refine blk_drewN ?_ _ | refine blk_drew ?_ | refine blk_alloc ?_ _)); exact BK347.out⟩
   have n1_ : Aside0 (((w16.setCell ⟨gb351, 0, none⟩ (.int .i64 t349)).setCell ⟨gb351, 1, none⟩ (.int .i64 t350)).heap[gb351]? = some (.cells #[.int .i64 t349, .int .i64 t350] 79 (0, 0))) := ⟨by (with_reducible repeat (first | refine blk_drewN ?_ _ | refine blk_drew ?_ | refine blk_alloc ?_ _)); refine blk_put (cs := #[.int .i64 t349, .int .i64 0]) ?_ 1 _ rfl; (with_reducible repeat (first | refine blk_drewN ?_ _ | refine blk_drew ?_ | refine blk_alloc ?_ _)); refine blk_put (cs := #[.int .i64 0, .int .i64 0]) ?_ 0 _ rfl; (with_reducible repeat (first | refine blk_drewN ?_ _ | refine blk_drew ?_ | refine blk_alloc ?_ _)); exact BK351.out⟩
   have n2_ : Aside0 (Below w.heap.size w ((w16.setCell ⟨gb351, 0, none⟩ (.int .i64 t349)).setCell ⟨gb351, 1, none⟩ (.int .i64 t350))) := ⟨by repeat (first | (with_reducible first | exact HB.out | apply below_alloc | apply pw_below_drewN | apply below_drew1 | refine below_set ?_ GE347.out | refine below_set ?_ GE351.out) | exact HB.out)⟩
   (try clear BK347)
   (try clear BK351)
   (try clear HB)
   generalize ((w16.setCell ⟨gb351, 0, none⟩ (.int .i64 t349)).setCell ⟨gb351, 1, none⟩ (.int .i64 t350)) = w19 at n0_ n1_ n2_ ⊢
   have BK347 := n0_
   have BK351 := n1_
   have HB := n2_
   clear n0_ n1_ n2_
   have n0_ := Aside0.mk (blk_drew BK347.out)
   have n1_ := Aside0.mk (blk_drew BK351.out)
   have n2_ := Aside0.mk (below_drew1 HB.out)
   clear BK347
   clear BK351
   clear HB
   have BK347 := n0_
   have BK351 := n1_
   have HB := n2_
   clear n0_ n1_ n2_
   refine start_ (n := 12) (S := fun w' => w'.cell? ⟨gb351, 0, none⟩ = some (.int .i64 t349) ∧ w'.cell? ⟨gb351, 1, none⟩ = some (.int .i64 t350) ∧ w'.cell? ⟨gb347, 0, none⟩ = some (.int .i64 a0_0) ∧ w'.cell? ⟨gb347, 1, none⟩ = some (.slice A0_1 l0_1.length c0_1) ∧ w'.cell? ⟨gb347, 2, none⟩ = some (.slice A0_2 l0_2.length c0_2) ∧ w'.cell? ⟨gb347, 3, none⟩ = some (.int .i64 a0_3) ∧ w'.cell? ⟨gb347, 4, none⟩ = some (.int .i64 a0_4) ∧ w'.cell? ⟨gb347, 5, none⟩ = some (.int .i64 a0_5) ∧ w'.cell? ⟨gb347, 6, none⟩ = some (.int .i64 a0_6) ∧ w'.cell? ⟨gb347, 7, none⟩ = some (.int .i64 a0_7) ∧ w'.cell? ⟨gb347, 8, none⟩ = some (.slice A0_8 l0_8.length c0_8) ∧ w'.cell? ⟨gb347, 9, none⟩ = some (.int .i64 a0_9)) (ds := []) #[false, false, false, false, false, false, false, false, false, false, false, false] (by kernel_rfl) rfl rfl ⟨(bc_ BK351 0 rfl), (bc_ BK351 1 rfl), (bc_ BK347 0 rfl), (bc_ BK347 1 rfl), (bc_ BK347 2 rfl), (bc_ BK347 3 rfl), (bc_ BK347 4 rfl), (bc_ BK347 5 rfl), (bc_ BK347 6 rfl), (bc_ BK347 7 rfl), (bc_ BK347 8 rfl), (bc_ BK347 9 rfl)⟩ (fun hHeld => ?_); refine with_tabW impl_ShadowAt.tab4 impl_ShadowAt.bits4 (fun HT_ HW_ => ?_)
   generalize w19.drew = w20 at BK347 BK351 HB hHeld ⊢
   refine pure_ (i := 3) (N := some 21) (v := ?_) (a' := ?_) #[false, false, false, true, false, false, false, false, false, false, false, false] rfl rfl (any_of HT_.out (by kernel_rfl)) (fun _ _ _ h => h) (Or.inl ⟨by rfl, ?_⟩) ?_ ?_
   rotate_left
   ·intro w'
    go_simp
    with_reducible rfl
   rotate_left
   ·simp only [Act.put, List.setIfInBounds_toArray, List.set_cons_zero, List.set_cons_succ, i64_w, i32_w]
    rfl
   refine pure_ (i := 7) (N := some 25) (v := ?_) (a' := ?_) #[false, false, false, true, false, false, false, true, false, false, false, false] rfl rfl (any_of HT_.out (by kernel_rfl)) (fun _ _ _ h => h) (Or.inl ⟨by rfl, ?_⟩) ?_ ?_
   rotate_left
   ·intro w'
    go_simp
    with_reducible rfl
   rotate_left
   ·simp only [Act.put, List.setIfInBounds_toArray, List.set_cons_zero, List.set_cons_succ, i64_w, i32_w]
    rfl
   refine take_ (i := 0) (N := some 18) (v := ?_) (a' := ?_) #[true, false, false, true, false, false, false, true, false, false, false, false] rfl rfl (take_ofW HT_.out HW_.out (by kernel_rfl)) (fun _ _ _ h => h) (Or.inl ⟨by rfl, ?_⟩) hHeld ?_ ?_
   rotate_left
   ·rintro w' ⟨s0, s1, s2, s3, s4, s5, s6, s7, s8, s9, s10, s11⟩
    go_simp
    with_reducible rfl
   rotate_left
   ·simp only [Act.put, List.setIfInBounds_toArray, List.set_cons_zero, List.set_cons_succ, i64_w, i32_w]
    rfl
   refine take_ (i := 2) (N := some 20) (v := ?_) (a' := ?_) #[true, false, true, true, false, false, false, true, false, false, false, false] rfl rfl (take_ofW HT_.out HW_.out (by kernel_rfl)) (fun _ _ _ h => h) (Or.inl ⟨by rfl, ?_⟩) hHeld ?_ ?_
   rotate_left
   ·rintro w' ⟨s0, s1, s2, s3, s4, s5, s6, s7, s8, s9, s10, s11⟩
    go_simp
    with_reducible rfl
   rotate_left
   ·simp only [Act.put, List.setIfInBounds_toArray, List.set_cons_zero, List.set_cons_succ, i64_w, i32_w]
    rfl
   refine take_ (i := 8) (N := some 26) (v := ?_) (a' := ?_) #[true, false, true, true, false, false, false, true, true, false, false, false] rfl rfl (take_ofW HT_.out HW_.out (by kernel_rfl)) (fun _ _ _ h => h) (Or.inl ⟨by rfl, ?_⟩) hHeld ?_ ?_
   rotate_left
   ·rintro w' ⟨s0, s1, s2, s3, s4, s5, s6, s7, s8, s9, s10, s11⟩
    go_simp
    with_reducible rfl
   rotate_left
   ·simp only [Act.put, List.setIfInBounds_toArray, List.set_cons_zero, List.set_cons_succ, i64_w, i32_w]
    rfl
   refine pure_ (i := 9) (N := some 27) (v := ?_) (a' := ?_) #[true, false, true, true, false, false, false, true, true, true, false, false] rfl rfl (any_of HT_.out (by kernel_rfl)) (fun _ _ _ h => h) (Or.inl ⟨by rfl, ?_⟩) ?_ ?_
   rotate_left
   ·intro w'
    go_simp
    with_reducible rfl
   rotate_left
   ·simp only [Act.put, List.setIfInBounds_toArray, List.set_cons_zero, List.set_cons_succ, i64_w, i32_w]
    rfl
   refine one_ (i := 1) (N := some 19) #[true, true, true, true, false, false, false, true, true, true, false, false] rfl rfl (one_of HT_.out (by kernel_rfl)) (by decide) (fun K hK => ?_)
   refine goes_ Try.func75 (by kernel_rfl) rfl #[.agg #[.int .i64 t349, .int .i64 t350]] (by rfl) rfl rfl mp_ ?_
   with_reducible refine (impl_MiddleOf.calls t349 t350 t352 _ A7.out).mono ?_
   rintro e w21 ⟨rfl, hb⟩
   refine ⟨_, rfl, ?_⟩
   have n0_ := Aside0.mk (blk_below (bk_ BK347) hb)
   have n1_ := Aside0.mk (blk_below (bk_ BK351) hb)
   have n2_ := Aside0.mk (below_step (bl2_ HB GE347 GE351) hb)
   clear BK347
   clear BK351
   clear HB
   have BK347 := n0_
   have BK351 := n1_
   have HB := n2_
   clear n0_ n1_ n2_
   (try clear hb)
   (try clear hb2)
   (try clear hk)
   (try clear hi)
   refine hK.out _ _ ⟨(bc_ BK351 0 rfl), (bc_ BK351 1 rfl), (bc_ BK347 0 rfl), (bc_ BK347 1 rfl), (bc_ BK347 2 rfl), (bc_ BK347 3 rfl), (bc_ BK347 4 rfl), (bc_ BK347 5 rfl), (bc_ BK347 6 rfl), (bc_ BK347 7 rfl), (bc_ BK347 8 rfl), (bc_ BK347 9 rfl)⟩ (fun hHeld => ?_)
   clear hK K
   refine norm_ (a' := ?_) ?_ ?_
   rotate_left
   ·show Act.put _ (some 19) _ = _
    simp only [Act.put, List.setIfInBounds_toArray, List.set_cons_zero, List.set_cons_succ, i64_w, i32_w]
    rfl
   refine one_ (i := 4) (N := some 22) #[true, true, true, true, true, false, false, true, true, true, false, false] rfl rfl (one_of HT_.out (by kernel_rfl)) (by decide) (fun K hK => ?_)
   refine goes_ Try.func76 (by kernel_rfl) rfl #[.agg #[.int .i64 a0_0, .slice A0_1 l0_1.length c0_1, .slice A0_2 l0_2.length c0_2, .int .i64 a0_3, .int .i64 a0_4, .int .i64 a0_5, .int .i64 a0_6, .int .i64 a0_7, .slice A0_8 l0_8.length c0_8, .int .i64 a0_9], .int .i64 a2] (by rfl) rfl rfl mp_ ?_
   with_reducible refine (impl_SunAt.calls a0_0 _ _ l0_1 _ _ l0_2 a0_3 a0_4 a0_5 a0_6 a0_7 _ _ l0_8 a0_9 a2 t353 _ ?side1 ?side2 ?side3 ?side4 ?side5 ?side6 A8.out).mono ?_
   (case side1 => exact ck_ HR0_1 HB)
   (case side2 => exact HC0_1.out)
   (case side3 => exact ck_ HR0_2 HB)
   (case side4 => exact HC0_2.out)
   (case side5 => exact ck_ HR0_8 HB)
   (case side6 => exact HC0_8.out)
   rintro e w22 ⟨rfl, hb⟩
   refine ⟨_, rfl, ?_⟩
   have n0_ := Aside0.mk (blk_below (bk_ BK347) hb)
   have n1_ := Aside0.mk (blk_below (bk_ BK351) hb)
   have n2_ := Aside0.mk (below_step (bl2_ HB GE347 GE351) hb)
   clear BK347
   clear BK351
   clear HB
   have BK347 := n0_
   have BK351 := n1_
   have HB := n2_
   clear n0_ n1_ n2_
   (try clear hb)
   (try clear hb2)
   (try clear hk)
   (try clear hi)
   refine hK.out _ _ ⟨(bc_ BK351 0 rfl), (bc_ BK351 1 rfl), (bc_ BK347 0 rfl), (bc_ BK347 1 rfl), (bc_ BK347 2 rfl), (bc_ BK347 3 rfl), (bc_ BK347 4 rfl), (bc_ BK347 5 rfl), (bc_ BK347 6 rfl), (bc_ BK347 7 rfl), (bc_ BK347 8 rfl), (bc_ BK347 9 rfl)⟩ (fun hHeld => ?_)
   clear hK K
   refine norm_ (a' := ?_) ?_ ?_
   rotate_left
   ·show Act.put _ (some 22) _ = _
    simp only [Act.put, List.setIfInBounds_toArray, List.set_cons_zero, List.set_cons_succ, i64_w, i32_w]
    rfl
   refine pure_ (i := 5) (N := some 23) (v := ?_) (a' := ?_) #[true, true, true, true, true, true, false, true, true, true, false, false] rfl rfl (any_of HT_.out (by kernel_rfl)) (fun _ _ _ h => h) (Or.inl ⟨by rfl, ?_⟩) ?_ ?_
   rotate_left
   ·intro w'
    go_simp
    with_reducible rfl
   rotate_left
   ·simp only [Act.put, List.setIfInBounds_toArray, List.set_cons_zero, List.set_cons_succ, i64_w, i32_w]
    rfl
   refine one_ (i := 6) (N := some 24) #[true, true, true, true, true, true, true, true, true, true, false, false] rfl rfl (one_of HT_.out (by kernel_rfl)) (by decide) (fun K hK => ?_)
   refine goes_ Try.func74 (by kernel_rfl) rfl #[.int .i64 t352, .int .i64 (wrap64 (t353 + 180))] (by rfl) rfl rfl mp_ ?_
   with_reducible refine (impl_GapOf.calls t352 (wrap64 (t353 + 180)) t354 _ A9.out).mono ?_
   rintro e w23 ⟨rfl, hb⟩
   refine ⟨_, rfl, ?_⟩
   have n0_ := Aside0.mk (blk_below (bk_ BK347) hb)
   have n1_ := Aside0.mk (blk_below (bk_ BK351) hb)
   have n2_ := Aside0.mk (below_step (bl2_ HB GE347 GE351) hb)
   clear BK347
   clear BK351
   clear HB
   have BK347 := n0_
   have BK351 := n1_
   have HB := n2_
   clear n0_ n1_ n2_
   (try clear hb)
   (try clear hb2)
   (try clear hk)
   (try clear hi)
   refine hK.out _ _ ⟨(bc_ BK351 0 rfl), (bc_ BK351 1 rfl), (bc_ BK347 0 rfl), (bc_ BK347 1 rfl), (bc_ BK347 2 rfl), (bc_ BK347 3 rfl), (bc_ BK347 4 rfl), (bc_ BK347 5 rfl), (bc_ BK347 6 rfl), (bc_ BK347 7 rfl), (bc_ BK347 8 rfl), (bc_ BK347 9 rfl)⟩ (fun hHeld => ?_)
   clear hK K
   refine norm_ (a' := ?_) ?_ ?_
   rotate_left
   ·show Act.put _ (some 24) _ = _
    simp only [Act.put, List.setIfInBounds_toArray, List.set_cons_zero, List.set_cons_succ, i64_w, i32_w]
    rfl
   refine pure_ (i := 10) (N := some 8) (v := ?_) (a' := ?_) #[true, true, true, true, true, true, true, true, true, true, true, false] rfl rfl (any_of HT_.out (by kernel_rfl)) (fun _ _ _ h => h) (Or.inl ⟨by rfl, ?_⟩) ?_ ?_
   rotate_left
   ·intro w'
    go_simp
    with_reducible rfl
   rotate_left
   ·simp only [Act.put, List.setIfInBounds_toArray, List.set_cons_zero, List.set_cons_succ, i64_w, i32_w]
    rfl
   refine pure_ (i := 11) (N := some 9) (v := ?_) (a' := ?_) #[true, true, true, true, true, true, true, true, true, true, true, true] rfl rfl (any_of HT_.out (by kernel_rfl)) (fun _ _ _ h => h) (Or.inl ⟨by rfl, ?_⟩) ?_ ?_
   rotate_left
   ·intro w'
    go_simp
    with_reducible rfl
   rotate_left
   ·simp only [Act.put, List.setIfInBounds_toArray, List.set_cons_zero, List.set_cons_succ, i64_w, i32_w]
    rfl
   refine done_ (done_of HT_.out (by kernel_rfl)) ?_
   have hcz24_0 : w23.cell? ⟨gb347, 0, none⟩ = some (.int .i64 a0_0) := bc_ BK347 0 rfl
   have hcz24_1 : w23.cell? ⟨gb347, 1, none⟩ = some (.slice A0_1 l0_1.length c0_1) := bc_ BK347 1 rfl
   have hcz24_2 : w23.cell? ⟨gb347, 2, none⟩ = some (.slice A0_2 l0_2.length c0_2) := bc_ BK347 2 rfl
   have hcz24_3 : w23.cell? ⟨gb347, 3, none⟩ = some (.int .i64 a0_3) := bc_ BK347 3 rfl
   have hcz24_4 : w23.cell? ⟨gb347, 4, none⟩ = some (.int .i64 a0_4) := bc_ BK347 4 rfl
   have hcz24_5 : w23.cell? ⟨gb347, 5, none⟩ = some (.int .i64 a0_5) := bc_ BK347 5 rfl
   have hcz24_6 : w23.cell? ⟨gb347, 6, none⟩ = some (.int .i64 a0_6) := bc_ BK347 6 rfl
   have hcz24_7 : w23.cell? ⟨gb347, 7, none⟩ = some (.int .i64 a0_7) := bc_ BK347 7 rfl
   have hcz24_8 : w23.cell? ⟨gb347, 8, none⟩ = some (.slice A0_8 l0_8.length c0_8) := bc_ BK347 8 rfl
   have hcz24_9 : w23.cell? ⟨gb347, 9, none⟩ = some (.int .i64 a0_9) := bc_ BK347 9 rfl
   have hfz24_0 := bf_ BK347 0
   have hfz24_1 := bf_ BK347 1
   have hfz24_2 := bf_ BK347 2
   have hfz24_3 := bf_ BK347 3
   have hfz24_4 := bf_ BK347 4
   have hfz24_5 := bf_ BK347 5
   have hfz24_6 := bf_ BK347 6
   have hfz24_7 := bf_ BK347 7
   have hfz24_8 := bf_ BK347 8
   have hfz24_9 := bf_ BK347 9
   try go_wp2
   go_ret
   exact ⟨by first | rfl | (simp [errW_none, errW_some] <;> rfl) | (simp [*, errW_none, errW_some] <;> rfl), by repeat (first | (with_reducible first | exact HB.out | apply below_alloc | apply pw_below_drewN | apply below_drew1 | refine below_set ?_ GE347.out | refine below_set ?_ GE351.out) | exact HB.out)⟩
  ·rw [if_neg c10] at H
   have c10b0 : decide (a0_7 < (wrap64 (t354 - (wrap64 (Int.tdiv t350 2))))) = false := decide_eq_false c10
   clear c10
   by_cases c25 : (wrap64 (t354 + (wrap64 (Int.tdiv t350 2)))) ≤ a0_7
   ·rw [if_pos c25] at H
    have c25b0 : decide ((wrap64 (t354 + (wrap64 (Int.tdiv t350 2)))) ≤ a0_7) = true := decide_eq_true c25
    clear c25
    obtain rfl := Option.some.inj H
    go_enter Try.func50, Try.ntmps50
    try go_wp2_with (first | ((with_reducible refine gate_dst (N := 3) rfl ?_); refine box_event ?hg (N := 3) ?hd (cs := #[.int .i64 a0_0, .slice A0_1 l0_1.length c0_1, .slice A0_2 l0_2.length c0_2, .int .i64 a0_3, .int .i64 a0_4, .int .i64 a0_5, .int .i64 a0_6, .int .i64 a0_7, .slice A0_8 l0_8.length c0_8, .int .i64 a0_9]) (t := 33) ?hr ?_; (case hd => rfl); (case hg => rfl); (case hr => first | (go_simp; done) | (go_simp; rfl)); intro gb347 hg w26 hbox hb; have n0_ := Aside0.mk (below_step (bl_ HB) hb); have n1_ := Aside0.mk (hbox); have n2_ := Aside0.mk ((by rw [hg]; exact (below_size (bl_ HB)) : w.heap.size ≤ gb347)); have n3_ := Aside0.mk ((by rw [hg]; exact (below_size (bl_ HB)) : w.heap.size ≤ gb347)); clear HB; have HB := n0_; have BK347 := n1_; have GW347 := n2_; have GE347 := n3_; clear n0_ n1_ n2_ n3_; clear hb hbox hg; have hcz27_0 : w26.cell? ⟨gb347, 0, none⟩ = some (.int .i64 a0_0) := bc_ BK347 0 rfl; have hcz27_1 : w26.cell? ⟨gb347, 1, none⟩ = some (.slice A0_1 l0_1.length c0_1) := bc_ BK347 1 rfl; have hcz27_2 : w26.cell? ⟨gb347, 2, none⟩ = some (.slice A0_2 l0_2.length c0_2) := bc_ BK347 2 rfl; have hcz27_3 : w26.cell? ⟨gb347, 3, none⟩ = some (.int .i64 a0_3) := bc_ BK347 3 rfl; have hcz27_4 : w26.cell? ⟨gb347, 4, none⟩ = some (.int .i64 a0_4) := bc_ BK347 4 rfl; have hcz27_5 : w26.cell? ⟨gb347, 5, none⟩ = some (.int .i64 a0_5) := bc_ BK347 5 rfl; have hcz27_6 : w26.cell? ⟨gb347, 6, none⟩ = some (.int .i64 a0_6) := bc_ BK347 6 rfl; have hcz27_7 : w26.cell? ⟨gb347, 7, none⟩ = some (.int .i64 a0_7) := bc_ BK347 7 rfl; have hcz27_8 : w26.cell? ⟨gb347, 8, none⟩ = some (.slice A0_8 l0_8.length c0_8) := bc_ BK347 8 rfl; have hcz27_9 : w26.cell? ⟨gb347, 9, none⟩ = some (.int .i64 a0_9) := bc_ BK347 9 rfl; have hfz27_0 := bf_ BK347 0; have hfz27_1 := bf_ BK347 1; have hfz27_2 := bf_ BK347 2; have hfz27_3 := bf_ BK347 3; have hfz27_4 := bf_ BK347 4; have hfz27_5 := bf_ BK347 5; have hfz27_6 := bf_ BK347 6; have hfz27_7 := bf_ BK347 7; have hfz27_8 := bf_ BK347 8; have hfz27_9 := bf_ BK347 9) | ((with_reducible refine gate_callee (f := 68) rfl ?_); refine goesL_ (some 12) rfl rfl Try.func68 (by kernel_rfl) rfl #[.agg #[.int .i64 a0_0, .slice A0_1 l0_1.length c0_1, .slice A0_2 l0_2.length c0_2, .int .i64 a0_3, .int .i64 a0_4, .int .i64 a0_5, .int .i64 a0_6, .int .i64 a0_7, .slice A0_8 l0_8.length c0_8, .int .i64 a0_9], .int .i64 a1] rfl mp_ ?_; (with_reducible refine (impl_isSatellite.calls a0_0 _ _ l0_1 _ _ l0_2 a0_3 a0_4 a0_5 a0_6 a0_7 _ _ l0_8 a0_9 a1 true _ ?side1 ?side2 ?side3 ?side4 ?side5 ?side6 A4.out).mono ?_); (case side1 => exact ck_ HR0_1 HB); (case side2 => exact HC0_1.out); (case side3 => exact ck_ HR0_2 HB); (case side4 => exact HC0_2.out); (case side5 => exact ck_ HR0_8 HB); (case side6 => exact HC0_8.out); rintro e w28 ⟨rfl, hb⟩; refine ⟨_, rfl, ?_⟩; have n0_ := Aside0.mk (blk_below (bk_ BK347) hb); have n1_ := Aside0.mk (below_step (bl1_ HB GE347) hb); clear BK347; clear HB; have BK347 := n0_; have HB := n1_; clear n0_ n1_; (try clear hb); (try clear hb2); (try clear hk); (try clear hi); have hcz29_0 : w28.cell? ⟨gb347, 0, none⟩ = some (.int .i64 a0_0) := bc_ BK347 0 rfl; have hcz29_1 : w28.cell? ⟨gb347, 1, none⟩ = some (.slice A0_1 l0_1.length c0_1) := bc_ BK347 1 rfl; have hcz29_2 : w28.cell? ⟨gb347, 2, none⟩ = some (.slice A0_2 l0_2.length c0_2) := bc_ BK347 2 rfl; have hcz29_3 : w28.cell? ⟨gb347, 3, none⟩ = some (.int .i64 a0_3) := bc_ BK347 3 rfl; have hcz29_4 : w28.cell? ⟨gb347, 4, none⟩ = some (.int .i64 a0_4) := bc_ BK347 4 rfl; have hcz29_5 : w28.cell? ⟨gb347, 5, none⟩ = some (.int .i64 a0_5) := bc_ BK347 5 rfl; have hcz29_6 : w28.cell? ⟨gb347, 6, none⟩ = some (.int .i64 a0_6) := bc_ BK347 6 rfl; have hcz29_7 : w28.cell? ⟨gb347, 7, none⟩ = some (.int .i64 a0_7) := bc_ BK347 7 rfl; have hcz29_8 : w28.cell? ⟨gb347, 8, none⟩ = some (.slice A0_8 l0_8.length c0_8) := bc_ BK347 8 rfl; have hcz29_9 : w28.cell? ⟨gb347, 9, none⟩ = some (.int .i64 a0_9) := bc_ BK347 9 rfl; have hfz29_0 := bf_ BK347 0; have hfz29_1 := bf_ BK347 1; have hfz29_2 := bf_ BK347 2; have hfz29_3 := bf_ BK347 3; have hfz29_4 := bf_ BK347 4; have hfz29_5 := bf_ BK347 5; have hfz29_6 := bf_ BK347 6; have hfz29_7 := bf_ BK347 7; have hfz29_8 := bf_ BK347 8; have hfz29_9 := bf_ BK347 9) | ((with_reducible refine gate_callee (f := 69) rfl ?_); refine goesL_ (some 17) rfl rfl Try.func69 (by kernel_rfl) rfl #[.agg #[.int .i64 a0_0, .slice A0_1 l0_1.length c0_1, .slice A0_2 l0_2.length c0_2, .int .i64 a0_3, .int .i64 a0_4, .int .i64 a0_5, .int .i64 a0_6, .int .i64 a0_7, .slice A0_8 l0_8.length c0_8, .int .i64 a0_9], .int .i64 a1, .int .i64 a2] rfl mp_ ?_; (with_reducible refine (impl_NodeAt.calls a0_0 _ _ l0_1 _ _ l0_2 a0_3 a0_4 a0_5 a0_6 a0_7 _ _ l0_8 a0_9 a1 a2 t349 t350 _ ?side1 ?side2 ?side3 ?side4 ?side5 ?side6 A6.out).mono ?_); (case side1 => exact ck_ HR0_1 HB); (case side2 => exact HC0_1.out); (case side3 => exact ck_ HR0_2 HB); (case side4 => exact HC0_2.out); (case side5 => exact ck_ HR0_8 HB); (case side6 => exact HC0_8.out); rintro e w30 ⟨rfl, hb⟩; refine ⟨_, rfl, ?_⟩; have n0_ := Aside0.mk (blk_below (bk_ BK347) hb); have n1_ := Aside0.mk (below_step (bl1_ HB GE347) hb); clear BK347; clear HB; have BK347 := n0_; have HB := n1_; clear n0_ n1_; (try clear hb); (try clear hb2); (try clear hk); (try clear hi)) | ((with_reducible refine gate_dst (N := 7) rfl ?_); refine box_event ?hg (N := 7) ?hd (cs := #[.int .i64 0, .int .i64 0]) (t := 79) ?hr ?_; (case hd => rfl); (case hg => rfl); (case hr => first | (go_simp; done) | (go_simp; rfl)); intro gb351 hg w31 hbox hb; have n0_ := Aside0.mk (blk_below (bk_ BK347) hb); have n1_ := Aside0.mk (below_step (bl1_ HB GE347) hb); have n2_ := Aside0.mk (hbox); have n3_ := Aside0.mk ((by rw [hg]; exact (below_size (bl1_ HB GE347)) : w.heap.size ≤ gb351)); have n4_ := Aside0.mk ((by rw [hg]; exact (below_size (bl1_ HB GE347)) : w.heap.size ≤ gb351)); have n5_ := Aside0.mk ((by rw [hg]; exact Nat.ne_of_lt (blk_lt (bk_ BK347)) : gb347 ≠ gb351)); have n6_ := Aside0.mk ((by rw [hg]; exact Nat.ne_of_gt (blk_lt (bk_ BK347)) : gb351 ≠ gb347)); clear BK347; clear HB; have BK347 := n0_; have HB := n1_; have BK351 := n2_; have GW351 := n3_; have GE351 := n4_; have NB347_351 := n5_; have NB351_347 := n6_; clear n0_ n1_ n2_ n3_ n4_ n5_ n6_; clear hb hbox hg; have hnb32 := NB351_347.out; have hnc32 := NB347_351.out; have hcz33_0 : w31.cell? ⟨gb351, 0, none⟩ = some (.int .i64 0) := bc_ BK351 0 rfl; have hcz33_1 : w31.cell? ⟨gb351, 1, none⟩ = some (.int .i64 0) := bc_ BK351 1 rfl; have hfz33_0 := bf_ BK351 0; have hfz33_1 := bf_ BK351 1))
    have n0_ : Aside0 (((w31.setCell ⟨gb351, 0, none⟩ (.int .i64 t349)).setCell ⟨gb351, 1, none⟩ (.int .i64 t350)).heap[gb347]? = some (.cells #[.int .i64 a0_0, .slice A0_1 l0_1.length c0_1, .slice A0_2 l0_2.length c0_2, .int .i64 a0_3, .int .i64 a0_4, .int .i64 a0_5, .int .i64 a0_6, .int .i64 a0_7, .slice A0_8 l0_8.length c0_8, .int .i64 a0_9] 33 (0, 0))) := ⟨by (with_reducible repeat (first | refine blk_drewN ?_ _ | refine blk_drew ?_ | refine blk_alloc ?_ _)); refine blk_far ?_ NB347_351.out _; (with_reducible repeat (first | refine blk_drewN ?_ _ | refine blk_drew ?_ | refine blk_alloc ?_ _)); refine blk_far ?_ NB347_351.out _; (with_reducible repeat (first | refine blk_drewN ?_ _ | refine blk_drew ?_ | refine blk_alloc ?_ _)); exact BK347.out⟩
    have n1_ : Aside0 (((w31.setCell ⟨gb351, 0, none⟩ (.int .i64 t349)).setCell ⟨gb351, 1, none⟩ (.int .i64 t350)).heap[gb351]? = some (.cells #[.int .i64 t349, .int .i64 t350] 79 (0, 0))) := ⟨by (with_reducible repeat (first | refine blk_drewN ?_ _ | refine blk_drew ?_ | refine blk_alloc ?_ _)); refine blk_put (cs := #[.int .i64 t349, .int .i64 0]) ?_ 1 _ rfl; (with_reducible repeat (first | refine blk_drewN ?_ _ | refine blk_drew ?_ | refine blk_alloc ?_ _)); refine blk_put (cs := #[.int .i64 0, .int .i64 0]) ?_ 0 _ rfl; (with_reducible repeat (first | refine blk_drewN ?_ _ | refine blk_drew ?_ | refine blk_alloc ?_ _)); exact BK351.out⟩
    have n2_ : Aside0 (Below w.heap.size w ((w31.setCell ⟨gb351, 0, none⟩ (.int .i64 t349)).setCell ⟨gb351, 1, none⟩ (.int .i64 t350))) := ⟨by repeat (first | (with_reducible first | exact HB.out | apply below_alloc | apply pw_below_drewN | apply below_drew1 | refine below_set ?_ GE347.out | refine below_set ?_ GE351.out) | exact HB.out)⟩
    (try clear BK347)
    (try clear BK351)
    (try clear HB)
    generalize ((w31.setCell ⟨gb351, 0, none⟩ (.int .i64 t349)).setCell ⟨gb351, 1, none⟩ (.int .i64 t350)) = w34 at n0_ n1_ n2_ ⊢
    have BK347 := n0_
    have BK351 := n1_
    have HB := n2_
    clear n0_ n1_ n2_
    have n0_ := Aside0.mk (blk_drew BK347.out)
    have n1_ := Aside0.mk (blk_drew BK351.out)
    have n2_ := Aside0.mk (below_drew1 HB.out)
    clear BK347
    clear BK351
    clear HB
    have BK347 := n0_
    have BK351 := n1_
    have HB := n2_
    clear n0_ n1_ n2_
    refine start_ (n := 12) (S := fun w' => w'.cell? ⟨gb351, 0, none⟩ = some (.int .i64 t349) ∧ w'.cell? ⟨gb351, 1, none⟩ = some (.int .i64 t350) ∧ w'.cell? ⟨gb347, 0, none⟩ = some (.int .i64 a0_0) ∧ w'.cell? ⟨gb347, 1, none⟩ = some (.slice A0_1 l0_1.length c0_1) ∧ w'.cell? ⟨gb347, 2, none⟩ = some (.slice A0_2 l0_2.length c0_2) ∧ w'.cell? ⟨gb347, 3, none⟩ = some (.int .i64 a0_3) ∧ w'.cell? ⟨gb347, 4, none⟩ = some (.int .i64 a0_4) ∧ w'.cell? ⟨gb347, 5, none⟩ = some (.int .i64 a0_5) ∧ w'.cell? ⟨gb347, 6, none⟩ = some (.int .i64 a0_6) ∧ w'.cell? ⟨gb347, 7, none⟩ = some (.int .i64 a0_7) ∧ w'.cell? ⟨gb347, 8, none⟩ = some (.slice A0_8 l0_8.length c0_8) ∧ w'.cell? ⟨gb347, 9, none⟩ = some (.int .i64 a0_9)) (ds := []) #[false, false, false, false, false, false, false, false, false, false, false, false] (by kernel_rfl) rfl rfl ⟨(bc_ BK351 0 rfl), (bc_ BK351 1 rfl), (bc_ BK347 0 rfl), (bc_ BK347 1 rfl), (bc_ BK347 2 rfl), (bc_ BK347 3 rfl), (bc_ BK347 4 rfl), (bc_ BK347 5 rfl), (bc_ BK347 6 rfl), (bc_ BK347 7 rfl), (bc_ BK347 8 rfl), (bc_ BK347 9 rfl)⟩ (fun hHeld => ?_); refine with_tabW impl_ShadowAt.tab4 impl_ShadowAt.bits4 (fun HT_ HW_ => ?_)
    generalize w34.drew = w35 at BK347 BK351 HB hHeld ⊢
    refine pure_ (i := 3) (N := some 21) (v := ?_) (a' := ?_) #[false, false, false, true, false, false, false, false, false, false, false, false] rfl rfl (any_of HT_.out (by kernel_rfl)) (fun _ _ _ h => h) (Or.inl ⟨by rfl, ?_⟩) ?_ ?_
    rotate_left
    ·intro w'
     go_simp
     with_reducible rfl
    rotate_left
    ·simp only [Act.put, List.setIfInBounds_toArray, List.set_cons_zero, List.set_cons_succ, i64_w, i32_w]
     rfl
    refine pure_ (i := 7) (N := some 25) (v := ?_) (a' := ?_) #[false, false, false, true, false, false, false, true, false, false, false, false] rfl rfl (any_of HT_.out (by kernel_rfl)) (fun _ _ _ h => h) (Or.inl ⟨by rfl, ?_⟩) ?_ ?_
    rotate_left
    ·intro w'
     go_simp
     with_reducible rfl
    rotate_left
    ·simp only [Act.put, List.setIfInBounds_toArray, List.set_cons_zero, List.set_cons_succ, i64_w, i32_w]
     rfl
    refine take_ (i := 0) (N := some 18) (v := ?_) (a' := ?_) #[true, false, false, true, false, false, false, true, false, false, false, false] rfl rfl (take_ofW HT_.out HW_.out (by kernel_rfl)) (fun _ _ _ h => h) (Or.inl ⟨by rfl, ?_⟩) hHeld ?_ ?_
    rotate_left
    ·rintro w' ⟨s0, s1, s2, s3, s4, s5, s6, s7, s8, s9, s10, s11⟩
     go_simp
     with_reducible rfl
    rotate_left
    ·simp only [Act.put, List.setIfInBounds_toArray, List.set_cons_zero, List.set_cons_succ, i64_w, i32_w]
     rfl
    refine take_ (i := 2) (N := some 20) (v := ?_) (a' := ?_) #[true, false, true, true, false, false, false, true, false, false, false, false] rfl rfl (take_ofW HT_.out HW_.out (by kernel_rfl)) (fun _ _ _ h => h) (Or.inl ⟨by rfl, ?_⟩) hHeld ?_ ?_
    rotate_left
    ·rintro w' ⟨s0, s1, s2, s3, s4, s5, s6, s7, s8, s9, s10, s11⟩
     go_simp
     with_reducible rfl
    rotate_left
    ·simp only [Act.put, List.setIfInBounds_toArray, List.set_cons_zero, List.set_cons_succ, i64_w, i32_w]
     rfl
    refine take_ (i := 8) (N := some 26) (v := ?_) (a' := ?_) #[true, false, true, true, false, false, false, true, true, false, false, false] rfl rfl (take_ofW HT_.out HW_.out (by kernel_rfl)) (fun _ _ _ h => h) (Or.inl ⟨by rfl, ?_⟩) hHeld ?_ ?_
    rotate_left
    ·rintro w' ⟨s0, s1, s2, s3, s4, s5, s6, s7, s8, s9, s10, s11⟩
     go_simp
     with_reducible rfl
    rotate_left
    ·simp only [Act.put, List.setIfInBounds_toArray, List.set_cons_zero, List.set_cons_succ, i64_w, i32_w]
     rfl
    refine pure_ (i := 9) (N := some 27) (v := ?_) (a' := ?_) #[true, false, true, true, false, false, false, true, true, true, false, false] rfl rfl (any_of HT_.out (by kernel_rfl)) (fun _ _ _ h => h) (Or.inl ⟨by rfl, ?_⟩) ?_ ?_
    rotate_left
    ·intro w'
     go_simp
     with_reducible rfl
    rotate_left
    ·simp only [Act.put, List.setIfInBounds_toArray, List.set_cons_zero, List.set_cons_succ, i64_w, i32_w]
     rfl
    refine one_ (i := 1) (N := some 19) #[true, true, true, true, false, false, false, true, true, true, false, false] rfl rfl (one_of HT_.out (by kernel_rfl)) (by decide) (fun K hK => ?_)
    refine goes_ Try.func75 (by kernel_rfl) rfl #[.agg #[.int .i64 t349, .int .i64 t350]] (by rfl) rfl rfl mp_ ?_
    with_reducible refine (impl_MiddleOf.calls t349 t350 t352 _ A7.out).mono ?_
    rintro e w36 ⟨rfl, hb⟩
    refine ⟨_, rfl, ?_⟩
    have n0_ := Aside0.mk (blk_below (bk_ BK347) hb)
    have n1_ := Aside0.mk (blk_below (bk_ BK351) hb)
    have n2_ := Aside0.mk (below_step (bl2_ HB GE347 GE351) hb)
    clear BK347
    clear BK351
    clear HB
    have BK347 := n0_
    have BK351 := n1_
    have HB := n2_
    clear n0_ n1_ n2_
    (try clear hb)
    (try clear hb2)
    (try clear hk)
    (try clear hi)
    refine hK.out _ _ ⟨(bc_ BK351 0 rfl), (bc_ BK351 1 rfl), (bc_ BK347 0 rfl), (bc_ BK347 1 rfl), (bc_ BK347 2 rfl), (bc_ BK347 3 rfl), (bc_ BK347 4 rfl), (bc_ BK347 5 rfl), (bc_ BK347 6 rfl), (bc_ BK347 7 rfl), (bc_ BK347 8 rfl), (bc_ BK347 9 rfl)⟩ (fun hHeld => ?_)
    clear hK K
    refine norm_ (a' := ?_) ?_ ?_
    rotate_left
    ·show Act.put _ (some 19) _ = _
     simp only [Act.put, List.setIfInBounds_toArray, List.set_cons_zero, List.set_cons_succ, i64_w, i32_w]
     rfl
    refine one_ (i := 4) (N := some 22) #[true, true, true, true, true, false, false, true, true, true, false, false] rfl rfl (one_of HT_.out (by kernel_rfl)) (by decide) (fun K hK => ?_)
    refine goes_ Try.func76 (by kernel_rfl) rfl #[.agg #[.int .i64 a0_0, .slice A0_1 l0_1.length c0_1, .slice A0_2 l0_2.length c0_2, .int .i64 a0_3, .int .i64 a0_4, .int .i64 a0_5, .int .i64 a0_6, .int .i64 a0_7, .slice A0_8 l0_8.length c0_8, .int .i64 a0_9], .int .i64 a2] (by rfl) rfl rfl mp_ ?_
    with_reducible refine (impl_SunAt.calls a0_0 _ _ l0_1 _ _ l0_2 a0_3 a0_4 a0_5 a0_6 a0_7 _ _ l0_8 a0_9 a2 t353 _ ?side1 ?side2 ?side3 ?side4 ?side5 ?side6 A8.out).mono ?_
    (case side1 => exact ck_ HR0_1 HB)
    (case side2 => exact HC0_1.out)
    (case side3 => exact ck_ HR0_2 HB)
    (case side4 => exact HC0_2.out)
    (case side5 => exact ck_ HR0_8 HB)
    (case side6 => exact HC0_8.out)
    rintro e w37 ⟨rfl, hb⟩
    refine ⟨_, rfl, ?_⟩
    have n0_ := Aside0.mk (blk_below (bk_ BK347) hb)
    have n1_ := Aside0.mk (blk_below (bk_ BK351) hb)
    have n2_ := Aside0.mk (below_step (bl2_ HB GE347 GE351) hb)
    clear BK347
    clear BK351
    clear HB
    have BK347 := n0_
    have BK351 := n1_
    have HB := n2_
    clear n0_ n1_ n2_
    (try clear hb)
    (try clear hb2)
    (try clear hk)
    (try clear hi)
    refine hK.out _ _ ⟨(bc_ BK351 0 rfl), (bc_ BK351 1 rfl), (bc_ BK347 0 rfl), (bc_ BK347 1 rfl), (bc_ BK347 2 rfl), (bc_ BK347 3 rfl), (bc_ BK347 4 rfl), (bc_ BK347 5 rfl), (bc_ BK347 6 rfl), (bc_ BK347 7 rfl), (bc_ BK347 8 rfl), (bc_ BK347 9 rfl)⟩ (fun hHeld => ?_)
    clear hK K
    refine norm_ (a' := ?_) ?_ ?_
    rotate_left
    ·show Act.put _ (some 22) _ = _
     simp only [Act.put, List.setIfInBounds_toArray, List.set_cons_zero, List.set_cons_succ, i64_w, i32_w]
     rfl
    refine pure_ (i := 5) (N := some 23) (v := ?_) (a' := ?_) #[true, true, true, true, true, true, false, true, true, true, false, false] rfl rfl (any_of HT_.out (by kernel_rfl)) (fun _ _ _ h => h) (Or.inl ⟨by rfl, ?_⟩) ?_ ?_
    rotate_left
    ·intro w'
     go_simp
     with_reducible rfl
    rotate_left
    ·simp only [Act.put, List.setIfInBounds_toArray, List.set_cons_zero, List.set_cons_succ, i64_w, i32_w]
     rfl
    refine one_ (i := 6) (N := some 24) #[true, true, true, true, true, true, true, true, true, true, false, false] rfl rfl (one_of HT_.out (by kernel_rfl)) (by decide) (fun K hK => ?_)
    refine goes_ Try.func74 (by kernel_rfl) rfl #[.int .i64 t352, .int .i64 (wrap64 (t353 + 180))] (by rfl) rfl rfl mp_ ?_
    with_reducible refine (impl_GapOf.calls t352 (wrap64 (t353 + 180)) t354 _ A9.out).mono ?_
    rintro e w38 ⟨rfl, hb⟩
    refine ⟨_, rfl, ?_⟩
    have n0_ := Aside0.mk (blk_below (bk_ BK347) hb)
    have n1_ := Aside0.mk (blk_below (bk_ BK351) hb)
    have n2_ := Aside0.mk (below_step (bl2_ HB GE347 GE351) hb)
    clear BK347
    clear BK351
    clear HB
    have BK347 := n0_
    have BK351 := n1_
    have HB := n2_
    clear n0_ n1_ n2_
    (try clear hb)
    (try clear hb2)
    (try clear hk)
    (try clear hi)
    refine hK.out _ _ ⟨(bc_ BK351 0 rfl), (bc_ BK351 1 rfl), (bc_ BK347 0 rfl), (bc_ BK347 1 rfl), (bc_ BK347 2 rfl), (bc_ BK347 3 rfl), (bc_ BK347 4 rfl), (bc_ BK347 5 rfl), (bc_ BK347 6 rfl), (bc_ BK347 7 rfl), (bc_ BK347 8 rfl), (bc_ BK347 9 rfl)⟩ (fun hHeld => ?_)
    clear hK K
    refine norm_ (a' := ?_) ?_ ?_
    rotate_left
    ·show Act.put _ (some 24) _ = _
     simp only [Act.put, List.setIfInBounds_toArray, List.set_cons_zero, List.set_cons_succ, i64_w, i32_w]
     rfl
    refine pure_ (i := 10) (N := some 8) (v := ?_) (a' := ?_) #[true, true, true, true, true, true, true, true, true, true, true, false] rfl rfl (any_of HT_.out (by kernel_rfl)) (fun _ _ _ h => h) (Or.inl ⟨by rfl, ?_⟩) ?_ ?_
    rotate_left
    ·intro w'
     go_simp
     with_reducible rfl
    rotate_left
    ·simp only [Act.put, List.setIfInBounds_toArray, List.set_cons_zero, List.set_cons_succ, i64_w, i32_w]
     rfl
    refine pure_ (i := 11) (N := some 9) (v := ?_) (a' := ?_) #[true, true, true, true, true, true, true, true, true, true, true, true] rfl rfl (any_of HT_.out (by kernel_rfl)) (fun _ _ _ h => h) (Or.inl ⟨by rfl, ?_⟩) ?_ ?_
    rotate_left
    ·intro w'
     go_simp
     with_reducible rfl
    rotate_left
    ·simp only [Act.put, List.setIfInBounds_toArray, List.set_cons_zero, List.set_cons_succ, i64_w, i32_w]
     rfl
    refine done_ (done_of HT_.out (by kernel_rfl)) ?_
    have hcz39_0 : w38.cell? ⟨gb347, 0, none⟩ = some (.int .i64 a0_0) := bc_ BK347 0 rfl
    have hcz39_1 : w38.cell? ⟨gb347, 1, none⟩ = some (.slice A0_1 l0_1.length c0_1) := bc_ BK347 1 rfl
    have hcz39_2 : w38.cell? ⟨gb347, 2, none⟩ = some (.slice A0_2 l0_2.length c0_2) := bc_ BK347 2 rfl
    have hcz39_3 : w38.cell? ⟨gb347, 3, none⟩ = some (.int .i64 a0_3) := bc_ BK347 3 rfl
    have hcz39_4 : w38.cell? ⟨gb347, 4, none⟩ = some (.int .i64 a0_4) := bc_ BK347 4 rfl
    have hcz39_5 : w38.cell? ⟨gb347, 5, none⟩ = some (.int .i64 a0_5) := bc_ BK347 5 rfl
    have hcz39_6 : w38.cell? ⟨gb347, 6, none⟩ = some (.int .i64 a0_6) := bc_ BK347 6 rfl
    have hcz39_7 : w38.cell? ⟨gb347, 7, none⟩ = some (.int .i64 a0_7) := bc_ BK347 7 rfl
    have hcz39_8 : w38.cell? ⟨gb347, 8, none⟩ = some (.slice A0_8 l0_8.length c0_8) := bc_ BK347 8 rfl
    have hcz39_9 : w38.cell? ⟨gb347, 9, none⟩ = some (.int .i64 a0_9) := bc_ BK347 9 rfl
    have hfz39_0 := bf_ BK347 0
    have hfz39_1 := bf_ BK347 1
    have hfz39_2 := bf_ BK347 2
    have hfz39_3 := bf_ BK347 3
    have hfz39_4 := bf_ BK347 4
    have hfz39_5 := bf_ BK347 5
    have hfz39_6 := bf_ BK347 6
    have hfz39_7 := bf_ BK347 7
    have hfz39_8 := bf_ BK347 8
    have hfz39_9 := bf_ BK347 9
    try go_wp2
    go_ret
    exact ⟨by first | rfl | (simp [errW_none, errW_some] <;> rfl) | (simp [*, errW_none, errW_some] <;> rfl), by repeat (first | (with_reducible first | exact HB.out | apply below_alloc | apply pw_below_drewN | apply below_drew1 | refine below_set ?_ GE347.out | refine below_set ?_ GE351.out) | exact HB.out)⟩
   ·rw [if_neg c25] at H
    have c25b0 : decide ((wrap64 (t354 + (wrap64 (Int.tdiv t350 2)))) ≤ a0_7) = false := decide_eq_false c25
    clear c25
    obtain rfl := Option.some.inj H
    go_enter Try.func50, Try.ntmps50
    try go_wp2_with (first | ((with_reducible refine gate_dst (N := 3) rfl ?_); refine box_event ?hg (N := 3) ?hd (cs := #[.int .i64 a0_0, .slice A0_1 l0_1.length c0_1, .slice A0_2 l0_2.length c0_2, .int .i64 a0_3, .int .i64 a0_4, .int .i64 a0_5, .int .i64 a0_6, .int .i64 a0_7, .slice A0_8 l0_8.length c0_8, .int .i64 a0_9]) (t := 33) ?hr ?_; (case hd => rfl); (case hg => rfl); (case hr => first | (go_simp; done) | (go_simp; rfl)); intro gb347 hg w40 hbox hb; have n0_ := Aside0.mk (below_step (bl_ HB) hb); have n1_ := Aside0.mk (hbox); have n2_ := Aside0.mk ((by rw [hg]; exact (below_size (bl_ HB)) : w.heap.size ≤ gb347)); have n3_ := Aside0.mk ((by rw [hg]; exact (below_size (bl_ HB)) : w.heap.size ≤ gb347)); clear HB; have HB := n0_; have BK347 := n1_; have GW347 := n2_; have GE347 := n3_; clear n0_ n1_ n2_ n3_; clear hb hbox hg; have hcz41_0 : w40.cell? ⟨gb347, 0, none⟩ = some (.int .i64 a0_0) := bc_ BK347 0 rfl; have hcz41_1 : w40.cell? ⟨gb347, 1, none⟩ = some (.slice A0_1 l0_1.length c0_1) := bc_ BK347 1 rfl; have hcz41_2 : w40.cell? ⟨gb347, 2, none⟩ = some (.slice A0_2 l0_2.length c0_2) := bc_ BK347 2 rfl; have hcz41_3 : w40.cell? ⟨gb347, 3, none⟩ = some (.int .i64 a0_3) := bc_ BK347 3 rfl; have hcz41_4 : w40.cell? ⟨gb347, 4, none⟩ = some (.int .i64 a0_4) := bc_ BK347 4 rfl; have hcz41_5 : w40.cell? ⟨gb347, 5, none⟩ = some (.int .i64 a0_5) := bc_ BK347 5 rfl; have hcz41_6 : w40.cell? ⟨gb347, 6, none⟩ = some (.int .i64 a0_6) := bc_ BK347 6 rfl; have hcz41_7 : w40.cell? ⟨gb347, 7, none⟩ = some (.int .i64 a0_7) := bc_ BK347 7 rfl; have hcz41_8 : w40.cell? ⟨gb347, 8, none⟩ = some (.slice A0_8 l0_8.length c0_8) := bc_ BK347 8 rfl; have hcz41_9 : w40.cell? ⟨gb347, 9, none⟩ = some (.int .i64 a0_9) := bc_ BK347 9 rfl; have hfz41_0 := bf_ BK347 0; have hfz41_1 := bf_ BK347 1; have hfz41_2 := bf_ BK347 2; have hfz41_3 := bf_ BK347 3; have hfz41_4 := bf_ BK347 4; have hfz41_5 := bf_ BK347 5; have hfz41_6 := bf_ BK347 6; have hfz41_7 := bf_ BK347 7; have hfz41_8 := bf_ BK347 8; have hfz41_9 := bf_ BK347 9) | ((with_reducible refine gate_callee (f := 68) rfl ?_); refine goesL_ (some 12) rfl rfl Try.func68 (by kernel_rfl) rfl #[.agg #[.int .i64 a0_0, .slice A0_1 l0_1.length c0_1, .slice A0_2 l0_2.length c0_2, .int .i64 a0_3, .int .i64 a0_4, .int .i64 a0_5, .int .i64 a0_6, .int .i64 a0_7, .slice A0_8 l0_8.length c0_8, .int .i64 a0_9], .int .i64 a1] rfl mp_ ?_; (with_reducible refine (impl_isSatellite.calls a0_0 _ _ l0_1 _ _ l0_2 a0_3 a0_4 a0_5 a0_6 a0_7 _ _ l0_8 a0_9 a1 true _ ?side1 ?side2 ?side3 ?side4 ?side5 ?side6 A4.out).mono ?_); (case side1 => exact ck_ HR0_1 HB); (case side2 => exact HC0_1.out); (case side3 => exact ck_ HR0_2 HB); (case side4 => exact HC0_2.out); (case side5 => exact ck_ HR0_8 HB); (case side6 => exact HC0_8.out); rintro e w42 ⟨rfl, hb⟩; refine ⟨_, rfl, ?_⟩; have n0_ := Aside0.mk (blk_below (bk_ BK347) hb); have n1_ := Aside0.mk (below_step (bl1_ HB GE347) hb); clear BK347; clear HB; have BK347 := n0_; have HB := n1_; clear n0_ n1_; (try clear hb); (try clear hb2); (try clear hk); (try clear hi); have hcz43_0 : w42.cell? ⟨gb347, 0, none⟩ = some (.int .i64 a0_0) := bc_ BK347 0 rfl; have hcz43_1 : w42.cell? ⟨gb347, 1, none⟩ = some (.slice A0_1 l0_1.length c0_1) := bc_ BK347 1 rfl; have hcz43_2 : w42.cell? ⟨gb347, 2, none⟩ = some (.slice A0_2 l0_2.length c0_2) := bc_ BK347 2 rfl; have hcz43_3 : w42.cell? ⟨gb347, 3, none⟩ = some (.int .i64 a0_3) := bc_ BK347 3 rfl; have hcz43_4 : w42.cell? ⟨gb347, 4, none⟩ = some (.int .i64 a0_4) := bc_ BK347 4 rfl; have hcz43_5 : w42.cell? ⟨gb347, 5, none⟩ = some (.int .i64 a0_5) := bc_ BK347 5 rfl; have hcz43_6 : w42.cell? ⟨gb347, 6, none⟩ = some (.int .i64 a0_6) := bc_ BK347 6 rfl; have hcz43_7 : w42.cell? ⟨gb347, 7, none⟩ = some (.int .i64 a0_7) := bc_ BK347 7 rfl; have hcz43_8 : w42.cell? ⟨gb347, 8, none⟩ = some (.slice A0_8 l0_8.length c0_8) := bc_ BK347 8 rfl; have hcz43_9 : w42.cell? ⟨gb347, 9, none⟩ = some (.int .i64 a0_9) := bc_ BK347 9 rfl; have hfz43_0 := bf_ BK347 0; have hfz43_1 := bf_ BK347 1; have hfz43_2 := bf_ BK347 2; have hfz43_3 := bf_ BK347 3; have hfz43_4 := bf_ BK347 4; have hfz43_5 := bf_ BK347 5; have hfz43_6 := bf_ BK347 6; have hfz43_7 := bf_ BK347 7; have hfz43_8 := bf_ BK347 8; have hfz43_9 := bf_ BK347 9) | ((with_reducible refine gate_callee (f := 69) rfl ?_); refine goesL_ (some 17) rfl rfl Try.func69 (by kernel_rfl) rfl #[.agg #[.int .i64 a0_0, .slice A0_1 l0_1.length c0_1, .slice A0_2 l0_2.length c0_2, .int .i64 a0_3, .int .i64 a0_4, .int .i64 a0_5, .int .i64 a0_6, .int .i64 a0_7, .slice A0_8 l0_8.length c0_8, .int .i64 a0_9], .int .i64 a1, .int .i64 a2] rfl mp_ ?_; (with_reducible refine (impl_NodeAt.calls a0_0 _ _ l0_1 _ _ l0_2 a0_3 a0_4 a0_5 a0_6 a0_7 _ _ l0_8 a0_9 a1 a2 t349 t350 _ ?side1 ?side2 ?side3 ?side4 ?side5 ?side6 A6.out).mono ?_); (case side1 => exact ck_ HR0_1 HB); (case side2 => exact HC0_1.out); (case side3 => exact ck_ HR0_2 HB); (case side4 => exact HC0_2.out); (case side5 => exact ck_ HR0_8 HB); (case side6 => exact HC0_8.out); rintro e w44 ⟨rfl, hb⟩; refine ⟨_, rfl, ?_⟩; have n0_ := Aside0.mk (blk_below (bk_ BK347) hb); have n1_ := Aside0.mk (below_step (bl1_ HB GE347) hb); clear BK347; clear HB; have BK347 := n0_; have HB := n1_; clear n0_ n1_; (try clear hb); (try clear hb2); (try clear hk); (try clear hi)) | ((with_reducible refine gate_dst (N := 7) rfl ?_); refine box_event ?hg (N := 7) ?hd (cs := #[.int .i64 0, .int .i64 0]) (t := 79) ?hr ?_; (case hd => rfl); (case hg => rfl); (case hr => first | (go_simp; done) | (go_simp; rfl)); intro gb351 hg w45 hbox hb; have n0_ := Aside0.mk (blk_below (bk_ BK347) hb); have n1_ := Aside0.mk (below_step (bl1_ HB GE347) hb); have n2_ := Aside0.mk (hbox); have n3_ := Aside0.mk ((by rw [hg]; exact (below_size (bl1_ HB GE347)) : w.heap.size ≤ gb351)); have n4_ := Aside0.mk ((by rw [hg]; exact (below_size (bl1_ HB GE347)) : w.heap.size ≤ gb351)); have n5_ := Aside0.mk ((by rw [hg]; exact Nat.ne_of_lt (blk_lt (bk_ BK347)) : gb347 ≠ gb351)); have n6_ := Aside0.mk ((by rw [hg]; exact Nat.ne_of_gt (blk_lt (bk_ BK347)) : gb351 ≠ gb347)); clear BK347; clear HB; have BK347 := n0_; have HB := n1_; have BK351 := n2_; have GW351 := n3_; have GE351 := n4_; have NB347_351 := n5_; have NB351_347 := n6_; clear n0_ n1_ n2_ n3_ n4_ n5_ n6_; clear hb hbox hg; have hnb46 := NB351_347.out; have hnc46 := NB347_351.out; have hcz47_0 : w45.cell? ⟨gb351, 0, none⟩ = some (.int .i64 0) := bc_ BK351 0 rfl; have hcz47_1 : w45.cell? ⟨gb351, 1, none⟩ = some (.int .i64 0) := bc_ BK351 1 rfl; have hfz47_0 := bf_ BK351 0; have hfz47_1 := bf_ BK351 1))
    have n0_ : Aside0 (((w45.setCell ⟨gb351, 0, none⟩ (.int .i64 t349)).setCell ⟨gb351, 1, none⟩ (.int .i64 t350)).heap[gb347]? = some (.cells #[.int .i64 a0_0, .slice A0_1 l0_1.length c0_1, .slice A0_2 l0_2.length c0_2, .int .i64 a0_3, .int .i64 a0_4, .int .i64 a0_5, .int .i64 a0_6, .int .i64 a0_7, .slice A0_8 l0_8.length c0_8, .int .i64 a0_9] 33 (0, 0))) := ⟨by (with_reducible repeat (first | refine blk_drewN ?_ _ | refine blk_drew ?_ | refine blk_alloc ?_ _)); refine blk_far ?_ NB347_351.out _; (with_reducible repeat (first | refine blk_drewN ?_ _ | refine blk_drew ?_ | refine blk_alloc ?_ _)); refine blk_far ?_ NB347_351.out _; (with_reducible repeat (first | refine blk_drewN ?_ _ | refine blk_drew ?_ | refine blk_alloc ?_ _)); exact BK347.out⟩
    have n1_ : Aside0 (((w45.setCell ⟨gb351, 0, none⟩ (.int .i64 t349)).setCell ⟨gb351, 1, none⟩ (.int .i64 t350)).heap[gb351]? = some (.cells #[.int .i64 t349, .int .i64 t350] 79 (0, 0))) := ⟨by (with_reducible repeat (first | refine blk_drewN ?_ _ | refine blk_drew ?_ | refine blk_alloc ?_ _)); refine blk_put (cs := #[.int .i64 t349, .int .i64 0]) ?_ 1 _ rfl; (with_reducible repeat (first | refine blk_drewN ?_ _ | refine blk_drew ?_ | refine blk_alloc ?_ _)); refine blk_put (cs := #[.int .i64 0, .int .i64 0]) ?_ 0 _ rfl; (with_reducible repeat (first | refine blk_drewN ?_ _ | refine blk_drew ?_ | refine blk_alloc ?_ _)); exact BK351.out⟩
    have n2_ : Aside0 (Below w.heap.size w ((w45.setCell ⟨gb351, 0, none⟩ (.int .i64 t349)).setCell ⟨gb351, 1, none⟩ (.int .i64 t350))) := ⟨by repeat (first | (with_reducible first | exact HB.out | apply below_alloc | apply pw_below_drewN | apply below_drew1 | refine below_set ?_ GE347.out | refine below_set ?_ GE351.out) | exact HB.out)⟩
    (try clear BK347)
    (try clear BK351)
    (try clear HB)
    generalize ((w45.setCell ⟨gb351, 0, none⟩ (.int .i64 t349)).setCell ⟨gb351, 1, none⟩ (.int .i64 t350)) = w48 at n0_ n1_ n2_ ⊢
    have BK347 := n0_
    have BK351 := n1_
    have HB := n2_
    clear n0_ n1_ n2_
    have n0_ := Aside0.mk (blk_drew BK347.out)
    have n1_ := Aside0.mk (blk_drew BK351.out)
    have n2_ := Aside0.mk (below_drew1 HB.out)
    clear BK347
    clear BK351
    clear HB
    have BK347 := n0_
    have BK351 := n1_
    have HB := n2_
    clear n0_ n1_ n2_
    refine start_ (n := 12) (S := fun w' => w'.cell? ⟨gb351, 0, none⟩ = some (.int .i64 t349) ∧ w'.cell? ⟨gb351, 1, none⟩ = some (.int .i64 t350) ∧ w'.cell? ⟨gb347, 0, none⟩ = some (.int .i64 a0_0) ∧ w'.cell? ⟨gb347, 1, none⟩ = some (.slice A0_1 l0_1.length c0_1) ∧ w'.cell? ⟨gb347, 2, none⟩ = some (.slice A0_2 l0_2.length c0_2) ∧ w'.cell? ⟨gb347, 3, none⟩ = some (.int .i64 a0_3) ∧ w'.cell? ⟨gb347, 4, none⟩ = some (.int .i64 a0_4) ∧ w'.cell? ⟨gb347, 5, none⟩ = some (.int .i64 a0_5) ∧ w'.cell? ⟨gb347, 6, none⟩ = some (.int .i64 a0_6) ∧ w'.cell? ⟨gb347, 7, none⟩ = some (.int .i64 a0_7) ∧ w'.cell? ⟨gb347, 8, none⟩ = some (.slice A0_8 l0_8.length c0_8) ∧ w'.cell? ⟨gb347, 9, none⟩ = some (.int .i64 a0_9)) (ds := []) #[false, false, false, false, false, false, false, false, false, false, false, false] (by kernel_rfl) rfl rfl ⟨(bc_ BK351 0 rfl), (bc_ BK351 1 rfl), (bc_ BK347 0 rfl), (bc_ BK347 1 rfl), (bc_ BK347 2 rfl), (bc_ BK347 3 rfl), (bc_ BK347 4 rfl), (bc_ BK347 5 rfl), (bc_ BK347 6 rfl), (bc_ BK347 7 rfl), (bc_ BK347 8 rfl), (bc_ BK347 9 rfl)⟩ (fun hHeld => ?_); refine with_tabW impl_ShadowAt.tab4 impl_ShadowAt.bits4 (fun HT_ HW_ => ?_)
    generalize w48.drew = w49 at BK347 BK351 HB hHeld ⊢
    refine pure_ (i := 3) (N := some 21) (v := ?_) (a' := ?_) #[false, false, false, true, false, false, false, false, false, false, false, false] rfl rfl (any_of HT_.out (by kernel_rfl)) (fun _ _ _ h => h) (Or.inl ⟨by rfl, ?_⟩) ?_ ?_
    rotate_left
    ·intro w'
     go_simp
     with_reducible rfl
    rotate_left
    ·simp only [Act.put, List.setIfInBounds_toArray, List.set_cons_zero, List.set_cons_succ, i64_w, i32_w]
     rfl
    refine pure_ (i := 7) (N := some 25) (v := ?_) (a' := ?_) #[false, false, false, true, false, false, false, true, false, false, false, false] rfl rfl (any_of HT_.out (by kernel_rfl)) (fun _ _ _ h => h) (Or.inl ⟨by rfl, ?_⟩) ?_ ?_
    rotate_left
    ·intro w'
     go_simp
     with_reducible rfl
    rotate_left
    ·simp only [Act.put, List.setIfInBounds_toArray, List.set_cons_zero, List.set_cons_succ, i64_w, i32_w]
     rfl
    refine take_ (i := 0) (N := some 18) (v := ?_) (a' := ?_) #[true, false, false, true, false, false, false, true, false, false, false, false] rfl rfl (take_ofW HT_.out HW_.out (by kernel_rfl)) (fun _ _ _ h => h) (Or.inl ⟨by rfl, ?_⟩) hHeld ?_ ?_
    rotate_left
    ·rintro w' ⟨s0, s1, s2, s3, s4, s5, s6, s7, s8, s9, s10, s11⟩
     go_simp
     with_reducible rfl
    rotate_left
    ·simp only [Act.put, List.setIfInBounds_toArray, List.set_cons_zero, List.set_cons_succ, i64_w, i32_w]
     rfl
    refine take_ (i := 2) (N := some 20) (v := ?_) (a' := ?_) #[true, false, true, true, false, false, false, true, false, false, false, false] rfl rfl (take_ofW HT_.out HW_.out (by kernel_rfl)) (fun _ _ _ h => h) (Or.inl ⟨by rfl, ?_⟩) hHeld ?_ ?_
    rotate_left
    ·rintro w' ⟨s0, s1, s2, s3, s4, s5, s6, s7, s8, s9, s10, s11⟩
     go_simp
     with_reducible rfl
    rotate_left
    ·simp only [Act.put, List.setIfInBounds_toArray, List.set_cons_zero, List.set_cons_succ, i64_w, i32_w]
     rfl
    refine take_ (i := 8) (N := some 26) (v := ?_) (a' := ?_) #[true, false, true, true, false, false, false, true, true, false, false, false] rfl rfl (take_ofW HT_.out HW_.out (by kernel_rfl)) (fun _ _ _ h => h) (Or.inl ⟨by rfl, ?_⟩) hHeld ?_ ?_
    rotate_left
    ·rintro w' ⟨s0, s1, s2, s3, s4, s5, s6, s7, s8, s9, s10, s11⟩
     go_simp
     with_reducible rfl
    rotate_left
    ·simp only [Act.put, List.setIfInBounds_toArray, List.set_cons_zero, List.set_cons_succ, i64_w, i32_w]
     rfl
    refine pure_ (i := 9) (N := some 27) (v := ?_) (a' := ?_) #[true, false, true, true, false, false, false, true, true, true, false, false] rfl rfl (any_of HT_.out (by kernel_rfl)) (fun _ _ _ h => h) (Or.inl ⟨by rfl, ?_⟩) ?_ ?_
    rotate_left
    ·intro w'
     go_simp
     with_reducible rfl
    rotate_left
    ·simp only [Act.put, List.setIfInBounds_toArray, List.set_cons_zero, List.set_cons_succ, i64_w, i32_w]
     rfl
    refine one_ (i := 1) (N := some 19) #[true, true, true, true, false, false, false, true, true, true, false, false] rfl rfl (one_of HT_.out (by kernel_rfl)) (by decide) (fun K hK => ?_)
    refine goes_ Try.func75 (by kernel_rfl) rfl #[.agg #[.int .i64 t349, .int .i64 t350]] (by rfl) rfl rfl mp_ ?_
    with_reducible refine (impl_MiddleOf.calls t349 t350 t352 _ A7.out).mono ?_
    rintro e w50 ⟨rfl, hb⟩
    refine ⟨_, rfl, ?_⟩
    have n0_ := Aside0.mk (blk_below (bk_ BK347) hb)
    have n1_ := Aside0.mk (blk_below (bk_ BK351) hb)
    have n2_ := Aside0.mk (below_step (bl2_ HB GE347 GE351) hb)
    clear BK347
    clear BK351
    clear HB
    have BK347 := n0_
    have BK351 := n1_
    have HB := n2_
    clear n0_ n1_ n2_
    (try clear hb)
    (try clear hb2)
    (try clear hk)
    (try clear hi)
    refine hK.out _ _ ⟨(bc_ BK351 0 rfl), (bc_ BK351 1 rfl), (bc_ BK347 0 rfl), (bc_ BK347 1 rfl), (bc_ BK347 2 rfl), (bc_ BK347 3 rfl), (bc_ BK347 4 rfl), (bc_ BK347 5 rfl), (bc_ BK347 6 rfl), (bc_ BK347 7 rfl), (bc_ BK347 8 rfl), (bc_ BK347 9 rfl)⟩ (fun hHeld => ?_)
    clear hK K
    refine norm_ (a' := ?_) ?_ ?_
    rotate_left
    ·show Act.put _ (some 19) _ = _
     simp only [Act.put, List.setIfInBounds_toArray, List.set_cons_zero, List.set_cons_succ, i64_w, i32_w]
     rfl
    refine one_ (i := 4) (N := some 22) #[true, true, true, true, true, false, false, true, true, true, false, false] rfl rfl (one_of HT_.out (by kernel_rfl)) (by decide) (fun K hK => ?_)
    refine goes_ Try.func76 (by kernel_rfl) rfl #[.agg #[.int .i64 a0_0, .slice A0_1 l0_1.length c0_1, .slice A0_2 l0_2.length c0_2, .int .i64 a0_3, .int .i64 a0_4, .int .i64 a0_5, .int .i64 a0_6, .int .i64 a0_7, .slice A0_8 l0_8.length c0_8, .int .i64 a0_9], .int .i64 a2] (by rfl) rfl rfl mp_ ?_
    with_reducible refine (impl_SunAt.calls a0_0 _ _ l0_1 _ _ l0_2 a0_3 a0_4 a0_5 a0_6 a0_7 _ _ l0_8 a0_9 a2 t353 _ ?side1 ?side2 ?side3 ?side4 ?side5 ?side6 A8.out).mono ?_
    (case side1 => exact ck_ HR0_1 HB)
    (case side2 => exact HC0_1.out)
    (case side3 => exact ck_ HR0_2 HB)
    (case side4 => exact HC0_2.out)
    (case side5 => exact ck_ HR0_8 HB)
    (case side6 => exact HC0_8.out)
    rintro e w51 ⟨rfl, hb⟩
    refine ⟨_, rfl, ?_⟩
    have n0_ := Aside0.mk (blk_below (bk_ BK347) hb)
    have n1_ := Aside0.mk (blk_below (bk_ BK351) hb)
    have n2_ := Aside0.mk (below_step (bl2_ HB GE347 GE351) hb)
    clear BK347
    clear BK351
    clear HB
    have BK347 := n0_
    have BK351 := n1_
    have HB := n2_
    clear n0_ n1_ n2_
    (try clear hb)
    (try clear hb2)
    (try clear hk)
    (try clear hi)
    refine hK.out _ _ ⟨(bc_ BK351 0 rfl), (bc_ BK351 1 rfl), (bc_ BK347 0 rfl), (bc_ BK347 1 rfl), (bc_ BK347 2 rfl), (bc_ BK347 3 rfl), (bc_ BK347 4 rfl), (bc_ BK347 5 rfl), (bc_ BK347 6 rfl), (bc_ BK347 7 rfl), (bc_ BK347 8 rfl), (bc_ BK347 9 rfl)⟩ (fun hHeld => ?_)
    clear hK K
    refine norm_ (a' := ?_) ?_ ?_
    rotate_left
    ·show Act.put _ (some 22) _ = _
     simp only [Act.put, List.setIfInBounds_toArray, List.set_cons_zero, List.set_cons_succ, i64_w, i32_w]
     rfl
    refine pure_ (i := 5) (N := some 23) (v := ?_) (a' := ?_) #[true, true, true, true, true, true, false, true, true, true, false, false] rfl rfl (any_of HT_.out (by kernel_rfl)) (fun _ _ _ h => h) (Or.inl ⟨by rfl, ?_⟩) ?_ ?_
    rotate_left
    ·intro w'
     go_simp
     with_reducible rfl
    rotate_left
    ·simp only [Act.put, List.setIfInBounds_toArray, List.set_cons_zero, List.set_cons_succ, i64_w, i32_w]
     rfl
    refine one_ (i := 6) (N := some 24) #[true, true, true, true, true, true, true, true, true, true, false, false] rfl rfl (one_of HT_.out (by kernel_rfl)) (by decide) (fun K hK => ?_)
    refine goes_ Try.func74 (by kernel_rfl) rfl #[.int .i64 t352, .int .i64 (wrap64 (t353 + 180))] (by rfl) rfl rfl mp_ ?_
    with_reducible refine (impl_GapOf.calls t352 (wrap64 (t353 + 180)) t354 _ A9.out).mono ?_
    rintro e w52 ⟨rfl, hb⟩
    refine ⟨_, rfl, ?_⟩
    have n0_ := Aside0.mk (blk_below (bk_ BK347) hb)
    have n1_ := Aside0.mk (blk_below (bk_ BK351) hb)
    have n2_ := Aside0.mk (below_step (bl2_ HB GE347 GE351) hb)
    clear BK347
    clear BK351
    clear HB
    have BK347 := n0_
    have BK351 := n1_
    have HB := n2_
    clear n0_ n1_ n2_
    (try clear hb)
    (try clear hb2)
    (try clear hk)
    (try clear hi)
    refine hK.out _ _ ⟨(bc_ BK351 0 rfl), (bc_ BK351 1 rfl), (bc_ BK347 0 rfl), (bc_ BK347 1 rfl), (bc_ BK347 2 rfl), (bc_ BK347 3 rfl), (bc_ BK347 4 rfl), (bc_ BK347 5 rfl), (bc_ BK347 6 rfl), (bc_ BK347 7 rfl), (bc_ BK347 8 rfl), (bc_ BK347 9 rfl)⟩ (fun hHeld => ?_)
    clear hK K
    refine norm_ (a' := ?_) ?_ ?_
    rotate_left
    ·show Act.put _ (some 24) _ = _
     simp only [Act.put, List.setIfInBounds_toArray, List.set_cons_zero, List.set_cons_succ, i64_w, i32_w]
     rfl
    refine pure_ (i := 10) (N := some 8) (v := ?_) (a' := ?_) #[true, true, true, true, true, true, true, true, true, true, true, false] rfl rfl (any_of HT_.out (by kernel_rfl)) (fun _ _ _ h => h) (Or.inl ⟨by rfl, ?_⟩) ?_ ?_
    rotate_left
    ·intro w'
     go_simp
     with_reducible rfl
    rotate_left
    ·simp only [Act.put, List.setIfInBounds_toArray, List.set_cons_zero, List.set_cons_succ, i64_w, i32_w]
     rfl
    refine pure_ (i := 11) (N := some 9) (v := ?_) (a' := ?_) #[true, true, true, true, true, true, true, true, true, true, true, true] rfl rfl (any_of HT_.out (by kernel_rfl)) (fun _ _ _ h => h) (Or.inl ⟨by rfl, ?_⟩) ?_ ?_
    rotate_left
    ·intro w'
     go_simp
     with_reducible rfl
    rotate_left
    ·simp only [Act.put, List.setIfInBounds_toArray, List.set_cons_zero, List.set_cons_succ, i64_w, i32_w]
     rfl
    refine done_ (done_of HT_.out (by kernel_rfl)) ?_
    have hcz53_0 : w52.cell? ⟨gb347, 0, none⟩ = some (.int .i64 a0_0) := bc_ BK347 0 rfl
    have hcz53_1 : w52.cell? ⟨gb347, 1, none⟩ = some (.slice A0_1 l0_1.length c0_1) := bc_ BK347 1 rfl
    have hcz53_2 : w52.cell? ⟨gb347, 2, none⟩ = some (.slice A0_2 l0_2.length c0_2) := bc_ BK347 2 rfl
    have hcz53_3 : w52.cell? ⟨gb347, 3, none⟩ = some (.int .i64 a0_3) := bc_ BK347 3 rfl
    have hcz53_4 : w52.cell? ⟨gb347, 4, none⟩ = some (.int .i64 a0_4) := bc_ BK347 4 rfl
    have hcz53_5 : w52.cell? ⟨gb347, 5, none⟩ = some (.int .i64 a0_5) := bc_ BK347 5 rfl
    have hcz53_6 : w52.cell? ⟨gb347, 6, none⟩ = some (.int .i64 a0_6) := bc_ BK347 6 rfl
    have hcz53_7 : w52.cell? ⟨gb347, 7, none⟩ = some (.int .i64 a0_7) := bc_ BK347 7 rfl
    have hcz53_8 : w52.cell? ⟨gb347, 8, none⟩ = some (.slice A0_8 l0_8.length c0_8) := bc_ BK347 8 rfl
    have hcz53_9 : w52.cell? ⟨gb347, 9, none⟩ = some (.int .i64 a0_9) := bc_ BK347 9 rfl
    have hfz53_0 := bf_ BK347 0
    have hfz53_1 := bf_ BK347 1
    have hfz53_2 := bf_ BK347 2
    have hfz53_3 := bf_ BK347 3
    have hfz53_4 := bf_ BK347 4
    have hfz53_5 := bf_ BK347 5
    have hfz53_6 := bf_ BK347 6
    have hfz53_7 := bf_ BK347 7
    have hfz53_8 := bf_ BK347 8
    have hfz53_9 := bf_ BK347 9
    try go_wp2
    go_ret
    exact ⟨by first | rfl | (simp [errW_none, errW_some] <;> rfl) | (simp [*, errW_none, errW_some] <;> rfl), by repeat (first | (with_reducible first | exact HB.out | apply below_alloc | apply pw_below_drewN | apply below_drew1 | refine below_set ?_ GE347.out | refine below_set ?_ GE351.out) | exact HB.out)⟩
 ·replace c5 := Bool.eq_false_iff.mpr c5
  subst c5
  have H1 : (some 0) = some r := by rw [if_neg (show ¬ (false = true) by decide)] at H; exact H
  clear H
  have H := H1
  clear H1
  obtain rfl := Option.some.inj H
  go_enter Try.func50, Try.ntmps50
  go_wp2_with (first | ((with_reducible refine gate_dst (N := 3) rfl ?_); refine box_event ?hg (N := 3) ?hd (cs := #[.int .i64 a0_0, .slice A0_1 l0_1.length c0_1, .slice A0_2 l0_2.length c0_2, .int .i64 a0_3, .int .i64 a0_4, .int .i64 a0_5, .int .i64 a0_6, .int .i64 a0_7, .slice A0_8 l0_8.length c0_8, .int .i64 a0_9]) (t := 33) ?hr ?_; (case hd => rfl); (case hg => rfl); (case hr => first | (go_simp; done) | (go_simp; rfl)); intro gb347 hg w54 hbox hb; have n0_ := Aside0.mk (below_step (bl_ HB) hb); have n1_ := Aside0.mk (hbox); have n2_ := Aside0.mk ((by rw [hg]; exact (below_size (bl_ HB)) : w.heap.size ≤ gb347)); have n3_ := Aside0.mk ((by rw [hg]; exact (below_size (bl_ HB)) : w.heap.size ≤ gb347)); clear HB; have HB := n0_; have BK347 := n1_; have GW347 := n2_; have GE347 := n3_; clear n0_ n1_ n2_ n3_; clear hb hbox hg; have hcz55_0 : w54.cell? ⟨gb347, 0, none⟩ = some (.int .i64 a0_0) := bc_ BK347 0 rfl; have hcz55_1 : w54.cell? ⟨gb347, 1, none⟩ = some (.slice A0_1 l0_1.length c0_1) := bc_ BK347 1 rfl; have hcz55_2 : w54.cell? ⟨gb347, 2, none⟩ = some (.slice A0_2 l0_2.length c0_2) := bc_ BK347 2 rfl; have hcz55_3 : w54.cell? ⟨gb347, 3, none⟩ = some (.int .i64 a0_3) := bc_ BK347 3 rfl; have hcz55_4 : w54.cell? ⟨gb347, 4, none⟩ = some (.int .i64 a0_4) := bc_ BK347 4 rfl; have hcz55_5 : w54.cell? ⟨gb347, 5, none⟩ = some (.int .i64 a0_5) := bc_ BK347 5 rfl; have hcz55_6 : w54.cell? ⟨gb347, 6, none⟩ = some (.int .i64 a0_6) := bc_ BK347 6 rfl; have hcz55_7 : w54.cell? ⟨gb347, 7, none⟩ = some (.int .i64 a0_7) := bc_ BK347 7 rfl; have hcz55_8 : w54.cell? ⟨gb347, 8, none⟩ = some (.slice A0_8 l0_8.length c0_8) := bc_ BK347 8 rfl; have hcz55_9 : w54.cell? ⟨gb347, 9, none⟩ = some (.int .i64 a0_9) := bc_ BK347 9 rfl; have hfz55_0 := bf_ BK347 0; have hfz55_1 := bf_ BK347 1; have hfz55_2 := bf_ BK347 2; have hfz55_3 := bf_ BK347 3; have hfz55_4 := bf_ BK347 4; have hfz55_5 := bf_ BK347 5; have hfz55_6 := bf_ BK347 6; have hfz55_7 := bf_ BK347 7; have hfz55_8 := bf_ BK347 8; have hfz55_9 := bf_ BK347 9) | ((with_reducible refine gate_callee (f := 68) rfl ?_); refine goesL_ (some 12) rfl rfl Try.func68 (by kernel_rfl) rfl #[.agg #[.int .i64 a0_0, .slice A0_1 l0_1.length c0_1, .slice A0_2 l0_2.length c0_2, .int .i64 a0_3, .int .i64 a0_4, .int .i64 a0_5, .int .i64 a0_6, .int .i64 a0_7, .slice A0_8 l0_8.length c0_8, .int .i64 a0_9], .int .i64 a1] rfl mp_ ?_; (with_reducible refine (impl_isSatellite.calls a0_0 _ _ l0_1 _ _ l0_2 a0_3 a0_4 a0_5 a0_6 a0_7 _ _ l0_8 a0_9 a1 false _ ?side1 ?side2 ?side3 ?side4 ?side5 ?side6 A4.out).mono ?_); (case side1 => exact ck_ HR0_1 HB); (case side2 => exact HC0_1.out); (case side3 => exact ck_ HR0_2 HB); (case side4 => exact HC0_2.out); (case side5 => exact ck_ HR0_8 HB); (case side6 => exact HC0_8.out); rintro e w56 ⟨rfl, hb⟩; refine ⟨_, rfl, ?_⟩; have n0_ := Aside0.mk (blk_below (bk_ BK347) hb); have n1_ := Aside0.mk (below_step (bl1_ HB GE347) hb); clear BK347; clear HB; have BK347 := n0_; have HB := n1_; clear n0_ n1_; (try clear hb); (try clear hb2); (try clear hk); (try clear hi)))
  go_ret
  exact ⟨by first | rfl | (simp [errW_none, errW_some] <;> rfl) | (simp [*, errW_none, errW_some] <;> rfl), by repeat (first | (with_reducible first | exact HB.out | apply below_alloc | apply pw_below_drewN | apply below_drew1 | refine below_set ?_ GE347.out) | exact HB.out)⟩

/-! ### impl_LitSpans_1: function 51 -/
def impl_LitSpans_1.f (a0 : Int) (a1_0 : Int) (l1_1 : List (S71)) (l1_2 : List (S75)) (a1_3 : Int) (a1_4 : Int) (a1_5 : Int) (a1_6 : Int) (a1_7 : Int) (l1_8 : List (S81)) (a1_9 : Int) (a2 : Int) : Option (Bool) := (impl_ShadowAt.f a1_0 l1_1 l1_2 a1_3 a1_4 a1_5 a1_6 a1_7 l1_8 a1_9 a2 a0).bind fun t355 => (some (t355 == 0))
set_option maxHeartbeats 8000000 in
set_option maxRecDepth 100000 in
theorem impl_LitSpans_1.calls (a0 : Int) (a1_0 : Int) (A1_1 : Option Addr) (c1_1 : Nat) (l1_1 : List (S71)) (A1_2 : Option Addr) (c1_2 : Nat) (l1_2 : List (S75)) (a1_3 : Int) (a1_4 : Int) (a1_5 : Int) (a1_6 : Int) (a1_7 : Int) (A1_8 : Option Addr) (c1_8 : Nat) (l1_8 : List (S81)) (a1_9 : Int) (a2 : Int) (r : Bool) (w : World) (B0 : Nat) (hB0 : w.heap[B0]? = some (.cells #[.int .i64 a1_0, .slice A1_1 l1_1.length c1_1, .slice A1_2 l1_2.length c1_2, .int .i64 a1_3, .int .i64 a1_4, .int .i64 a1_5, .int .i64 a1_6, .int .i64 a1_7, .slice A1_8 l1_8.length c1_8, .int .i64 a1_9] 33 (0, 0))) (B1 : Nat) (hB1 : w.heap[B1]? = some (.cells #[.int .i64 a2] 3 (0, 0))) (hr1_1 : Kd.C k71 w A1_1 l1_1.length l1_1) (hc1_1 : l1_1.length ≤ c1_1) (hr1_2 : Kd.C k75 w A1_2 l1_2.length l1_2) (hc1_2 : l1_2.length ≤ c1_2) (hr1_8 : Kd.C k81 w A1_8 l1_8.length l1_8) (hc1_8 : l1_8.length ≤ c1_8) (h : impl_LitSpans_1.f a0 a1_0 l1_1 l1_2 a1_3 a1_4 a1_5 a1_6 a1_7 l1_8 a1_9 a2 = some r) :
  Calls Try.prog 51 #[.int .i64 a0, .pointer (some ⟨B0, 0, none⟩), .pointer (some ⟨B1, 0, none⟩)] w fun e w' => e = .returned (.bool r) ∧ Below w.heap.size w w' := by
 have hcB0_0 : w.cell? ⟨B0, 0, none⟩ = some (.int .i64 a1_0) := (blk_cell hB0 0).trans rfl
 have hcB0_1 : w.cell? ⟨B0, 1, none⟩ = some (.slice A1_1 l1_1.length c1_1) := (blk_cell hB0 1).trans rfl
 have hcB0_2 : w.cell? ⟨B0, 2, none⟩ = some (.slice A1_2 l1_2.length c1_2) := (blk_cell hB0 2).trans rfl
 have hcB0_3 : w.cell? ⟨B0, 3, none⟩ = some (.int .i64 a1_3) := (blk_cell hB0 3).trans rfl
 have hcB0_4 : w.cell? ⟨B0, 4, none⟩ = some (.int .i64 a1_4) := (blk_cell hB0 4).trans rfl
 have hcB0_5 : w.cell? ⟨B0, 5, none⟩ = some (.int .i64 a1_5) := (blk_cell hB0 5).trans rfl
 have hcB0_6 : w.cell? ⟨B0, 6, none⟩ = some (.int .i64 a1_6) := (blk_cell hB0 6).trans rfl
 have hcB0_7 : w.cell? ⟨B0, 7, none⟩ = some (.int .i64 a1_7) := (blk_cell hB0 7).trans rfl
 have hcB0_8 : w.cell? ⟨B0, 8, none⟩ = some (.slice A1_8 l1_8.length c1_8) := (blk_cell hB0 8).trans rfl
 have hcB0_9 : w.cell? ⟨B0, 9, none⟩ = some (.int .i64 a1_9) := (blk_cell hB0 9).trans rfl
 have hcB1_0 : w.cell? ⟨B1, 0, none⟩ = some (.int .i64 a2) := (blk_cell hB1 0).trans rfl
 have HR1_1 := Aside0.mk hr1_1
 have HC1_1 := Aside0.mk hc1_1
 clear hr1_1 hc1_1
 have HR1_2 := Aside0.mk hr1_2
 have HC1_2 := Aside0.mk hc1_2
 clear hr1_2 hc1_2
 have HR1_8 := Aside0.mk hr1_8
 have HC1_8 := Aside0.mk hc1_8
 clear hr1_8 hc1_8
 have HB := Aside0.mk (Below.refl w.heap.size w)
 have H := h
 clear h
 unfold impl_LitSpans_1.f at H
 replace H := Option.bind_eq_some_iff.mp H
 obtain ⟨t355, A40, H⟩ := H
 have A4 := Aside0.mk A40
 clear A40
 obtain rfl := Option.some.inj H
 go_enter Try.func51, Try.ntmps51
 go_wp2_with (first | ((with_reducible refine gate_callee (f := 50) rfl ?_); refine goesL_ (some 8) rfl rfl Try.func50 (by kernel_rfl) rfl #[.agg #[.int .i64 a1_0, .slice A1_1 l1_1.length c1_1, .slice A1_2 l1_2.length c1_2, .int .i64 a1_3, .int .i64 a1_4, .int .i64 a1_5, .int .i64 a1_6, .int .i64 a1_7, .slice A1_8 l1_8.length c1_8, .int .i64 a1_9], .int .i64 a2, .int .i64 a0] rfl mp_ ?_; (with_reducible refine (impl_ShadowAt.calls a1_0 _ _ l1_1 _ _ l1_2 a1_3 a1_4 a1_5 a1_6 a1_7 _ _ l1_8 a1_9 a2 a0 t355 _ ?side1 ?side2 ?side3 ?side4 ?side5 ?side6 A4.out).mono ?_); (case side1 => repeat (first | exact HR1_1.out | (with_reducible refine Kd.C_alloc ?_ _) | (with_reducible refine Kd.C_drewN ?_ _) | (with_reducible refine Kd.C_drew ?_))); (case side2 => exact HC1_1.out); (case side3 => repeat (first | exact HR1_2.out | (with_reducible refine Kd.C_alloc ?_ _) | (with_reducible refine Kd.C_drewN ?_ _) | (with_reducible refine Kd.C_drew ?_))); (case side4 => exact HC1_2.out); (case side5 => repeat (first | exact HR1_8.out | (with_reducible refine Kd.C_alloc ?_ _) | (with_reducible refine Kd.C_drewN ?_ _) | (with_reducible refine Kd.C_drew ?_))); (case side6 => exact HC1_8.out); rintro e w5 ⟨rfl, hb⟩; refine ⟨_, rfl, ?_⟩; have n0_ := Aside0.mk (below_step (bl_ HB) hb); clear HB; have HB := n0_; clear n0_; (try clear hb); (try clear hb2); (try clear hk); (try clear hi)))
 go_ret
 exact ⟨by first | rfl | (simp [errW_none, errW_some] <;> rfl) | (simp [*, errW_none, errW_some] <;> rfl), by repeat (first | (with_reducible first | exact HB.out | apply below_alloc | apply pw_below_drewN | apply below_drew1) | exact HB.out)⟩


def where_impl_LitSpans_1.f (k : Nat) (y0 y1 : Int) (a1_0 : Int) (l1_1 : List (S71)) (l1_2 : List (S75)) (a1_3 : Int) (a1_4 : Int) (a1_5 : Int) (a1_6 : Int) (a1_7 : Int) (l1_8 : List (S81)) (a1_9 : Int) (a2 : Int) : Option (List (S51)) := sw.f (fun k' t' => impl_LitSpans_1.f t' a1_0 l1_1 l1_2 a1_3 a1_4 a1_5 a1_6 a1_7 l1_8 a1_9 a2) k y0 y1
theorem where_impl_LitSpans_1.mono : ∀ y0 y1 a1_0 l1_1 l1_2 a1_3 a1_4 a1_5 a1_6 a1_7 l1_8 a1_9 a2 k, LeO (where_impl_LitSpans_1.f k y0 y1 a1_0 l1_1 l1_2 a1_3 a1_4 a1_5 a1_6 a1_7 l1_8 a1_9 a2) (where_impl_LitSpans_1.f (k + 1) y0 y1 a1_0 l1_1 l1_2 a1_3 a1_4 a1_5 a1_6 a1_7 l1_8 a1_9 a2) := fun y0 y1 a1_0 l1_1 l1_2 a1_3 a1_4 a1_5 a1_6 a1_7 l1_8 a1_9 a2 k => sw.mono _ (fun _ _ => LeO.refl _) y0 y1 k
theorem where_impl_LitSpans_1.calls (k : Nat) (y0 y1 : Int) (a1_0 : Int) (A1_1 : Option Addr) (c1_1 : Nat) (l1_1 : List (S71)) (A1_2 : Option Addr) (c1_2 : Nat) (l1_2 : List (S75)) (a1_3 : Int) (a1_4 : Int) (a1_5 : Int) (a1_6 : Int) (a1_7 : Int) (A1_8 : Option Addr) (c1_8 : Nat) (l1_8 : List (S81)) (a1_9 : Int) (a2 : Int) (r : List (S51)) (w : World) (B0 : Nat) (hB0 : w.heap[B0]? = some (.cells #[.int .i64 a1_0, .slice A1_1 l1_1.length c1_1, .slice A1_2 l1_2.length c1_2, .int .i64 a1_3, .int .i64 a1_4, .int .i64 a1_5, .int .i64 a1_6, .int .i64 a1_7, .slice A1_8 l1_8.length c1_8, .int .i64 a1_9] 33 (0, 0))) (B1 : Nat) (hB1 : w.heap[B1]? = some (.cells #[.int .i64 a2] 3 (0, 0))) (hr1_1 : Kd.C k71 w A1_1 l1_1.length l1_1) (hc1_1 : l1_1.length ≤ c1_1) (hr1_2 : Kd.C k75 w A1_2 l1_2.length l1_2) (hc1_2 : l1_2.length ≤ c1_2) (hr1_8 : Kd.C k81 w A1_8 l1_8.length l1_8) (hc1_8 : l1_8.length ≤ c1_8) (h : where_impl_LitSpans_1.f k y0 y1 a1_0 l1_1 l1_2 a1_3 a1_4 a1_5 a1_6 a1_7 l1_8 a1_9 a2 = some r) :
  Calls Try.prog 41 #[.int .i64 y0, .int .i64 y1, .func (.func 51) #[] #[.pointer (some ⟨B0, 0, none⟩), .pointer (some ⟨B1, 0, none⟩)]] w fun e w' => ∃ v0_ : Value, e = .returned (v0_) ∧ Kd.R k51 51 w' w.heap.size (fun _ => True) v0_ r ∧ Below w.heap.size w w' := by
 refine sw.calls (fun k' t' => impl_LitSpans_1.f t' a1_0 l1_1 l1_2 a1_3 a1_4 a1_5 a1_6 a1_7 l1_8 a1_9 a2) k y0 y1 r w 51 _ (fun args w => enters_ Try.func51 (by kernel_rfl) rfl args w) (fun k' t b W hq hb => ?_) h
 have hB0' := blk_below hB0 hb
 have hB1' := blk_below hB1 hb
 have hh := impl_LitSpans_1.calls t a1_0 A1_1 c1_1 l1_1 A1_2 c1_2 l1_2 a1_3 a1_4 a1_5 a1_6 a1_7 A1_8 c1_8 l1_8 a1_9 a2 b W B0 hB0' B1 hB1' (Kd.C_below hr1_1 hb) hc1_1 (Kd.C_below hr1_2 hb) hc1_2 (Kd.C_below hr1_8 hb) hc1_8 hq
 exact hh.mono (fun e w' hx => ⟨hx.1, hx.2⟩)

/-! ### impl_LitSpans: function 23 -/
def impl_LitSpans.f (k : Nat) (a0_0 : Int) (l0_1 : List (S71)) (l0_2 : List (S75)) (a0_3 : Int) (a0_4 : Int) (a0_5 : Int) (a0_6 : Int) (a0_7 : Int) (l0_8 : List (S81)) (a0_9 : Int) (a1 : Int) (a2 : Int) (a3 : Int) : Option ((List (S51))) := (where_impl_LitSpans_1.f k a2 a3 a0_0 l0_1 l0_2 a0_3 a0_4 a0_5 a0_6 a0_7 l0_8 a0_9 a1).bind fun t356 => (some t356)
theorem impl_LitSpans.mono : ∀ a0 a1 a2 a3 a4 a5 a6 a7 a8 a9 a10 a11 a12 k, LeO (impl_LitSpans.f k a0 a1 a2 a3 a4 a5 a6 a7 a8 a9 a10 a11 a12) (impl_LitSpans.f (k + 1) a0 a1 a2 a3 a4 a5 a6 a7 a8 a9 a10 a11 a12) := by
 intro a0 a1 a2 a3 a4 a5 a6 a7 a8 a9 a10 a11 a12 k
 unfold impl_LitSpans.f
 repeat' first
   | (with_reducible exact where_impl_LitSpans_1.mono _ _ _ _ _ _ _ _ _ _ _ _ _ _)
   | (with_reducible exact LeO.refl _)
   | (with_reducible exact LeO.none _)
   | (with_reducible refine LeO.ite ?_ ?_)
   | (with_reducible refine LeO.bind ?_ (fun _ => ?_))
   | exact where_impl_LitSpans_1.mono _ _ _ _ _ _ _ _ _ _ _ _ _ _
   | exact LeO.none _
   | refine LeO.ite ?_ ?_
   | refine LeO.bind ?_ (fun _ => ?_)
set_option maxHeartbeats 8000000 in
set_option maxRecDepth 100000 in
theorem impl_LitSpans.calls (k : Nat) (a0_0 : Int) (A0_1 : Option Addr) (c0_1 : Nat) (l0_1 : List (S71)) (A0_2 : Option Addr) (c0_2 : Nat) (l0_2 : List (S75)) (a0_3 : Int) (a0_4 : Int) (a0_5 : Int) (a0_6 : Int) (a0_7 : Int) (A0_8 : Option Addr) (c0_8 : Nat) (l0_8 : List (S81)) (a0_9 : Int) (a1 : Int) (a2 : Int) (a3 : Int) (r : List (S51)) (w : World) (hr0_1 : Kd.C k71 w A0_1 l0_1.length l0_1) (hc0_1 : l0_1.length ≤ c0_1) (hr0_2 : Kd.C k75 w A0_2 l0_2.length l0_2) (hc0_2 : l0_2.length ≤ c0_2) (hr0_8 : Kd.C k81 w A0_8 l0_8.length l0_8) (hc0_8 : l0_8.length ≤ c0_8) (h : impl_LitSpans.f k a0_0 l0_1 l0_2 a0_3 a0_4 a0_5 a0_6 a0_7 l0_8 a0_9 a1 a2 a3 = some r) :
  Calls Try.prog 23 #[.agg #[.int .i64 a0_0, .slice A0_1 l0_1.length c0_1, .slice A0_2 l0_2.length c0_2, .int .i64 a0_3, .int .i64 a0_4, .int .i64 a0_5, .int .i64 a0_6, .int .i64 a0_7, .slice A0_8 l0_8.length c0_8, .int .i64 a0_9], .int .i64 a1, .int .i64 a2, .int .i64 a3] w fun e w' => ∃ v0_ : Value, e = .returned (v0_) ∧ Kd.R k51 51 w' w.heap.size (fun _ => True) v0_ r ∧ Below w.heap.size w w' := by
 have HR0_1 := Aside0.mk hr0_1
 have HC0_1 := Aside0.mk hc0_1
 clear hr0_1 hc0_1
 have HR0_2 := Aside0.mk hr0_2
 have HC0_2 := Aside0.mk hc0_2
 clear hr0_2 hc0_2
 have HR0_8 := Aside0.mk hr0_8
 have HC0_8 := Aside0.mk hc0_8
 clear hr0_8 hc0_8
 have HB := Aside0.mk (Below.refl w.heap.size w)
 have H := h
 clear h
 unfold impl_LitSpans.f at H
 replace H := Option.bind_eq_some_iff.mp H
 obtain ⟨t356, A50, H⟩ := H
 have A5 := Aside0.mk A50
 clear A50
 obtain rfl := Option.some.inj H
 go_enter Try.func23, Try.ntmps23
 go_wp2_with (first | ((with_reducible refine gate_dst (N := 4) rfl ?_); refine box_event ?hg (N := 4) ?hd (cs := #[.int .i64 a0_0, .slice A0_1 l0_1.length c0_1, .slice A0_2 l0_2.length c0_2, .int .i64 a0_3, .int .i64 a0_4, .int .i64 a0_5, .int .i64 a0_6, .int .i64 a0_7, .slice A0_8 l0_8.length c0_8, .int .i64 a0_9]) (t := 33) ?hr ?_; (case hd => rfl); (case hg => rfl); (case hr => first | (go_simp; done) | (go_simp; rfl)); intro gx4 hg wx4 hbox hb; have n0_ := Aside0.mk (below_step HB.out hb); clear HB; have HB := n0_; clear n0_; have BK4_ := Aside0.mk hbox; clear hb hg hbox) | ((with_reducible refine gate_dst (N := 5) rfl ?_); refine box_event ?hg (N := 5) ?hd (cs := #[.int .i64 a1]) (t := 3) ?hr ?_; (case hd => rfl); (case hg => rfl); (case hr => first | (go_simp; done) | (go_simp; rfl)); intro gx5 hg wx5 hbox hb; have n0_ := Aside0.mk (below_step HB.out hb); have BKn4_ := Aside0.mk (blk_below BK4_.out hb); clear BK4_; have BK4_ := BKn4_; clear BKn4_; clear HB; have HB := n0_; clear n0_; have BK5_ := Aside0.mk hbox; clear hb hg hbox) | ((with_reducible refine gate_callee (f := 41) rfl ?_); refine goesL_ (some 12) rfl rfl Try.func41 (by kernel_rfl) rfl #[.int .i64 a2, .int .i64 a3, .func (.func 51) #[] #[.pointer (some ⟨gx4, 0, none⟩), .pointer (some ⟨gx5, 0, none⟩)]] rfl mp_ ?_; (with_reducible refine (where_impl_LitSpans_1.calls k a2 a3 a0_0 _ _ l0_1 _ _ l0_2 a0_3 a0_4 a0_5 a0_6 a0_7 _ _ l0_8 a0_9 a1 t356 _ gx4 BK4_.out gx5 BK5_.out ?side1 ?side2 ?side3 ?side4 ?side5 ?side6 A5.out).mono ?_); (case side1 => exact ck_ HR0_1 HB); (case side2 => exact HC0_1.out); (case side3 => exact ck_ HR0_2 HB); (case side4 => exact HC0_2.out); (case side5 => exact ck_ HR0_8 HB); (case side6 => exact HC0_8.out); rintro e w6 ⟨v357, rfl, ho0, hb⟩; refine ⟨_, rfl, ?_⟩; have n0_ := Aside0.mk (Kd.R_lower ho0 (below_size (bl_ HB))); have n1_ := Aside0.mk (below_step (bl_ HB) hb); clear HB; have HO358 := n0_; have HB := n1_; clear n0_ n1_; (try clear hb); (try clear hb2); (try clear hk); (try clear hi); (try clear ho0)))
 go_ret
 exact ⟨_, by first | rfl | (simp [errW_none, errW_some] <;> rfl) | (simp [*, errW_none, errW_some] <;> rfl), by (with_reducible repeat (first | apply Kd.R_alloc | apply Kd.R_drewN | apply Kd.R_drew)); exact HO358.out, by repeat (first | (with_reducible first | exact HB.out | apply below_alloc | apply pw_below_drewN | apply below_drew1) | exact HB.out)⟩

end Go.Proofs.Ytikklalaggkdoaa.PFnExactLitSpans
