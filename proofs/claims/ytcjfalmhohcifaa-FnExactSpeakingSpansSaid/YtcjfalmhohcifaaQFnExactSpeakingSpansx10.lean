-- Written by a program of this session for this claim (the kit's printer with changes).
import Derived.Test.YtcjfalmhohcifaaQFnExactSpeakingSpansx0
import Derived.Test.YtcjfalmhohcifaaQFnExactSpeakingSpansx5
import Derived.Test.YtcjfalmhohcifaaQFnExactSpeakingSpansx6
import Derived.Test.YtcjfalmhohcifaaQFnExactSpeakingSpansx9
namespace Go.Proofs.Ytcjfalmhohcifaa.PFnExactSpeakingSpans
open Go.RowKit Go.Proofs.YtcjfalmhohcifaaW.PrintWords Go.Proofs.YtcjfalmhohcifaaW.PrintLast Go.Proofs.YtcjfalmhohcifaaW.PrintMore
attribute [local go_sem] max2_int min2_int max_two min_two max_three min_three max_four min_four   -- for this text's walks alone
set_option linter.unusedVariables false
set_option linter.unusedSimpArgs false

/-! ### impl_MayDisturb: function 89 -/
def impl_MayDisturb.l0 : Nat → Int → List (S115) → Int → Int → Int → List (S105) → List (S109) → Int → Int → Int → Int → Int → List (S115) → Int → Int → Int → Option (Bool)
 | 0, _, _, _, _, _, _, _, _, _, _, _, _, _, _, _, _ => none
 | k + 1, x1, x19, x20, x21, x452000, x452001, x452002, x452003, x452004, x452005, x452006, x452007, x452008, x452009, x456000, x456001 => if x21 < x20 then (if 0 ≤ x21 then (if x21 < (x19.length : Int) then (if 0 ≤ x1 then (if x1 < (x452001.length : Int) then (if ((rd_T115 x19 x21).f0) = ((rd_T105 x452001 x1).f0) then ((impl_ArcsMeet.f k x456000 x456001 ((rd_T115 x19 x21).f1.f0) ((rd_T115 x19 x21).f1.f1)).bind fun t459 => (if t459 = true then (some true) else (impl_MayDisturb.l0 k x1 x19 x20 (wrap64 (x21 + 1)) x452000 x452001 x452002 x452003 x452004 x452005 x452006 x452007 x452008 x452009 x456000 x456001))) else (impl_MayDisturb.l0 k x1 x19 x20 (wrap64 (x21 + 1)) x452000 x452001 x452002 x452003 x452004 x452005 x452006 x452007 x452008 x452009 x456000 x456001)) else (none)) else (none)) else (none)) else (none)) else (some false)
def impl_MayDisturb.f (k : Nat) (a0_0 : Int) (l0_1 : List (S105)) (l0_2 : List (S109)) (a0_3 : Int) (a0_4 : Int) (a0_5 : Int) (a0_6 : Int) (a0_7 : Int) (l0_8 : List (S115)) (a0_9 : Int) (a1 : Int) (a2 : Int) : Option (Bool) := (impl_isSatellite.f a0_0 l0_1 l0_2 a0_3 a0_4 a0_5 a0_6 a0_7 l0_8 a0_9 a1).bind fun t452 => (if t452 = true then ((impl_NodeAt.f a0_0 l0_1 l0_2 a0_3 a0_4 a0_5 a0_6 a0_7 l0_8 a0_9 a1 a2).bind fun bt453 => (impl_MayDisturb.l0 k a1 l0_8 (l0_8.length : Int) 0 a0_0 l0_1 l0_2 a0_3 a0_4 a0_5 a0_6 a0_7 l0_8 a0_9 bt453.1 bt453.2)) else (some false))
theorem impl_MayDisturb.mono_l : ∀ k, (∀ y0 y1 y2 y3 y4 y5 y6 y7 y8 y9 y10 y11 y12 y13 y14 y15, LeO (impl_MayDisturb.l0 k y0 y1 y2 y3 y4 y5 y6 y7 y8 y9 y10 y11 y12 y13 y14 y15) (impl_MayDisturb.l0 (k + 1) y0 y1 y2 y3 y4 y5 y6 y7 y8 y9 y10 y11 y12 y13 y14 y15))
 | 0 => fun _ _ _ _ _ _ _ _ _ _ _ _ _ _ _ _ r h => by simp [impl_MayDisturb.l0] at h
 | k + 1 => by
  have ih0 := impl_MayDisturb.mono_l k
  ·intro y0 y1 y2 y3 y4 y5 y6 y7 y8 y9 y10 y11 y12 y13 y14 y15
   unfold impl_MayDisturb.l0
   repeat' first | (with_reducible first | exact ih0 _ _ _ _ _ _ _ _ _ _ _ _ _ _ _ _ | exact impl_ArcsMeet.mono _ _ _ _ _ | exact LeO.refl _ | exact LeO.none _ | refine LeO.ite ?_ ?_ | refine LeO.bind ?_ (fun _ => ?_)) | exact LeO.none _ | refine LeO.ite ?_ ?_ | refine LeO.bind ?_ (fun _ => ?_)
theorem impl_MayDisturb.mono : ∀ a0 a1 a2 a3 a4 a5 a6 a7 a8 a9 a10 a11 k, LeO (impl_MayDisturb.f k a0 a1 a2 a3 a4 a5 a6 a7 a8 a9 a10 a11) (impl_MayDisturb.f (k + 1) a0 a1 a2 a3 a4 a5 a6 a7 a8 a9 a10 a11) := by
 intro a0 a1 a2 a3 a4 a5 a6 a7 a8 a9 a10 a11 k
 have ih0 := impl_MayDisturb.mono_l k
 unfold impl_MayDisturb.f
 repeat' first | (with_reducible first | exact ih0 _ _ _ _ _ _ _ _ _ _ _ _ _ _ _ _ | exact impl_ArcsMeet.mono _ _ _ _ _ | exact LeO.refl _ | exact LeO.none _ | refine LeO.ite ?_ ?_ | refine LeO.bind ?_ (fun _ => ?_)) | exact LeO.none _ | refine LeO.ite ?_ ?_ | refine LeO.bind ?_ (fun _ => ?_)
def impl_MayDisturb.T7 : Bool × List (List Nat × List Nat) := (true, [([], []), ([0], [0]), ([], []), ([2], [2]), ([], []), ([3, 4], [3, 4]), ([5], [5]), ([6], [6]), ([1, 7], [1, 7]), ([8], [8]), ([9], [9]), ([9], [9]), ([11, 9], [9, 11]), ([10, 12, 9, 9], [9, 10, 12]), ([9, 13], [9, 13])])
def impl_MayDisturb.B7 : List Nat := [0, 1, 0, 4, 0, 28, 60, 124, 255, 511, 1023, 1023, 3071, 8191, 16383]
theorem impl_MayDisturb.tab7 : rtab .any (opsOf Try.f89 7) = impl_MayDisturb.T7 := by kernel_rfl
theorem impl_MayDisturb.bits7 : waitsOk impl_MayDisturb.T7.2 impl_MayDisturb.B7 = true := by kernel_rfl
set_option maxHeartbeats 8000000 in
set_option maxRecDepth 100000 in
theorem impl_MayDisturb.calls (k : Nat) (a0_0 : Int) (A0_1 : Option Addr) (c0_1 : Nat) (l0_1 : List (S105)) (A0_2 : Option Addr) (c0_2 : Nat) (l0_2 : List (S109)) (a0_3 : Int) (a0_4 : Int) (a0_5 : Int) (a0_6 : Int) (a0_7 : Int) (A0_8 : Option Addr) (c0_8 : Nat) (l0_8 : List (S115)) (a0_9 : Int) (a1 : Int) (a2 : Int) (r : Bool) (w : World) (hr0_1 : Kd.C k105 w A0_1 l0_1.length l0_1) (hc0_1 : l0_1.length ≤ c0_1) (hr0_2 : Kd.C k109 w A0_2 l0_2.length l0_2) (hc0_2 : l0_2.length ≤ c0_2) (hr0_8 : Kd.C k115 w A0_8 l0_8.length l0_8) (hc0_8 : l0_8.length ≤ c0_8) (h : impl_MayDisturb.f k a0_0 l0_1 l0_2 a0_3 a0_4 a0_5 a0_6 a0_7 l0_8 a0_9 a1 a2 = some r) :
  Calls Try.prog 89 #[.agg #[.int .i64 a0_0, .slice A0_1 l0_1.length c0_1, .slice A0_2 l0_2.length c0_2, .int .i64 a0_3, .int .i64 a0_4, .int .i64 a0_5, .int .i64 a0_6, .int .i64 a0_7, .slice A0_8 l0_8.length c0_8, .int .i64 a0_9], .int .i64 a1, .int .i64 a2] w fun e w' => e = .returned (.bool r) ∧ Below w.heap.size w w' := by
 have hu34 := Try.underlying34
 have hu113 := Try.underlying113
 have hu115 := Try.underlying115
 have HR0_1 := Aside0.mk hr0_1
 have HC0_1 := Aside0.mk hc0_1
 clear hr0_1 hc0_1
 have HR0_2 := Aside0.mk hr0_2
 have HC0_2 := Aside0.mk hc0_2
 clear hr0_2 hc0_2
 have HR0_8 := Aside0.mk hr0_8
 have HC0_8 := Aside0.mk hc0_8
 clear hr0_8 hc0_8
 have HB := Aside0.mk (Below.refl w.heap.size w)
 have H := h
 clear h
 unfold impl_MayDisturb.f at H
 replace H := bs_ H
 obtain ⟨t452, A4, H⟩ := H
 by_cases c5 : t452 = true
 ·subst c5
  rw [if_pos rfl] at H
  replace H := bs_ H
  obtain ⟨⟨t453, t454⟩, A6, H⟩ := H
  dsimp only at H
  have H' := Aside0.mk H
  clear H
  go_enter Try.func89, Try.ntmps89
  go_wp2_with (first | ((with_reducible refine gd_ 3 ?_); refine bx_ 3 34 #[.int .i64 a0_0, .slice A0_1 l0_1.length c0_1, .slice A0_2 l0_2.length c0_2, .int .i64 a0_3, .int .i64 a0_4, .int .i64 a0_5, .int .i64 a0_6, .int .i64 a0_7, .slice A0_8 l0_8.length c0_8, .int .i64 a0_9] ?_; intro gb451 hg w7 hbox hb; refine sh3_ (below_step (bl_ HB) hb) hbox (ge_ hg (bl_ HB)) ?_; clear HB hb hbox hg; intro HB BK451 GE451; have hcz8 := cf10_ BK451) | ((with_reducible refine gate_callee (f := 105) rfl ?_); refine gl_ 12 Try.func105 (impl_isSatellite.calls a0_0 _ _ l0_1 _ _ l0_2 a0_3 a0_4 a0_5 a0_6 a0_7 _ _ l0_8 a0_9 a1 true _ (ck_ HR0_1 HB) HC0_1.out (ck_ HR0_2 HB) HC0_2.out (ck_ HR0_8 HB) HC0_8.out A4.out) ?_; rintro e w9 ⟨rfl, hb⟩; refine ⟨_, rfl, sh2_ (blk_below (bk_ BK451) hb) (below_step (bl1_ HB GE451) hb) ?_⟩; clear BK451 HB hb; intro BK451 HB; have hcz10 := cf10_ BK451) | ((with_reducible refine gate_callee (f := 106) rfl ?_); refine gl_ 17 Try.func106 (impl_NodeAt.calls a0_0 _ _ l0_1 _ _ l0_2 a0_3 a0_4 a0_5 a0_6 a0_7 _ _ l0_8 a0_9 a1 a2 t453 t454 _ (ck_ HR0_1 HB) HC0_1.out (ck_ HR0_2 HB) HC0_2.out (ck_ HR0_8 HB) HC0_8.out A6.out) ?_; rintro e w11 ⟨rfl, hb⟩; refine ⟨_, rfl, sh2_ (blk_below (bk_ BK451) hb) (below_step (bl1_ HB GE451) hb) ?_⟩; clear BK451 HB hb; intro BK451 HB) | ((with_reducible refine gd_ 7 ?_); refine bx_ 7 113 #[.int .i64 0, .int .i64 0] ?_; intro gb455 hg w12 hbox hb; refine sh6_ (blk_below (bk_ BK451) hb) (below_step (bl1_ HB GE451) hb) hbox (ge_ hg (bl1_ HB GE451)) (nl_ hg (bk_ BK451)) (ng_ hg (bk_ BK451)) ?_; clear BK451 HB hb hbox hg; intro BK451 HB BK455 GE455 NB451_455 NB455_451; have hnb13 := NB455_451.out; have hnc13 := NB451_455.out; have hcz14 := cf2_ BK455; have hcz15 := cf10_ BK451))
  go_loopg [21] k (fun kq v21 w' => ∃ (x21_1 : Int), v21 = .int .i64 x21_1 ∧ Aside0 (impl_MayDisturb.l0 kq a1 l0_8 (l0_8.length : Int) x21_1 a0_0 l0_1 l0_2 a0_3 a0_4 a0_5 a0_6 a0_7 l0_8 a0_9 t453 t454 = some r) ∧ Aside0 (kq ≤ k) ∧ Aside0 (w'.heap[gb451]? = some (.cells #[.int .i64 a0_0, (.slice A0_1 l0_1.length c0_1), (.slice A0_2 l0_2.length c0_2), .int .i64 a0_3, .int .i64 a0_4, .int .i64 a0_5, .int .i64 a0_6, .int .i64 a0_7, (.slice A0_8 l0_8.length c0_8), .int .i64 a0_9] 34 (0, 0))) ∧ Aside0 (w'.heap[gb455]? = some (.cells #[.int .i64 t453, .int .i64 t454] 113 (0, 0))) ∧ Aside0 (Below w.heap.size w w'))
  case atStart => exact ⟨(0), (by first | rfl | (simp; done) | (simp [*]; done)), H', ⟨Nat.le_refl _⟩, ⟨by (with_reducible repeat (first | refine blk_drewN ?_ _ | refine blk_drew ?_ | refine blk_alloc ?_ _)); refine blk_far ?_ NB451_455.out _; (with_reducible repeat (first | refine blk_drewN ?_ _ | refine blk_drew ?_ | refine blk_alloc ?_ _)); refine blk_far ?_ NB451_455.out _; (with_reducible repeat (first | refine blk_drewN ?_ _ | refine blk_drew ?_ | refine blk_alloc ?_ _)); exact BK451.out⟩, ⟨by (with_reducible repeat (first | refine blk_drewN ?_ _ | refine blk_drew ?_ | refine blk_alloc ?_ _)); refine blk_put (cs := #[.int .i64 t453, .int .i64 0]) ?_ 1 _ rfl; (with_reducible repeat (first | refine blk_drewN ?_ _ | refine blk_drew ?_ | refine blk_alloc ?_ _)); refine blk_put (cs := #[.int .i64 0, .int .i64 0]) ?_ 0 _ rfl; (with_reducible repeat (first | refine blk_drewN ?_ _ | refine blk_drew ?_ | refine blk_alloc ?_ _)); exact BK455.out⟩, ⟨bl2_ HB GE451 GE455⟩⟩
  case round =>
   clear H'
   try clear c1
   try clear p2
   try clear c5
   try clear c8
   try clear c10
   try clear c13
   try clear hcz10
   try clear hcz14
   try clear hcz15
   try clear hcz8
   obtain ⟨x21_1, rfl, HA, HK1, BK451, BK455, HB⟩ := hrel
   cases gk with
   | zero => exact absurd HA.out (by simp [impl_MayDisturb.l0])
   | succ k1 =>
    have H := HA.out
    clear HA
    simp only [impl_MayDisturb.l0] at H
    by_cases c16 : x21_1 < (l0_8.length : Int)
    ·rw [if_pos c16] at H
     have c16b0 := decide_eq_true c16
     clear c16
     replace H := ifn_ H
     obtain ⟨c17, H⟩ := H
     have c17b0 := decide_eq_true c17
     clear c17
     replace H := ifn_ H
     obtain ⟨c18, H⟩ := H
     have c18b0 := decide_eq_true c18
     clear c18
     replace H := ifn_ H
     obtain ⟨c19, H⟩ := H
     have c19b0 := decide_eq_true c19
     clear c19
     replace H := ifn_ H
     obtain ⟨c20, H⟩ := H
     have c20b0 := decide_eq_true c20
     clear c20
     by_cases c21 : ((rd_T115 l0_8 x21_1).f0) = ((rd_T105 l0_1 a1).f0)
     ·rw [if_pos c21] at H
      obtain ⟨c21b0, c21b1⟩ := bt_ c21
      clear c21
      replace H := bs_ H
      obtain ⟨t459, A22, H⟩ := H
      by_cases c23 : t459 = true
      ·subst c23
       rw [if_pos rfl] at H
       obtain rfl := Option.some.inj H
       have p456 : 0 ≤ (x21_1 : Int) := od_
       have q456 : x21_1 < (l0_8.length : Int) := od_
       obtain ⟨ad456, e456, hx456_0, hx456_1, hx456_2⟩ := at_T115 HR0_8.out x21_1 p456 q456
       cases e456
       replace hx456_0 := hbc_ HB hx456_0
       replace hx456_1 := hbc_ HB hx456_1
       replace hx456_2 := hbc_ HB hx456_2
       replace p456 := eq_true p456
       replace q456 := eq_true q456
       try go_wp2_with (first | ((with_reducible refine gd_ 9 ?_); refine bx_ 9 115 #[.int .i64 0, .int .i64 0, .int .i64 0] ?_; intro gb457 hg w24 hbox hb; refine sh9_ (blk_below (bk_ BK451) hb) (blk_below (bk_ BK455) hb) (below_step (bl2_ HB GE451 GE455) hb) hbox (ge_ hg (bl2_ HB GE451 GE455)) (nl_ hg (bk_ BK451)) (ng_ hg (bk_ BK451)) (nl_ hg (bk_ BK455)) (ng_ hg (bk_ BK455)) ?_; clear BK451 BK455 HB hb hbox hg; intro BK451 BK455 HB BK457 GE457 NB451_457 NB457_451 NB455_457 NB457_455; have hnb25 := NB457_451.out; have hnc25 := NB451_457.out; have hnb26 := NB457_455.out; have hnc26 := NB455_457.out; have hcz27 := cf3_ BK457))
       have n0_ : Aside0 ((((w24.setCell ⟨gb457, 0, none⟩ (.int .i64 ((rd_T115 l0_8 x21_1).f0))).setCell ⟨gb457, 1, none⟩ (.int .i64 ((rd_T115 l0_8 x21_1).f1.f0))).setCell ⟨gb457, 2, none⟩ (.int .i64 ((rd_T115 l0_8 x21_1).f1.f1))).heap[gb451]? = some (.cells #[.int .i64 a0_0, .slice A0_1 l0_1.length c0_1, .slice A0_2 l0_2.length c0_2, .int .i64 a0_3, .int .i64 a0_4, .int .i64 a0_5, .int .i64 a0_6, .int .i64 a0_7, .slice (some ad456) l0_8.length c0_8, .int .i64 a0_9] 34 (0, 0))) := ⟨by (with_reducible repeat (first | refine blk_drewN ?_ _ | refine blk_drew ?_ | refine blk_alloc ?_ _)); refine blk_far ?_ NB451_457.out _; (with_reducible repeat (first | refine blk_drewN ?_ _ | refine blk_drew ?_ | refine blk_alloc ?_ _)); refine blk_far ?_ NB451_457.out _; (with_reducible repeat (first | refine blk_drewN ?_ _ | refine blk_drew ?_ | refine blk_alloc ?_ _)); refine blk_far ?_ NB451_457.out _; (with_reducible repeat (first | refine blk_drewN ?_ _ | refine blk_drew ?_ | refine blk_alloc ?_ _)); exact BK451.out⟩
       have n1_ : Aside0 ((((w24.setCell ⟨gb457, 0, none⟩ (.int .i64 ((rd_T115 l0_8 x21_1).f0))).setCell ⟨gb457, 1, none⟩ (.int .i64 ((rd_T115 l0_8 x21_1).f1.f0))).setCell ⟨gb457, 2, none⟩ (.int .i64 ((rd_T115 l0_8 x21_1).f1.f1))).heap[gb455]? = some (.cells #[.int .i64 t453, .int .i64 t454] 113 (0, 0))) := ⟨by (with_reducible repeat (first | refine blk_drewN ?_ _ | refine blk_drew ?_ | refine blk_alloc ?_ _)); refine blk_far ?_ NB455_457.out _; (with_reducible repeat (first | refine blk_drewN ?_ _ | refine blk_drew ?_ | refine blk_alloc ?_ _)); refine blk_far ?_ NB455_457.out _; (with_reducible repeat (first | refine blk_drewN ?_ _ | refine blk_drew ?_ | refine blk_alloc ?_ _)); refine blk_far ?_ NB455_457.out _; (with_reducible repeat (first | refine blk_drewN ?_ _ | refine blk_drew ?_ | refine blk_alloc ?_ _)); exact BK455.out⟩
       have n2_ : Aside0 ((((w24.setCell ⟨gb457, 0, none⟩ (.int .i64 ((rd_T115 l0_8 x21_1).f0))).setCell ⟨gb457, 1, none⟩ (.int .i64 ((rd_T115 l0_8 x21_1).f1.f0))).setCell ⟨gb457, 2, none⟩ (.int .i64 ((rd_T115 l0_8 x21_1).f1.f1))).heap[gb457]? = some (.cells #[.int .i64 ((rd_T115 l0_8 x21_1).f0), .int .i64 ((rd_T115 l0_8 x21_1).f1.f0), .int .i64 ((rd_T115 l0_8 x21_1).f1.f1)] 115 (0, 0))) := ⟨by (with_reducible repeat (first | refine blk_drewN ?_ _ | refine blk_drew ?_ | refine blk_alloc ?_ _)); refine blk_put (cs := #[.int .i64 ((rd_T115 l0_8 x21_1).f0), .int .i64 ((rd_T115 l0_8 x21_1).f1.f0), .int .i64 0]) ?_ 2 _ rfl; (with_reducible repeat (first | refine blk_drewN ?_ _ | refine blk_drew ?_ | refine blk_alloc ?_ _)); refine blk_put (cs := #[.int .i64 ((rd_T115 l0_8 x21_1).f0), .int .i64 0, .int .i64 0]) ?_ 1 _ rfl; (with_reducible repeat (first | refine blk_drewN ?_ _ | refine blk_drew ?_ | refine blk_alloc ?_ _)); refine blk_put (cs := #[.int .i64 0, .int .i64 0, .int .i64 0]) ?_ 0 _ rfl; (with_reducible repeat (first | refine blk_drewN ?_ _ | refine blk_drew ?_ | refine blk_alloc ?_ _)); exact BK457.out⟩
       have n3_ : Aside0 (Below w.heap.size w (((w24.setCell ⟨gb457, 0, none⟩ (.int .i64 ((rd_T115 l0_8 x21_1).f0))).setCell ⟨gb457, 1, none⟩ (.int .i64 ((rd_T115 l0_8 x21_1).f1.f0))).setCell ⟨gb457, 2, none⟩ (.int .i64 ((rd_T115 l0_8 x21_1).f1.f1)))) := ⟨bl3_ HB GE451 GE455 GE457⟩
       (try clear BK451)
       (try clear BK455)
       (try clear BK457)
       (try clear HB)
       generalize (((w24.setCell ⟨gb457, 0, none⟩ (.int .i64 ((rd_T115 l0_8 x21_1).f0))).setCell ⟨gb457, 1, none⟩ (.int .i64 ((rd_T115 l0_8 x21_1).f1.f0))).setCell ⟨gb457, 2, none⟩ (.int .i64 ((rd_T115 l0_8 x21_1).f1.f1))) = w28 at n0_ n1_ n2_ n3_ ⊢
       have BK451 := n0_
       have BK455 := n1_
       have BK457 := n2_
       have HB := n3_
       clear n0_ n1_ n2_ n3_
       refine sh4_ (blk_drew BK451.out) (blk_drew BK455.out) (blk_drew BK457.out) (below_drew1 HB.out) ?_
       clear BK451 BK455 BK457 HB
       intro BK451 BK455 BK457 HB
       have p458 : 0 ≤ (a1 : Int) := od_
       have q458 : a1 < (l0_1.length : Int) := od_
       obtain ⟨ad458, e458, hx458_0, hx458_1, hx458_2, hx458_3⟩ := at_T105 HR0_1.out a1 p458 q458
       have hw458_3 := hx458_3
       have hw458_2 := hx458_2
       have hw458_1 := hx458_1
       have hw458_0 := hx458_0
       cases e458
       replace hx458_0 := hbc_ HB hx458_0
       replace hx458_1 := hbc_ HB hx458_1
       replace hx458_2 := hbc_ HB hx458_2
       replace hx458_3 := hbc_ HB hx458_3
       replace p458 := eq_true p458
       replace q458 := eq_true q458
       refine start_ (n := 15) (S := fun w' => Ck3 w' gb457 (.int .i64 ((rd_T115 l0_8 x21_1).f0)) (.int .i64 ((rd_T115 l0_8 x21_1).f1.f0)) (.int .i64 ((rd_T115 l0_8 x21_1).f1.f1)) (Ck10 w' gb451 (.int .i64 a0_0) (.slice (some ad458) l0_1.length c0_1) (.slice A0_2 l0_2.length c0_2) (.int .i64 a0_3) (.int .i64 a0_4) (.int .i64 a0_5) (.int .i64 a0_6) (.int .i64 a0_7) (.slice (some ad456) l0_8.length c0_8) (.int .i64 a0_9) (Ck2 w' gb455 (.int .i64 t453) (.int .i64 t454) (w'.cell? (ad458.add ((a1).toNat * 4)) = some (.int .i64 ((rd_T105 l0_1 a1).f0)) ∧ w'.cell? ⟨(ad458.add ((a1).toNat * 4)).block, (ad458.add ((a1).toNat * 4)).off + 1, none⟩ = some (.int .i64 ((rd_T105 l0_1 a1).f1)) ∧ w'.cell? ⟨(ad458.add ((a1).toNat * 4)).block, (ad458.add ((a1).toNat * 4)).off + 2, none⟩ = some (.int .i64 ((rd_T105 l0_1 a1).f2)) ∧ w'.cell? ⟨(ad458.add ((a1).toNat * 4)).block, (ad458.add ((a1).toNat * 4)).off + 3, none⟩ = some (.int .i64 ((rd_T105 l0_1 a1).f3)))))) (ds := []) #[false, false, false, false, false, false, false, false, false, false, false, false, false, false, false] (by kernel_rfl) rfl rfl ⟨(bc_ BK457 0 rfl), (bc_ BK457 1 rfl), (bc_ BK457 2 rfl), (bc_ BK451 0 rfl), (bc_ BK451 1 rfl), (bc_ BK451 2 rfl), (bc_ BK451 3 rfl), (bc_ BK451 4 rfl), (bc_ BK451 5 rfl), (bc_ BK451 6 rfl), (bc_ BK451 7 rfl), (bc_ BK451 8 rfl), (bc_ BK451 9 rfl), (bc_ BK455 0 rfl), (bc_ BK455 1 rfl), ((HB.out.cell (World.block_lt_of_cell? w _ hw458_0)).trans hw458_0), ((HB.out.cell (World.block_lt_of_cell? w _ hw458_1)).trans hw458_1), ((HB.out.cell (World.block_lt_of_cell? w _ hw458_2)).trans hw458_2), ((HB.out.cell (World.block_lt_of_cell? w _ hw458_3)).trans hw458_3)⟩ (fun hHeld => ?_); refine with_tabW impl_MayDisturb.tab7 impl_MayDisturb.bits7 (fun HT_ HW_ => ?_)
       generalize w28.drew = w29 at BK451 BK455 BK457 HB hx458_0 hx458_1 hx458_2 hx458_3 hHeld ⊢
       refine pur_ 0 #[true, false, false, false, false, false, false, false, false, false, false, false, false, false, false] (some 25) HT_ ?_
       refine pur_ 2 #[true, false, true, false, false, false, false, false, false, false, false, false, false, false, false] (some 27) HT_ ?_
       refine pur_ 4 #[true, false, true, false, true, false, false, false, false, false, false, false, false, false, false] (some 29) HT_ ?_
       refine tak_ 1 #[true, true, true, false, true, false, false, false, false, false, false, false, false, false, false] (some 26) HT_ HW_ hHeld ?_
       refine tak_ 3 #[true, true, true, true, true, false, false, false, false, false, false, false, false, false, false] (some 28) HT_ HW_ hHeld ?_
       refine pur_ 5 #[true, true, true, true, true, true, false, false, false, false, false, false, false, false, false] (some 30) HT_ ?_
       refine pur_ 6 #[true, true, true, true, true, true, true, false, false, false, false, false, false, false, false] (some 31) HT_ ?_
       refine tak_ 7 #[true, true, true, true, true, true, true, true, false, false, false, false, false, false, false] (some 32) HT_ HW_ hHeld ?_
       refine pur_ 8 #[true, true, true, true, true, true, true, true, true, false, false, false, false, false, false] (some 33) HT_ ?_
       refine pur_ 9 #[true, true, true, true, true, true, true, true, true, true, false, false, false, false, false] (some 34) HT_ ?_
       refine pur_ 11 #[true, true, true, true, true, true, true, true, true, true, false, true, false, false, false] (some 36) HT_ ?_
       refine tak_ 10 #[true, true, true, true, true, true, true, true, true, true, true, true, false, false, false] (some 35) HT_ HW_ hHeld ?_
       refine tak_ 12 #[true, true, true, true, true, true, true, true, true, true, true, true, true, false, false] (some 37) HT_ HW_ hHeld ?_
       refine onc_ 13 #[true, true, true, true, true, true, true, true, true, true, true, true, true, true, false] (some 38) HT_ Try.func107 (impl_ArcsMeet.calls k1 t453 t454 ((rd_T115 l0_8 x21_1).f1.f0) ((rd_T115 l0_8 x21_1).f1.f1) true _ A22.out) ?_
       rintro e w30 ⟨rfl, hb⟩
       refine sh4_ (blk_below (bk_ BK451) hb) (blk_below (bk_ BK455) hb) (blk_below (bk_ BK457) hb) (below_step (bl3_ HB GE451 GE455 GE457) hb) ?_
       clear BK451 BK455 BK457 HB hb
       intro BK451 BK455 BK457 HB
       refine ⟨_, _, rfl, ⟨(bc_ BK457 0 rfl), (bc_ BK457 1 rfl), (bc_ BK457 2 rfl), (bc_ BK451 0 rfl), (bc_ BK451 1 rfl), (bc_ BK451 2 rfl), (bc_ BK451 3 rfl), (bc_ BK451 4 rfl), (bc_ BK451 5 rfl), (bc_ BK451 6 rfl), (bc_ BK451 7 rfl), (bc_ BK451 8 rfl), (bc_ BK451 9 rfl), (bc_ BK455 0 rfl), (bc_ BK455 1 rfl), ((HB.out.cell (World.block_lt_of_cell? w _ hw458_0)).trans hw458_0), ((HB.out.cell (World.block_lt_of_cell? w _ hw458_1)).trans hw458_1), ((HB.out.cell (World.block_lt_of_cell? w _ hw458_2)).trans hw458_2), ((HB.out.cell (World.block_lt_of_cell? w _ hw458_3)).trans hw458_3)⟩, pt_, fun hHeld => ?_⟩
       refine pur_ 14 #[true, true, true, true, true, true, true, true, true, true, true, true, true, true, true] (some 39) HT_ ?_
       refine done_ (done_of HT_.out (by kernel_rfl)) ?_
       try go_wp2
       go_ret
       exact ⟨er_, bl3_ HB GE451 GE455 GE457⟩
      ·replace c23 := Bool.eq_false_iff.mpr c23
       subst c23
       have H1 : (impl_MayDisturb.l0 k1 a1 l0_8 (l0_8.length : Int) (wrap64 (x21_1 + 1)) a0_0 l0_1 l0_2 a0_3 a0_4 a0_5 a0_6 a0_7 l0_8 a0_9 t453 t454) = some r := by rw [if_neg (show ¬ (false = true) by decide)] at H; exact H
       clear H
       have H := H1
       clear H1
       have H' := Aside0.mk H
       clear H
       have p456 : 0 ≤ (x21_1 : Int) := od_
       have q456 : x21_1 < (l0_8.length : Int) := od_
       obtain ⟨ad456, e456, hx456_0, hx456_1, hx456_2⟩ := at_T115 HR0_8.out x21_1 p456 q456
       cases e456
       replace hx456_0 := hbc_ HB hx456_0
       replace hx456_1 := hbc_ HB hx456_1
       replace hx456_2 := hbc_ HB hx456_2
       replace p456 := eq_true p456
       replace q456 := eq_true q456
       try go_wp2_with (first | ((with_reducible refine gd_ 9 ?_); refine bx_ 9 115 #[.int .i64 0, .int .i64 0, .int .i64 0] ?_; intro gb457 hg w31 hbox hb; refine sh9_ (blk_below (bk_ BK451) hb) (blk_below (bk_ BK455) hb) (below_step (bl2_ HB GE451 GE455) hb) hbox (ge_ hg (bl2_ HB GE451 GE455)) (nl_ hg (bk_ BK451)) (ng_ hg (bk_ BK451)) (nl_ hg (bk_ BK455)) (ng_ hg (bk_ BK455)) ?_; clear BK451 BK455 HB hb hbox hg; intro BK451 BK455 HB BK457 GE457 NB451_457 NB457_451 NB455_457 NB457_455; have hnb32 := NB457_451.out; have hnc32 := NB451_457.out; have hnb33 := NB457_455.out; have hnc33 := NB455_457.out; have hcz34 := cf3_ BK457))
       have n0_ : Aside0 ((((w31.setCell ⟨gb457, 0, none⟩ (.int .i64 ((rd_T115 l0_8 x21_1).f0))).setCell ⟨gb457, 1, none⟩ (.int .i64 ((rd_T115 l0_8 x21_1).f1.f0))).setCell ⟨gb457, 2, none⟩ (.int .i64 ((rd_T115 l0_8 x21_1).f1.f1))).heap[gb451]? = some (.cells #[.int .i64 a0_0, .slice A0_1 l0_1.length c0_1, .slice A0_2 l0_2.length c0_2, .int .i64 a0_3, .int .i64 a0_4, .int .i64 a0_5, .int .i64 a0_6, .int .i64 a0_7, .slice (some ad456) l0_8.length c0_8, .int .i64 a0_9] 34 (0, 0))) := ⟨by (with_reducible repeat (first | refine blk_drewN ?_ _ | refine blk_drew ?_ | refine blk_alloc ?_ _)); refine blk_far ?_ NB451_457.out _; (with_reducible repeat (first | refine blk_drewN ?_ _ | refine blk_drew ?_ | refine blk_alloc ?_ _)); refine blk_far ?_ NB451_457.out _; (with_reducible repeat (first | refine blk_drewN ?_ _ | refine blk_drew ?_ | refine blk_alloc ?_ _)); refine blk_far ?_ NB451_457.out _; (with_reducible repeat (first | refine blk_drewN ?_ _ | refine blk_drew ?_ | refine blk_alloc ?_ _)); exact BK451.out⟩
       have n1_ : Aside0 ((((w31.setCell ⟨gb457, 0, none⟩ (.int .i64 ((rd_T115 l0_8 x21_1).f0))).setCell ⟨gb457, 1, none⟩ (.int .i64 ((rd_T115 l0_8 x21_1).f1.f0))).setCell ⟨gb457, 2, none⟩ (.int .i64 ((rd_T115 l0_8 x21_1).f1.f1))).heap[gb455]? = some (.cells #[.int .i64 t453, .int .i64 t454] 113 (0, 0))) := ⟨by (with_reducible repeat (first | refine blk_drewN ?_ _ | refine blk_drew ?_ | refine blk_alloc ?_ _)); refine blk_far ?_ NB455_457.out _; (with_reducible repeat (first | refine blk_drewN ?_ _ | refine blk_drew ?_ | refine blk_alloc ?_ _)); refine blk_far ?_ NB455_457.out _; (with_reducible repeat (first | refine blk_drewN ?_ _ | refine blk_drew ?_ | refine blk_alloc ?_ _)); refine blk_far ?_ NB455_457.out _; (with_reducible repeat (first | refine blk_drewN ?_ _ | refine blk_drew ?_ | refine blk_alloc ?_ _)); exact BK455.out⟩
       have n2_ : Aside0 ((((w31.setCell ⟨gb457, 0, none⟩ (.int .i64 ((rd_T115 l0_8 x21_1).f0))).setCell ⟨gb457, 1, none⟩ (.int .i64 ((rd_T115 l0_8 x21_1).f1.f0))).setCell ⟨gb457, 2, none⟩ (.int .i64 ((rd_T115 l0_8 x21_1).f1.f1))).heap[gb457]? = some (.cells #[.int .i64 ((rd_T115 l0_8 x21_1).f0), .int .i64 ((rd_T115 l0_8 x21_1).f1.f0), .int .i64 ((rd_T115 l0_8 x21_1).f1.f1)] 115 (0, 0))) := ⟨by (with_reducible repeat (first | refine blk_drewN ?_ _ | refine blk_drew ?_ | refine blk_alloc ?_ _)); refine blk_put (cs := #[.int .i64 ((rd_T115 l0_8 x21_1).f0), .int .i64 ((rd_T115 l0_8 x21_1).f1.f0), .int .i64 0]) ?_ 2 _ rfl; (with_reducible repeat (first | refine blk_drewN ?_ _ | refine blk_drew ?_ | refine blk_alloc ?_ _)); refine blk_put (cs := #[.int .i64 ((rd_T115 l0_8 x21_1).f0), .int .i64 0, .int .i64 0]) ?_ 1 _ rfl; (with_reducible repeat (first | refine blk_drewN ?_ _ | refine blk_drew ?_ | refine blk_alloc ?_ _)); refine blk_put (cs := #[.int .i64 0, .int .i64 0, .int .i64 0]) ?_ 0 _ rfl; (with_reducible repeat (first | refine blk_drewN ?_ _ | refine blk_drew ?_ | refine blk_alloc ?_ _)); exact BK457.out⟩
       have n3_ : Aside0 (Below w.heap.size w (((w31.setCell ⟨gb457, 0, none⟩ (.int .i64 ((rd_T115 l0_8 x21_1).f0))).setCell ⟨gb457, 1, none⟩ (.int .i64 ((rd_T115 l0_8 x21_1).f1.f0))).setCell ⟨gb457, 2, none⟩ (.int .i64 ((rd_T115 l0_8 x21_1).f1.f1)))) := ⟨bl3_ HB GE451 GE455 GE457⟩
       (try clear BK451)
       (try clear BK455)
       (try clear BK457)
       (try clear HB)
       generalize (((w31.setCell ⟨gb457, 0, none⟩ (.int .i64 ((rd_T115 l0_8 x21_1).f0))).setCell ⟨gb457, 1, none⟩ (.int .i64 ((rd_T115 l0_8 x21_1).f1.f0))).setCell ⟨gb457, 2, none⟩ (.int .i64 ((rd_T115 l0_8 x21_1).f1.f1))) = w35 at n0_ n1_ n2_ n3_ ⊢
       have BK451 := n0_
       have BK455 := n1_
       have BK457 := n2_
       have HB := n3_
       clear n0_ n1_ n2_ n3_
       refine sh4_ (blk_drew BK451.out) (blk_drew BK455.out) (blk_drew BK457.out) (below_drew1 HB.out) ?_
       clear BK451 BK455 BK457 HB
       intro BK451 BK455 BK457 HB
       have p458 : 0 ≤ (a1 : Int) := od_
       have q458 : a1 < (l0_1.length : Int) := od_
       obtain ⟨ad458, e458, hx458_0, hx458_1, hx458_2, hx458_3⟩ := at_T105 HR0_1.out a1 p458 q458
       have hw458_3 := hx458_3
       have hw458_2 := hx458_2
       have hw458_1 := hx458_1
       have hw458_0 := hx458_0
       cases e458
       replace hx458_0 := hbc_ HB hx458_0
       replace hx458_1 := hbc_ HB hx458_1
       replace hx458_2 := hbc_ HB hx458_2
       replace hx458_3 := hbc_ HB hx458_3
       replace p458 := eq_true p458
       replace q458 := eq_true q458
       refine start_ (n := 15) (S := fun w' => Ck3 w' gb457 (.int .i64 ((rd_T115 l0_8 x21_1).f0)) (.int .i64 ((rd_T115 l0_8 x21_1).f1.f0)) (.int .i64 ((rd_T115 l0_8 x21_1).f1.f1)) (Ck10 w' gb451 (.int .i64 a0_0) (.slice (some ad458) l0_1.length c0_1) (.slice A0_2 l0_2.length c0_2) (.int .i64 a0_3) (.int .i64 a0_4) (.int .i64 a0_5) (.int .i64 a0_6) (.int .i64 a0_7) (.slice (some ad456) l0_8.length c0_8) (.int .i64 a0_9) (Ck2 w' gb455 (.int .i64 t453) (.int .i64 t454) (w'.cell? (ad458.add ((a1).toNat * 4)) = some (.int .i64 ((rd_T105 l0_1 a1).f0)) ∧ w'.cell? ⟨(ad458.add ((a1).toNat * 4)).block, (ad458.add ((a1).toNat * 4)).off + 1, none⟩ = some (.int .i64 ((rd_T105 l0_1 a1).f1)) ∧ w'.cell? ⟨(ad458.add ((a1).toNat * 4)).block, (ad458.add ((a1).toNat * 4)).off + 2, none⟩ = some (.int .i64 ((rd_T105 l0_1 a1).f2)) ∧ w'.cell? ⟨(ad458.add ((a1).toNat * 4)).block, (ad458.add ((a1).toNat * 4)).off + 3, none⟩ = some (.int .i64 ((rd_T105 l0_1 a1).f3)))))) (ds := []) #[false, false, false, false, false, false, false, false, false, false, false, false, false, false, false] (by kernel_rfl) rfl rfl ⟨(bc_ BK457 0 rfl), (bc_ BK457 1 rfl), (bc_ BK457 2 rfl), (bc_ BK451 0 rfl), (bc_ BK451 1 rfl), (bc_ BK451 2 rfl), (bc_ BK451 3 rfl), (bc_ BK451 4 rfl), (bc_ BK451 5 rfl), (bc_ BK451 6 rfl), (bc_ BK451 7 rfl), (bc_ BK451 8 rfl), (bc_ BK451 9 rfl), (bc_ BK455 0 rfl), (bc_ BK455 1 rfl), ((HB.out.cell (World.block_lt_of_cell? w _ hw458_0)).trans hw458_0), ((HB.out.cell (World.block_lt_of_cell? w _ hw458_1)).trans hw458_1), ((HB.out.cell (World.block_lt_of_cell? w _ hw458_2)).trans hw458_2), ((HB.out.cell (World.block_lt_of_cell? w _ hw458_3)).trans hw458_3)⟩ (fun hHeld => ?_); refine with_tabW impl_MayDisturb.tab7 impl_MayDisturb.bits7 (fun HT_ HW_ => ?_)
       generalize w35.drew = w36 at BK451 BK455 BK457 HB hx458_0 hx458_1 hx458_2 hx458_3 hHeld ⊢
       refine pur_ 0 #[true, false, false, false, false, false, false, false, false, false, false, false, false, false, false] (some 25) HT_ ?_
       refine pur_ 2 #[true, false, true, false, false, false, false, false, false, false, false, false, false, false, false] (some 27) HT_ ?_
       refine pur_ 4 #[true, false, true, false, true, false, false, false, false, false, false, false, false, false, false] (some 29) HT_ ?_
       refine tak_ 1 #[true, true, true, false, true, false, false, false, false, false, false, false, false, false, false] (some 26) HT_ HW_ hHeld ?_
       refine tak_ 3 #[true, true, true, true, true, false, false, false, false, false, false, false, false, false, false] (some 28) HT_ HW_ hHeld ?_
       refine pur_ 5 #[true, true, true, true, true, true, false, false, false, false, false, false, false, false, false] (some 30) HT_ ?_
       refine pur_ 6 #[true, true, true, true, true, true, true, false, false, false, false, false, false, false, false] (some 31) HT_ ?_
       refine tak_ 7 #[true, true, true, true, true, true, true, true, false, false, false, false, false, false, false] (some 32) HT_ HW_ hHeld ?_
       refine pur_ 8 #[true, true, true, true, true, true, true, true, true, false, false, false, false, false, false] (some 33) HT_ ?_
       refine pur_ 9 #[true, true, true, true, true, true, true, true, true, true, false, false, false, false, false] (some 34) HT_ ?_
       refine pur_ 11 #[true, true, true, true, true, true, true, true, true, true, false, true, false, false, false] (some 36) HT_ ?_
       refine tak_ 10 #[true, true, true, true, true, true, true, true, true, true, true, true, false, false, false] (some 35) HT_ HW_ hHeld ?_
       refine tak_ 12 #[true, true, true, true, true, true, true, true, true, true, true, true, true, false, false] (some 37) HT_ HW_ hHeld ?_
       refine onc_ 13 #[true, true, true, true, true, true, true, true, true, true, true, true, true, true, false] (some 38) HT_ Try.func107 (impl_ArcsMeet.calls k1 t453 t454 ((rd_T115 l0_8 x21_1).f1.f0) ((rd_T115 l0_8 x21_1).f1.f1) false _ A22.out) ?_
       rintro e w37 ⟨rfl, hb⟩
       refine sh4_ (blk_below (bk_ BK451) hb) (blk_below (bk_ BK455) hb) (blk_below (bk_ BK457) hb) (below_step (bl3_ HB GE451 GE455 GE457) hb) ?_
       clear BK451 BK455 BK457 HB hb
       intro BK451 BK455 BK457 HB
       refine ⟨_, _, rfl, ⟨(bc_ BK457 0 rfl), (bc_ BK457 1 rfl), (bc_ BK457 2 rfl), (bc_ BK451 0 rfl), (bc_ BK451 1 rfl), (bc_ BK451 2 rfl), (bc_ BK451 3 rfl), (bc_ BK451 4 rfl), (bc_ BK451 5 rfl), (bc_ BK451 6 rfl), (bc_ BK451 7 rfl), (bc_ BK451 8 rfl), (bc_ BK451 9 rfl), (bc_ BK455 0 rfl), (bc_ BK455 1 rfl), ((HB.out.cell (World.block_lt_of_cell? w _ hw458_0)).trans hw458_0), ((HB.out.cell (World.block_lt_of_cell? w _ hw458_1)).trans hw458_1), ((HB.out.cell (World.block_lt_of_cell? w _ hw458_2)).trans hw458_2), ((HB.out.cell (World.block_lt_of_cell? w _ hw458_3)).trans hw458_3)⟩, pt_, fun hHeld => ?_⟩
       refine pur_ 14 #[true, true, true, true, true, true, true, true, true, true, true, true, true, true, true] (some 39) HT_ ?_
       refine done_ (done_of HT_.out (by kernel_rfl)) ?_
       try go_wp2
       go_roundg k1
       case measure => have := HK1.out; omega
       case rel => exact ⟨(wrap64 (x21_1 + 1)), (by first | rfl | (simp; done) | (simp [*]; done)), H', ⟨by have := HK1.out; omega⟩, ⟨by (with_reducible repeat (first | refine blk_drewN ?_ _ | refine blk_drew ?_ | refine blk_alloc ?_ _)); exact BK451.out⟩, ⟨by (with_reducible repeat (first | refine blk_drewN ?_ _ | refine blk_drew ?_ | refine blk_alloc ?_ _)); exact BK455.out⟩, ⟨bl3_ HB GE451 GE455 GE457⟩⟩
     ·rw [if_neg c21] at H
      obtain ⟨c21b0, c21b1⟩ := bn_ c21
      have H' := Aside0.mk H
      clear H
      have p456 : 0 ≤ (x21_1 : Int) := od_
      have q456 : x21_1 < (l0_8.length : Int) := od_
      obtain ⟨ad456, e456, hx456_0, hx456_1, hx456_2⟩ := at_T115 HR0_8.out x21_1 p456 q456
      cases e456
      replace hx456_0 := hbc_ HB hx456_0
      replace hx456_1 := hbc_ HB hx456_1
      replace hx456_2 := hbc_ HB hx456_2
      replace p456 := eq_true p456
      replace q456 := eq_true q456
      try go_wp2_with (first | ((with_reducible refine gd_ 9 ?_); refine bx_ 9 115 #[.int .i64 0, .int .i64 0, .int .i64 0] ?_; intro gb457 hg w38 hbox hb; refine sh9_ (blk_below (bk_ BK451) hb) (blk_below (bk_ BK455) hb) (below_step (bl2_ HB GE451 GE455) hb) hbox (ge_ hg (bl2_ HB GE451 GE455)) (nl_ hg (bk_ BK451)) (ng_ hg (bk_ BK451)) (nl_ hg (bk_ BK455)) (ng_ hg (bk_ BK455)) ?_; clear BK451 BK455 HB hb hbox hg; intro BK451 BK455 HB BK457 GE457 NB451_457 NB457_451 NB455_457 NB457_455; have hnb39 := NB457_451.out; have hnc39 := NB451_457.out; have hnb40 := NB457_455.out; have hnc40 := NB455_457.out; have hcz41 := cf3_ BK457))
      have n0_ : Aside0 ((((w38.setCell ⟨gb457, 0, none⟩ (.int .i64 ((rd_T115 l0_8 x21_1).f0))).setCell ⟨gb457, 1, none⟩ (.int .i64 ((rd_T115 l0_8 x21_1).f1.f0))).setCell ⟨gb457, 2, none⟩ (.int .i64 ((rd_T115 l0_8 x21_1).f1.f1))).heap[gb451]? = some (.cells #[.int .i64 a0_0, .slice A0_1 l0_1.length c0_1, .slice A0_2 l0_2.length c0_2, .int .i64 a0_3, .int .i64 a0_4, .int .i64 a0_5, .int .i64 a0_6, .int .i64 a0_7, .slice (some ad456) l0_8.length c0_8, .int .i64 a0_9] 34 (0, 0))) := ⟨by (with_reducible repeat (first | refine blk_drewN ?_ _ | refine blk_drew ?_ | refine blk_alloc ?_ _)); refine blk_far ?_ NB451_457.out _; (with_reducible repeat (first | refine blk_drewN ?_ _ | refine blk_drew ?_ | refine blk_alloc ?_ _)); refine blk_far ?_ NB451_457.out _; (with_reducible repeat (first | refine blk_drewN ?_ _ | refine blk_drew ?_ | refine blk_alloc ?_ _)); refine blk_far ?_ NB451_457.out _; (with_reducible repeat (first | refine blk_drewN ?_ _ | refine blk_drew ?_ | refine blk_alloc ?_ _)); exact BK451.out⟩
      have n1_ : Aside0 ((((w38.setCell ⟨gb457, 0, none⟩ (.int .i64 ((rd_T115 l0_8 x21_1).f0))).setCell ⟨gb457, 1, none⟩ (.int .i64 ((rd_T115 l0_8 x21_1).f1.f0))).setCell ⟨gb457, 2, none⟩ (.int .i64 ((rd_T115 l0_8 x21_1).f1.f1))).heap[gb455]? = some (.cells #[.int .i64 t453, .int .i64 t454] 113 (0, 0))) := ⟨by (with_reducible repeat (first | refine blk_drewN ?_ _ | refine blk_drew ?_ | refine blk_alloc ?_ _)); refine blk_far ?_ NB455_457.out _; (with_reducible repeat (first | refine blk_drewN ?_ _ | refine blk_drew ?_ | refine blk_alloc ?_ _)); refine blk_far ?_ NB455_457.out _; (with_reducible repeat (first | refine blk_drewN ?_ _ | refine blk_drew ?_ | refine blk_alloc ?_ _)); refine blk_far ?_ NB455_457.out _; (with_reducible repeat (first | refine blk_drewN ?_ _ | refine blk_drew ?_ | refine blk_alloc ?_ _)); exact BK455.out⟩
      have n2_ : Aside0 ((((w38.setCell ⟨gb457, 0, none⟩ (.int .i64 ((rd_T115 l0_8 x21_1).f0))).setCell ⟨gb457, 1, none⟩ (.int .i64 ((rd_T115 l0_8 x21_1).f1.f0))).setCell ⟨gb457, 2, none⟩ (.int .i64 ((rd_T115 l0_8 x21_1).f1.f1))).heap[gb457]? = some (.cells #[.int .i64 ((rd_T115 l0_8 x21_1).f0), .int .i64 ((rd_T115 l0_8 x21_1).f1.f0), .int .i64 ((rd_T115 l0_8 x21_1).f1.f1)] 115 (0, 0))) := ⟨by (with_reducible repeat (first | refine blk_drewN ?_ _ | refine blk_drew ?_ | refine blk_alloc ?_ _)); refine blk_put (cs := #[.int .i64 ((rd_T115 l0_8 x21_1).f0), .int .i64 ((rd_T115 l0_8 x21_1).f1.f0), .int .i64 0]) ?_ 2 _ rfl; (with_reducible repeat (first | refine blk_drewN ?_ _ | refine blk_drew ?_ | refine blk_alloc ?_ _)); refine blk_put (cs := #[.int .i64 ((rd_T115 l0_8 x21_1).f0), .int .i64 0, .int .i64 0]) ?_ 1 _ rfl; (with_reducible repeat (first | refine blk_drewN ?_ _ | refine blk_drew ?_ | refine blk_alloc ?_ _)); refine blk_put (cs := #[.int .i64 0, .int .i64 0, .int .i64 0]) ?_ 0 _ rfl; (with_reducible repeat (first | refine blk_drewN ?_ _ | refine blk_drew ?_ | refine blk_alloc ?_ _)); exact BK457.out⟩
      have n3_ : Aside0 (Below w.heap.size w (((w38.setCell ⟨gb457, 0, none⟩ (.int .i64 ((rd_T115 l0_8 x21_1).f0))).setCell ⟨gb457, 1, none⟩ (.int .i64 ((rd_T115 l0_8 x21_1).f1.f0))).setCell ⟨gb457, 2, none⟩ (.int .i64 ((rd_T115 l0_8 x21_1).f1.f1)))) := ⟨bl3_ HB GE451 GE455 GE457⟩
      (try clear BK451)
      (try clear BK455)
      (try clear BK457)
      (try clear HB)
      generalize (((w38.setCell ⟨gb457, 0, none⟩ (.int .i64 ((rd_T115 l0_8 x21_1).f0))).setCell ⟨gb457, 1, none⟩ (.int .i64 ((rd_T115 l0_8 x21_1).f1.f0))).setCell ⟨gb457, 2, none⟩ (.int .i64 ((rd_T115 l0_8 x21_1).f1.f1))) = w42 at n0_ n1_ n2_ n3_ ⊢
      have BK451 := n0_
      have BK455 := n1_
      have BK457 := n2_
      have HB := n3_
      clear n0_ n1_ n2_ n3_
      refine sh4_ (blk_drew BK451.out) (blk_drew BK455.out) (blk_drew BK457.out) (below_drew1 HB.out) ?_
      clear BK451 BK455 BK457 HB
      intro BK451 BK455 BK457 HB
      have p458 : 0 ≤ (a1 : Int) := od_
      have q458 : a1 < (l0_1.length : Int) := od_
      obtain ⟨ad458, e458, hx458_0, hx458_1, hx458_2, hx458_3⟩ := at_T105 HR0_1.out a1 p458 q458
      have hw458_3 := hx458_3
      have hw458_2 := hx458_2
      have hw458_1 := hx458_1
      have hw458_0 := hx458_0
      cases e458
      replace hx458_0 := hbc_ HB hx458_0
      replace hx458_1 := hbc_ HB hx458_1
      replace hx458_2 := hbc_ HB hx458_2
      replace hx458_3 := hbc_ HB hx458_3
      replace p458 := eq_true p458
      replace q458 := eq_true q458
      refine start_ (n := 15) (S := fun w' => Ck3 w' gb457 (.int .i64 ((rd_T115 l0_8 x21_1).f0)) (.int .i64 ((rd_T115 l0_8 x21_1).f1.f0)) (.int .i64 ((rd_T115 l0_8 x21_1).f1.f1)) (Ck10 w' gb451 (.int .i64 a0_0) (.slice (some ad458) l0_1.length c0_1) (.slice A0_2 l0_2.length c0_2) (.int .i64 a0_3) (.int .i64 a0_4) (.int .i64 a0_5) (.int .i64 a0_6) (.int .i64 a0_7) (.slice (some ad456) l0_8.length c0_8) (.int .i64 a0_9) (w'.cell? (ad458.add ((a1).toNat * 4)) = some (.int .i64 ((rd_T105 l0_1 a1).f0)) ∧ w'.cell? ⟨(ad458.add ((a1).toNat * 4)).block, (ad458.add ((a1).toNat * 4)).off + 1, none⟩ = some (.int .i64 ((rd_T105 l0_1 a1).f1)) ∧ w'.cell? ⟨(ad458.add ((a1).toNat * 4)).block, (ad458.add ((a1).toNat * 4)).off + 2, none⟩ = some (.int .i64 ((rd_T105 l0_1 a1).f2)) ∧ w'.cell? ⟨(ad458.add ((a1).toNat * 4)).block, (ad458.add ((a1).toNat * 4)).off + 3, none⟩ = some (.int .i64 ((rd_T105 l0_1 a1).f3))))) (ds := []) #[false, false, false, false, false, false, false, false, false, false, false, false, false, false, false] (by kernel_rfl) rfl rfl ⟨(bc_ BK457 0 rfl), (bc_ BK457 1 rfl), (bc_ BK457 2 rfl), (bc_ BK451 0 rfl), (bc_ BK451 1 rfl), (bc_ BK451 2 rfl), (bc_ BK451 3 rfl), (bc_ BK451 4 rfl), (bc_ BK451 5 rfl), (bc_ BK451 6 rfl), (bc_ BK451 7 rfl), (bc_ BK451 8 rfl), (bc_ BK451 9 rfl), ((HB.out.cell (World.block_lt_of_cell? w _ hw458_0)).trans hw458_0), ((HB.out.cell (World.block_lt_of_cell? w _ hw458_1)).trans hw458_1), ((HB.out.cell (World.block_lt_of_cell? w _ hw458_2)).trans hw458_2), ((HB.out.cell (World.block_lt_of_cell? w _ hw458_3)).trans hw458_3)⟩ (fun hHeld => ?_); refine with_tabW impl_MayDisturb.tab7 impl_MayDisturb.bits7 (fun HT_ HW_ => ?_)
      generalize w42.drew = w43 at BK451 BK455 BK457 HB hx458_0 hx458_1 hx458_2 hx458_3 hHeld ⊢
      refine pur_ 0 #[true, false, false, false, false, false, false, false, false, false, false, false, false, false, false] (some 25) HT_ ?_
      refine pur_ 2 #[true, false, true, false, false, false, false, false, false, false, false, false, false, false, false] (some 27) HT_ ?_
      refine pur_ 4 #[true, false, true, false, true, false, false, false, false, false, false, false, false, false, false] (some 29) HT_ ?_
      refine tak_ 1 #[true, true, true, false, true, false, false, false, false, false, false, false, false, false, false] (some 26) HT_ HW_ hHeld ?_
      refine tak_ 3 #[true, true, true, true, true, false, false, false, false, false, false, false, false, false, false] (some 28) HT_ HW_ hHeld ?_
      refine pur_ 5 #[true, true, true, true, true, true, false, false, false, false, false, false, false, false, false] (some 30) HT_ ?_
      refine pur_ 6 #[true, true, true, true, true, true, true, false, false, false, false, false, false, false, false] (some 31) HT_ ?_
      refine tak_ 7 #[true, true, true, true, true, true, true, true, false, false, false, false, false, false, false] (some 32) HT_ HW_ hHeld ?_
      refine pur_ 8 #[true, true, true, true, true, true, true, true, true, false, false, false, false, false, false] (some 33) HT_ ?_
      refine pur_ 9 #[true, true, true, true, true, true, true, true, true, true, false, false, false, false, false] (some 34) HT_ ?_
      refine pure_ (i := 10) (N := some 35) (v := undef) (a' := ?_) #[true, true, true, true, true, true, true, true, true, true, true, false, false, false, false] rfl rfl (any_of HT_.out (by kernel_rfl)) (fun _ _ _ h => h) (Or.inr ⟨by rfl, rfl⟩) ?_ ?_
      rotate_left
      ·simp only [Act.put, List.setIfInBounds_toArray, List.set_cons_zero, List.set_cons_succ, i64_w, i32_w]
       rfl
      refine pure_ (i := 11) (N := some 36) (v := undef) (a' := ?_) #[true, true, true, true, true, true, true, true, true, true, true, true, false, false, false] rfl rfl (any_of HT_.out (by kernel_rfl)) (fun _ _ _ h => h) (Or.inr ⟨by rfl, rfl⟩) ?_ ?_
      rotate_left
      ·simp only [Act.put, List.setIfInBounds_toArray, List.set_cons_zero, List.set_cons_succ, i64_w, i32_w]
       rfl
      refine pure_ (i := 12) (N := some 37) (v := undef) (a' := ?_) #[true, true, true, true, true, true, true, true, true, true, true, true, true, false, false] rfl rfl (any_of HT_.out (by kernel_rfl)) (fun _ _ _ h => h) (Or.inr ⟨by rfl, rfl⟩) ?_ ?_
      rotate_left
      ·simp only [Act.put, List.setIfInBounds_toArray, List.set_cons_zero, List.set_cons_succ, i64_w, i32_w]
       rfl
      refine pure_ (i := 13) (N := some 38) (v := undef) (a' := ?_) #[true, true, true, true, true, true, true, true, true, true, true, true, true, true, false] rfl rfl (any_of HT_.out (by kernel_rfl)) (fun _ _ _ h => h) (Or.inr ⟨by rfl, rfl⟩) ?_ ?_
      rotate_left
      ·simp only [Act.put, List.setIfInBounds_toArray, List.set_cons_zero, List.set_cons_succ, i64_w, i32_w]
       rfl
      refine pur_ 14 #[true, true, true, true, true, true, true, true, true, true, true, true, true, true, true] (some 39) HT_ ?_
      refine done_ (done_of HT_.out (by kernel_rfl)) ?_
      try go_wp2
      go_roundg k1
      case measure => have := HK1.out; omega
      case rel => exact ⟨(wrap64 (x21_1 + 1)), (by first | rfl | (simp; done) | (simp [*]; done)), H', ⟨by have := HK1.out; omega⟩, ⟨by (with_reducible repeat (first | refine blk_drewN ?_ _ | refine blk_drew ?_ | refine blk_alloc ?_ _)); exact BK451.out⟩, ⟨by (with_reducible repeat (first | refine blk_drewN ?_ _ | refine blk_drew ?_ | refine blk_alloc ?_ _)); exact BK455.out⟩, ⟨bl3_ HB GE451 GE455 GE457⟩⟩
    ·rw [if_neg c16] at H
     have c16b0 : decide (x21_1 < (l0_8.length : Int)) = false := decide_eq_false c16
     clear c16
     obtain rfl := Option.some.inj H
     go_wp2
     go_ret
     exact ⟨er_, bl2_ HB GE451 GE455⟩
 ·replace c5 := Bool.eq_false_iff.mpr c5
  subst c5
  have H1 : (some false) = some r := by rw [if_neg (show ¬ (false = true) by decide)] at H; exact H
  clear H
  have H := H1
  clear H1
  obtain rfl := Option.some.inj H
  go_enter Try.func89, Try.ntmps89
  go_wp2_with (first | ((with_reducible refine gd_ 3 ?_); refine bx_ 3 34 #[.int .i64 a0_0, .slice A0_1 l0_1.length c0_1, .slice A0_2 l0_2.length c0_2, .int .i64 a0_3, .int .i64 a0_4, .int .i64 a0_5, .int .i64 a0_6, .int .i64 a0_7, .slice A0_8 l0_8.length c0_8, .int .i64 a0_9] ?_; intro gb451 hg w44 hbox hb; refine sh3_ (below_step (bl_ HB) hb) hbox (ge_ hg (bl_ HB)) ?_; clear HB hb hbox hg; intro HB BK451 GE451; have hcz45 := cf10_ BK451) | ((with_reducible refine gate_callee (f := 105) rfl ?_); refine gl_ 12 Try.func105 (impl_isSatellite.calls a0_0 _ _ l0_1 _ _ l0_2 a0_3 a0_4 a0_5 a0_6 a0_7 _ _ l0_8 a0_9 a1 false _ (ck_ HR0_1 HB) HC0_1.out (ck_ HR0_2 HB) HC0_2.out (ck_ HR0_8 HB) HC0_8.out A4.out) ?_; rintro e w46 ⟨rfl, hb⟩; refine ⟨_, rfl, sh2_ (blk_below (bk_ BK451) hb) (below_step (bl1_ HB GE451) hb) ?_⟩; clear BK451 HB hb; intro BK451 HB))
  go_ret
  exact ⟨er_, bl1_ HB GE451⟩

/-! ### impl_QuietSpans_1: function 88 -/
def impl_QuietSpans_1.f (k : Nat) (a0 : Int) (a1_0 : Int) (l1_1 : List (S105)) (l1_2 : List (S109)) (a1_3 : Int) (a1_4 : Int) (a1_5 : Int) (a1_6 : Int) (a1_7 : Int) (l1_8 : List (S115)) (a1_9 : Int) (a2 : Int) : Option (Bool) := (impl_MayDisturb.f k a1_0 l1_1 l1_2 a1_3 a1_4 a1_5 a1_6 a1_7 l1_8 a1_9 a2 a0).bind fun t460 => (some t460)
theorem impl_QuietSpans_1.mono : ∀ a0 a1 a2 a3 a4 a5 a6 a7 a8 a9 a10 a11 k, LeO (impl_QuietSpans_1.f k a0 a1 a2 a3 a4 a5 a6 a7 a8 a9 a10 a11) (impl_QuietSpans_1.f (k + 1) a0 a1 a2 a3 a4 a5 a6 a7 a8 a9 a10 a11) := by
 intro a0 a1 a2 a3 a4 a5 a6 a7 a8 a9 a10 a11 k
 unfold impl_QuietSpans_1.f
 repeat' first | (with_reducible first | exact impl_MayDisturb.mono _ _ _ _ _ _ _ _ _ _ _ _ _ | exact LeO.refl _ | exact LeO.none _ | refine LeO.ite ?_ ?_ | refine LeO.bind ?_ (fun _ => ?_)) | exact LeO.none _ | refine LeO.ite ?_ ?_ | refine LeO.bind ?_ (fun _ => ?_)
set_option maxHeartbeats 8000000 in
set_option maxRecDepth 100000 in
theorem impl_QuietSpans_1.calls (k : Nat) (a0 : Int) (a1_0 : Int) (A1_1 : Option Addr) (c1_1 : Nat) (l1_1 : List (S105)) (A1_2 : Option Addr) (c1_2 : Nat) (l1_2 : List (S109)) (a1_3 : Int) (a1_4 : Int) (a1_5 : Int) (a1_6 : Int) (a1_7 : Int) (A1_8 : Option Addr) (c1_8 : Nat) (l1_8 : List (S115)) (a1_9 : Int) (a2 : Int) (r : Bool) (w : World) (B0 : Nat) (hB0 : w.heap[B0]? = some (.cells #[.int .i64 a1_0, .slice A1_1 l1_1.length c1_1, .slice A1_2 l1_2.length c1_2, .int .i64 a1_3, .int .i64 a1_4, .int .i64 a1_5, .int .i64 a1_6, .int .i64 a1_7, .slice A1_8 l1_8.length c1_8, .int .i64 a1_9] 34 (0, 0))) (B1 : Nat) (hB1 : w.heap[B1]? = some (.cells #[.int .i64 a2] 3 (0, 0))) (hr1_1 : Kd.C k105 w A1_1 l1_1.length l1_1) (hc1_1 : l1_1.length ≤ c1_1) (hr1_2 : Kd.C k109 w A1_2 l1_2.length l1_2) (hc1_2 : l1_2.length ≤ c1_2) (hr1_8 : Kd.C k115 w A1_8 l1_8.length l1_8) (hc1_8 : l1_8.length ≤ c1_8) (h : impl_QuietSpans_1.f k a0 a1_0 l1_1 l1_2 a1_3 a1_4 a1_5 a1_6 a1_7 l1_8 a1_9 a2 = some r) :
  Calls Try.prog 88 #[.int .i64 a0, .pointer (some ⟨B0, 0, none⟩), .pointer (some ⟨B1, 0, none⟩)] w fun e w' => e = .returned (.bool r) ∧ Below w.heap.size w w' := by
 have hcB0_0 : w.cell? ⟨B0, 0, none⟩ = some (.int .i64 a1_0) := (blk_cell hB0 0).trans rfl
 have hcB0_1 : w.cell? ⟨B0, 1, none⟩ = some (.slice A1_1 l1_1.length c1_1) := (blk_cell hB0 1).trans rfl
 have hcB0_2 : w.cell? ⟨B0, 2, none⟩ = some (.slice A1_2 l1_2.length c1_2) := (blk_cell hB0 2).trans rfl
 have hcB0_3 : w.cell? ⟨B0, 3, none⟩ = some (.int .i64 a1_3) := (blk_cell hB0 3).trans rfl
 have hcB0_4 : w.cell? ⟨B0, 4, none⟩ = some (.int .i64 a1_4) := (blk_cell hB0 4).trans rfl
 have hcB0_5 : w.cell? ⟨B0, 5, none⟩ = some (.int .i64 a1_5) := (blk_cell hB0 5).trans rfl
 have hcB0_6 : w.cell? ⟨B0, 6, none⟩ = some (.int .i64 a1_6) := (blk_cell hB0 6).trans rfl
 have hcB0_7 : w.cell? ⟨B0, 7, none⟩ = some (.int .i64 a1_7) := (blk_cell hB0 7).trans rfl
 have hcB0_8 : w.cell? ⟨B0, 8, none⟩ = some (.slice A1_8 l1_8.length c1_8) := (blk_cell hB0 8).trans rfl
 have hcB0_9 : w.cell? ⟨B0, 9, none⟩ = some (.int .i64 a1_9) := (blk_cell hB0 9).trans rfl
 have hcB1_0 : w.cell? ⟨B1, 0, none⟩ = some (.int .i64 a2) := (blk_cell hB1 0).trans rfl
 have HR1_1 := Aside0.mk hr1_1
 have HC1_1 := Aside0.mk hc1_1
 clear hr1_1 hc1_1
 have HR1_2 := Aside0.mk hr1_2
 have HC1_2 := Aside0.mk hc1_2
 clear hr1_2 hc1_2
 have HR1_8 := Aside0.mk hr1_8
 have HC1_8 := Aside0.mk hc1_8
 clear hr1_8 hc1_8
 have HB := Aside0.mk (Below.refl w.heap.size w)
 have H := h
 clear h
 unfold impl_QuietSpans_1.f at H
 replace H := bs_ H
 obtain ⟨t460, A4, H⟩ := H
 obtain rfl := Option.some.inj H
 go_enter Try.func88, Try.ntmps88
 go_wp2_with (first | ((with_reducible refine gate_callee (f := 89) rfl ?_); refine gl_ 8 Try.func89 (impl_MayDisturb.calls k a1_0 _ _ l1_1 _ _ l1_2 a1_3 a1_4 a1_5 a1_6 a1_7 _ _ l1_8 a1_9 a2 a0 t460 _ (cq_ HR1_1) HC1_1.out (cq_ HR1_2) HC1_2.out (cq_ HR1_8) HC1_8.out A4.out) ?_; rintro e w5 ⟨rfl, hb⟩; refine ⟨_, rfl, sh1_ (below_step (bl_ HB) hb) ?_⟩; clear HB hb; intro HB))
 go_ret
 exact ⟨er_, bl_ HB⟩


def where_impl_QuietSpans_1.f (k : Nat) (y0 y1 : Int) (a1_0 : Int) (l1_1 : List (S105)) (l1_2 : List (S109)) (a1_3 : Int) (a1_4 : Int) (a1_5 : Int) (a1_6 : Int) (a1_7 : Int) (l1_8 : List (S115)) (a1_9 : Int) (a2 : Int) : Option (List (S73)) := sw.f (fun k' t' => impl_QuietSpans_1.f k' t' a1_0 l1_1 l1_2 a1_3 a1_4 a1_5 a1_6 a1_7 l1_8 a1_9 a2) k y0 y1
theorem where_impl_QuietSpans_1.mono : ∀ y0 y1 a1_0 l1_1 l1_2 a1_3 a1_4 a1_5 a1_6 a1_7 l1_8 a1_9 a2 k, LeO (where_impl_QuietSpans_1.f k y0 y1 a1_0 l1_1 l1_2 a1_3 a1_4 a1_5 a1_6 a1_7 l1_8 a1_9 a2) (where_impl_QuietSpans_1.f (k + 1) y0 y1 a1_0 l1_1 l1_2 a1_3 a1_4 a1_5 a1_6 a1_7 l1_8 a1_9 a2) := fun y0 y1 a1_0 l1_1 l1_2 a1_3 a1_4 a1_5 a1_6 a1_7 l1_8 a1_9 a2 k => sw.mono _ (fun t' k' => by exact impl_QuietSpans_1.mono _ _ _ _ _ _ _ _ _ _ _ _ _) y0 y1 k
theorem where_impl_QuietSpans_1.calls (k : Nat) (y0 y1 : Int) (a1_0 : Int) (A1_1 : Option Addr) (c1_1 : Nat) (l1_1 : List (S105)) (A1_2 : Option Addr) (c1_2 : Nat) (l1_2 : List (S109)) (a1_3 : Int) (a1_4 : Int) (a1_5 : Int) (a1_6 : Int) (a1_7 : Int) (A1_8 : Option Addr) (c1_8 : Nat) (l1_8 : List (S115)) (a1_9 : Int) (a2 : Int) (r : List (S73)) (w : World) (B0 : Nat) (hB0 : w.heap[B0]? = some (.cells #[.int .i64 a1_0, .slice A1_1 l1_1.length c1_1, .slice A1_2 l1_2.length c1_2, .int .i64 a1_3, .int .i64 a1_4, .int .i64 a1_5, .int .i64 a1_6, .int .i64 a1_7, .slice A1_8 l1_8.length c1_8, .int .i64 a1_9] 34 (0, 0))) (B1 : Nat) (hB1 : w.heap[B1]? = some (.cells #[.int .i64 a2] 3 (0, 0))) (hr1_1 : Kd.C k105 w A1_1 l1_1.length l1_1) (hc1_1 : l1_1.length ≤ c1_1) (hr1_2 : Kd.C k109 w A1_2 l1_2.length l1_2) (hc1_2 : l1_2.length ≤ c1_2) (hr1_8 : Kd.C k115 w A1_8 l1_8.length l1_8) (hc1_8 : l1_8.length ≤ c1_8) (h : where_impl_QuietSpans_1.f k y0 y1 a1_0 l1_1 l1_2 a1_3 a1_4 a1_5 a1_6 a1_7 l1_8 a1_9 a2 = some r) :
  Calls Try.prog 75 #[.int .i64 y0, .int .i64 y1, .func (.func 88) #[] #[.pointer (some ⟨B0, 0, none⟩), .pointer (some ⟨B1, 0, none⟩)]] w fun e w' => ∃ v0_ : Value, e = .returned (v0_) ∧ Kd.R k73 73 w' w.heap.size (fun _ => True) v0_ r ∧ Below w.heap.size w w' := by
 refine sw.calls (fun k' t' => impl_QuietSpans_1.f k' t' a1_0 l1_1 l1_2 a1_3 a1_4 a1_5 a1_6 a1_7 l1_8 a1_9 a2) k y0 y1 r w 88 _ (fun args w => enters_ Try.func88 (by kernel_rfl) rfl args w) (fun k' t b W hq hb => ?_) h
 have hB0' := blk_below hB0 hb
 have hB1' := blk_below hB1 hb
 have hh := impl_QuietSpans_1.calls k' t a1_0 A1_1 c1_1 l1_1 A1_2 c1_2 l1_2 a1_3 a1_4 a1_5 a1_6 a1_7 A1_8 c1_8 l1_8 a1_9 a2 b W B0 hB0' B1 hB1' (Kd.C_below hr1_1 hb) hc1_1 (Kd.C_below hr1_2 hb) hc1_2 (Kd.C_below hr1_8 hb) hc1_8 hq
 exact hh.mono (fun e w' hx => ⟨hx.1, hx.2⟩)

/-! ### impl_QuietSpans: function 50 -/
def impl_QuietSpans.f (k : Nat) (a0_0 : Int) (l0_1 : List (S105)) (l0_2 : List (S109)) (a0_3 : Int) (a0_4 : Int) (a0_5 : Int) (a0_6 : Int) (a0_7 : Int) (l0_8 : List (S115)) (a0_9 : Int) (a1 : Int) (a2 : Int) (a3 : Int) : Option ((List (S73))) := (where_impl_QuietSpans_1.f k a2 a3 a0_0 l0_1 l0_2 a0_3 a0_4 a0_5 a0_6 a0_7 l0_8 a0_9 a1).bind fun t461 => (some t461)
theorem impl_QuietSpans.mono : ∀ a0 a1 a2 a3 a4 a5 a6 a7 a8 a9 a10 a11 a12 k, LeO (impl_QuietSpans.f k a0 a1 a2 a3 a4 a5 a6 a7 a8 a9 a10 a11 a12) (impl_QuietSpans.f (k + 1) a0 a1 a2 a3 a4 a5 a6 a7 a8 a9 a10 a11 a12) := by
 intro a0 a1 a2 a3 a4 a5 a6 a7 a8 a9 a10 a11 a12 k
 unfold impl_QuietSpans.f
 repeat' first | (with_reducible first | exact where_impl_QuietSpans_1.mono _ _ _ _ _ _ _ _ _ _ _ _ _ _ | exact LeO.refl _ | exact LeO.none _ | refine LeO.ite ?_ ?_ | refine LeO.bind ?_ (fun _ => ?_)) | exact LeO.none _ | refine LeO.ite ?_ ?_ | refine LeO.bind ?_ (fun _ => ?_)
set_option maxHeartbeats 8000000 in
set_option maxRecDepth 100000 in
theorem impl_QuietSpans.calls (k : Nat) (a0_0 : Int) (A0_1 : Option Addr) (c0_1 : Nat) (l0_1 : List (S105)) (A0_2 : Option Addr) (c0_2 : Nat) (l0_2 : List (S109)) (a0_3 : Int) (a0_4 : Int) (a0_5 : Int) (a0_6 : Int) (a0_7 : Int) (A0_8 : Option Addr) (c0_8 : Nat) (l0_8 : List (S115)) (a0_9 : Int) (a1 : Int) (a2 : Int) (a3 : Int) (r : List (S73)) (w : World) (hr0_1 : Kd.C k105 w A0_1 l0_1.length l0_1) (hc0_1 : l0_1.length ≤ c0_1) (hr0_2 : Kd.C k109 w A0_2 l0_2.length l0_2) (hc0_2 : l0_2.length ≤ c0_2) (hr0_8 : Kd.C k115 w A0_8 l0_8.length l0_8) (hc0_8 : l0_8.length ≤ c0_8) (h : impl_QuietSpans.f k a0_0 l0_1 l0_2 a0_3 a0_4 a0_5 a0_6 a0_7 l0_8 a0_9 a1 a2 a3 = some r) :
  Calls Try.prog 50 #[.agg #[.int .i64 a0_0, .slice A0_1 l0_1.length c0_1, .slice A0_2 l0_2.length c0_2, .int .i64 a0_3, .int .i64 a0_4, .int .i64 a0_5, .int .i64 a0_6, .int .i64 a0_7, .slice A0_8 l0_8.length c0_8, .int .i64 a0_9], .int .i64 a1, .int .i64 a2, .int .i64 a3] w fun e w' => ∃ v0_ : Value, e = .returned (v0_) ∧ Kd.R k73 73 w' w.heap.size (fun _ => True) v0_ r ∧ Below w.heap.size w w' := by
 have HR0_1 := Aside0.mk hr0_1
 have HC0_1 := Aside0.mk hc0_1
 clear hr0_1 hc0_1
 have HR0_2 := Aside0.mk hr0_2
 have HC0_2 := Aside0.mk hc0_2
 clear hr0_2 hc0_2
 have HR0_8 := Aside0.mk hr0_8
 have HC0_8 := Aside0.mk hc0_8
 clear hr0_8 hc0_8
 have HB := Aside0.mk (Below.refl w.heap.size w)
 have H := h
 clear h
 unfold impl_QuietSpans.f at H
 replace H := bs_ H
 obtain ⟨t461, A5, H⟩ := H
 obtain rfl := Option.some.inj H
 go_enter Try.func50, Try.ntmps50
 go_wp2_with (first | ((with_reducible refine gd_ 4 ?_); refine bx_ 4 34 #[.int .i64 a0_0, .slice A0_1 l0_1.length c0_1, .slice A0_2 l0_2.length c0_2, .int .i64 a0_3, .int .i64 a0_4, .int .i64 a0_5, .int .i64 a0_6, .int .i64 a0_7, .slice A0_8 l0_8.length c0_8, .int .i64 a0_9] ?_; intro gx4 hg wx4 hbox hb; refine sh1_ (below_step HB.out hb) ?_; clear HB; intro HB; have BK4_ := Aside0.mk hbox; clear hb hg hbox) | ((with_reducible refine gd_ 5 ?_); refine bx_ 5 3 #[.int .i64 a1] ?_; intro gx5 hg wx5 hbox hb; have n0_ := Aside0.mk (below_step HB.out hb); have BKn4_ := Aside0.mk (blk_below BK4_.out hb); clear BK4_; have BK4_ := BKn4_; clear BKn4_; clear HB; have HB := n0_; clear n0_; have BK5_ := Aside0.mk hbox; clear hb hg hbox) | ((with_reducible refine gate_callee (f := 75) rfl ?_); refine gl_ 12 Try.func75 (where_impl_QuietSpans_1.calls k a2 a3 a0_0 _ _ l0_1 _ _ l0_2 a0_3 a0_4 a0_5 a0_6 a0_7 _ _ l0_8 a0_9 a1 t461 _ gx4 BK4_.out gx5 BK5_.out (ck_ HR0_1 HB) HC0_1.out (ck_ HR0_2 HB) HC0_2.out (ck_ HR0_8 HB) HC0_8.out A5.out) ?_; rintro e w6 ⟨v462, rfl, ho0, hb⟩; refine ⟨_, rfl, sh2_ (Kd.R_lower ho0 (below_size (bl_ HB))) (below_step (bl_ HB) hb) ?_⟩; clear HB hb ho0; intro HO463 HB))
 go_ret
 exact ⟨_, er_, ra_ HO463, bl_ HB⟩

/-! ### impl_SpeakingSpans: function 12 -/
def impl_SpeakingSpans.f (k : Nat) (a0_0 : Int) (l0_1 : List (S105)) (l0_2 : List (S109)) (a0_3 : Int) (a0_4 : Int) (a0_5 : Int) (a0_6 : Int) (a0_7 : Int) (l0_8 : List (S115)) (a0_9 : Int) (a1 : Int) (a2 : Int) (a3 : Int) (a4 : Int) : Option ((List (S73))) := (impl_SureWindows.f k a0_0 l0_1 l0_2 a0_3 a0_4 a0_5 a0_6 a0_7 l0_8 a0_9 a1 a2 a3 a4).bind fun t465 => ((impl_QuietSpans.f k a0_0 l0_1 l0_2 a0_3 a0_4 a0_5 a0_6 a0_7 l0_8 a0_9 a1 a3 a4).bind fun t468 => ((impl_QuietSpans.f k a0_0 l0_1 l0_2 a0_3 a0_4 a0_5 a0_6 a0_7 l0_8 a0_9 a2 a3 a4).bind fun t471 => ((impl_Span_49.f k (([t468, t471] : List (List (S73))))).bind fun t477 => ((impl_CutSpans.f k t465 t477).bind fun t480 => (some t480)))))
theorem impl_SpeakingSpans.mono : ∀ a0 a1 a2 a3 a4 a5 a6 a7 a8 a9 a10 a11 a12 a13 k, LeO (impl_SpeakingSpans.f k a0 a1 a2 a3 a4 a5 a6 a7 a8 a9 a10 a11 a12 a13) (impl_SpeakingSpans.f (k + 1) a0 a1 a2 a3 a4 a5 a6 a7 a8 a9 a10 a11 a12 a13) := by
 intro a0 a1 a2 a3 a4 a5 a6 a7 a8 a9 a10 a11 a12 a13 k
 unfold impl_SpeakingSpans.f
 repeat' first | (with_reducible first | exact impl_CutSpans.mono _ _ _ | exact impl_QuietSpans.mono _ _ _ _ _ _ _ _ _ _ _ _ _ _ | exact impl_Span_49.mono _ _ | exact impl_SureWindows.mono _ _ _ _ _ _ _ _ _ _ _ _ _ _ _ | exact LeO.refl _ | exact LeO.none _ | refine LeO.ite ?_ ?_ | refine LeO.bind ?_ (fun _ => ?_)) | exact LeO.none _ | refine LeO.ite ?_ ?_ | refine LeO.bind ?_ (fun _ => ?_)
def impl_SpeakingSpans.T1 : Bool × List (List Nat × List Nat) := (true, [([], []), ([], []), ([], []), ([], []), ([], []), ([0, 1, 2, 3, 4], [0, 1, 2, 3, 4]), ([], []), ([], []), ([], []), ([], []), ([6, 7, 8, 9, 5], [6, 7, 8, 9]), ([], []), ([], []), ([], []), ([], []), ([11, 12, 13, 14, 10], [11, 12, 13, 14]), ([10, 15], [10, 15]), ([16, 15], [16]), ([5, 17, 17], [5, 17]), ([18, 18, 0, 1, 2, 3, 4, 5, 6, 7, 8, 9, 10, 11, 12, 13, 14, 15, 16, 17, 18], [18])])
def impl_SpeakingSpans.B1 : List Nat := [0, 0, 0, 0, 0, 31, 0, 0, 0, 0, 1023, 0, 0, 0, 0, 32767, 65535, 131071, 262143, 524287]
theorem impl_SpeakingSpans.tab1 : rtab .any (opsOf Try.f12 1) = impl_SpeakingSpans.T1 := by kernel_rfl
theorem impl_SpeakingSpans.bits1 : waitsOk impl_SpeakingSpans.T1.2 impl_SpeakingSpans.B1 = true := by kernel_rfl
set_option maxHeartbeats 8000000 in
set_option maxRecDepth 100000 in
theorem impl_SpeakingSpans.calls (k : Nat) (a0_0 : Int) (A0_1 : Option Addr) (c0_1 : Nat) (l0_1 : List (S105)) (A0_2 : Option Addr) (c0_2 : Nat) (l0_2 : List (S109)) (a0_3 : Int) (a0_4 : Int) (a0_5 : Int) (a0_6 : Int) (a0_7 : Int) (A0_8 : Option Addr) (c0_8 : Nat) (l0_8 : List (S115)) (a0_9 : Int) (a1 : Int) (a2 : Int) (a3 : Int) (a4 : Int) (r : List (S73)) (w : World) (hr0_1 : Kd.C k105 w A0_1 l0_1.length l0_1) (hc0_1 : l0_1.length ≤ c0_1) (hr0_2 : Kd.C k109 w A0_2 l0_2.length l0_2) (hc0_2 : l0_2.length ≤ c0_2) (hr0_8 : Kd.C k115 w A0_8 l0_8.length l0_8) (hc0_8 : l0_8.length ≤ c0_8) (h : impl_SpeakingSpans.f k a0_0 l0_1 l0_2 a0_3 a0_4 a0_5 a0_6 a0_7 l0_8 a0_9 a1 a2 a3 a4 = some r) :
  Calls Try.prog 12 #[.agg #[.int .i64 a0_0, .slice A0_1 l0_1.length c0_1, .slice A0_2 l0_2.length c0_2, .int .i64 a0_3, .int .i64 a0_4, .int .i64 a0_5, .int .i64 a0_6, .int .i64 a0_7, .slice A0_8 l0_8.length c0_8, .int .i64 a0_9], .int .i64 a1, .int .i64 a2, .int .i64 a3, .int .i64 a4] w fun e w' => ∃ v0_ : Value, e = .returned (v0_) ∧ Kd.R k73 73 w' w.heap.size (fun _ => True) v0_ r ∧ Below w.heap.size w w' := by
 have hu34 := Try.underlying34
 have HR0_1 := Aside0.mk hr0_1
 have HC0_1 := Aside0.mk hc0_1
 clear hr0_1 hc0_1
 have HR0_2 := Aside0.mk hr0_2
 have HC0_2 := Aside0.mk hc0_2
 clear hr0_2 hc0_2
 have HR0_8 := Aside0.mk hr0_8
 have HC0_8 := Aside0.mk hc0_8
 clear hr0_8 hc0_8
 have HB := Aside0.mk (Below.refl w.heap.size w)
 have H := h
 clear h
 unfold impl_SpeakingSpans.f at H
 replace H := bs_ H
 obtain ⟨t465, A6, H⟩ := H
 replace H := bs_ H
 obtain ⟨t468, A7, H⟩ := H
 replace H := bs_ H
 obtain ⟨t471, A8, H⟩ := H
 replace H : ∃ y_ : List (List (S73)), Aside0 (y_ = (([t468, t471] : List (List (S73))))) ∧ ((impl_Span_49.f k y_).bind fun t477 => ((impl_CutSpans.f k t465 t477).bind fun t480 => (some t480))) = some r := ⟨_, ⟨rfl⟩, yh_ H⟩
 obtain ⟨y474, Ny474, H⟩ := H
 replace H := bs_ H
 obtain ⟨t477, A9, H⟩ := H
 replace H := bs_ H
 obtain ⟨t480, A10, H⟩ := H
 obtain rfl := Option.some.inj H
 go_enter Try.func12, Try.ntmps12
 try go_wp2_with (first | ((with_reducible refine gd_ 5 ?_); refine bx_ 5 34 #[.int .i64 a0_0, .slice A0_1 l0_1.length c0_1, .slice A0_2 l0_2.length c0_2, .int .i64 a0_3, .int .i64 a0_4, .int .i64 a0_5, .int .i64 a0_6, .int .i64 a0_7, .slice A0_8 l0_8.length c0_8, .int .i64 a0_9] ?_; intro gb464 hg w11 hbox hb; refine sh3_ (below_step (bl_ HB) hb) hbox (ge_ hg (bl_ HB)) ?_; clear HB hb hbox hg; intro HB BK464 GE464))
 refine sh2_ (blk_drew BK464.out) (below_drew1 HB.out) ?_
 clear BK464 HB
 intro BK464 HB
 refine start_ (n := 20) (S := fun w' => Cz10 w' gb464 (.int .i64 a0_0) (.slice A0_1 l0_1.length c0_1) (.slice A0_2 l0_2.length c0_2) (.int .i64 a0_3) (.int .i64 a0_4) (.int .i64 a0_5) (.int .i64 a0_6) (.int .i64 a0_7) (.slice A0_8 l0_8.length c0_8) (.int .i64 a0_9)) (ds := []) #[false, false, false, false, false, false, false, false, false, false, false, false, false, false, false, false, false, false, false, false] (by kernel_rfl) rfl rfl (cz10_ BK464) (fun hHeld => ?_); refine with_tabW impl_SpeakingSpans.tab1 impl_SpeakingSpans.bits1 (fun HT_ HW_ => ?_)
 generalize w11.drew = w12 at BK464 HB hHeld ⊢
 refine pur_ 1 #[false, true, false, false, false, false, false, false, false, false, false, false, false, false, false, false, false, false, false, false] (some 12) HT_ ?_
 refine pur_ 2 #[false, true, true, false, false, false, false, false, false, false, false, false, false, false, false, false, false, false, false, false] (some 13) HT_ ?_
 refine pur_ 3 #[false, true, true, true, false, false, false, false, false, false, false, false, false, false, false, false, false, false, false, false] (some 14) HT_ ?_
 refine pur_ 4 #[false, true, true, true, true, false, false, false, false, false, false, false, false, false, false, false, false, false, false, false] (some 15) HT_ ?_
 refine pur_ 7 #[false, true, true, true, true, false, false, true, false, false, false, false, false, false, false, false, false, false, false, false] (some 18) HT_ ?_
 refine pur_ 8 #[false, true, true, true, true, false, false, true, true, false, false, false, false, false, false, false, false, false, false, false] (some 19) HT_ ?_
 refine pur_ 9 #[false, true, true, true, true, false, false, true, true, true, false, false, false, false, false, false, false, false, false, false] (some 20) HT_ ?_
 refine pur_ 12 #[false, true, true, true, true, false, false, true, true, true, false, false, true, false, false, false, false, false, false, false] (some 23) HT_ ?_
 refine pur_ 13 #[false, true, true, true, true, false, false, true, true, true, false, false, true, true, false, false, false, false, false, false] (some 24) HT_ ?_
 refine pur_ 14 #[false, true, true, true, true, false, false, true, true, true, false, false, true, true, true, false, false, false, false, false] (some 25) HT_ ?_
 refine tak_ 0 #[true, true, true, true, true, false, false, true, true, true, false, false, true, true, true, false, false, false, false, false] (some 11) HT_ HW_ hHeld ?_
 refine tak_ 6 #[true, true, true, true, true, false, true, true, true, true, false, false, true, true, true, false, false, false, false, false] (some 17) HT_ HW_ hHeld ?_
 refine tak_ 11 #[true, true, true, true, true, false, true, true, true, true, false, true, true, true, true, false, false, false, false, false] (some 22) HT_ HW_ hHeld ?_
 refine onc_ 5 #[true, true, true, true, true, true, true, true, true, true, false, true, true, true, true, false, false, false, false, false] (some 16) HT_ Try.func39 (impl_SureWindows.calls k a0_0 _ _ l0_1 _ _ l0_2 a0_3 a0_4 a0_5 a0_6 a0_7 _ _ l0_8 a0_9 a1 a2 a3 a4 t465 _ (ck_ HR0_1 HB) HC0_1.out (ck_ HR0_2 HB) HC0_2.out (ck_ HR0_8 HB) HC0_8.out A6.out) ?_
 rintro e w13 ⟨v466, rfl, ho0, hb⟩
 refine sh3_ (Kd.R_lower ho0 (below_size (bl1_ HB GE464))) (blk_below (bk_ BK464) hb) (below_step (bl1_ HB GE464) hb) ?_
 clear BK464 HB hb ho0
 intro HO467 BK464 HB
 refine ⟨_, _, rfl, (cz10_ BK464), pt_, fun hHeld => ?_⟩
 refine onc_ 10 #[true, true, true, true, true, true, true, true, true, true, true, true, true, true, true, false, false, false, false, false] (some 21) HT_ Try.func50 (impl_QuietSpans.calls k a0_0 _ _ l0_1 _ _ l0_2 a0_3 a0_4 a0_5 a0_6 a0_7 _ _ l0_8 a0_9 a1 a3 a4 t468 _ (ck_ HR0_1 HB) HC0_1.out (ck_ HR0_2 HB) HC0_2.out (ck_ HR0_8 HB) HC0_8.out A7.out) ?_
 rintro e w14 ⟨v469, rfl, ho0, hb⟩
 refine sh4_ (Kd.R_elder' (ra_ HO467) (Kd.R_base ho0) hb) (Kd.R_lower (Kd.R_new' ho0 (Kd.R_lt (ra_ HO467))) (below_size (bl1_ HB GE464))) (blk_below (bk_ BK464) hb) (below_step (bl1_ HB GE464) hb) ?_
 clear HO467 BK464 HB hb ho0
 intro HO467 HO470 BK464 HB
 refine ⟨_, _, rfl, (cz10_ BK464), pt_, fun hHeld => ?_⟩
 refine onc_ 15 #[true, true, true, true, true, true, true, true, true, true, true, true, true, true, true, true, false, false, false, false] (some 26) HT_ Try.func50 (impl_QuietSpans.calls k a0_0 _ _ l0_1 _ _ l0_2 a0_3 a0_4 a0_5 a0_6 a0_7 _ _ l0_8 a0_9 a2 a3 a4 t471 _ (ck_ HR0_1 HB) HC0_1.out (ck_ HR0_2 HB) HC0_2.out (ck_ HR0_8 HB) HC0_8.out A8.out) ?_
 rintro e w15 ⟨v472, rfl, ho0, hb⟩
 refine sh5_ (Kd.R_elder' (ra_ HO467) (Kd.R_base ho0) hb) (Kd.R_elder' (ra_ HO470) (Kd.R_base ho0) hb) (Kd.R_lower (Kd.R_new' (Kd.R_new' ho0 (Kd.R_lt (ra_ HO467))) (Kd.R_lt (ra_ HO470))) (below_size (bl1_ HB GE464))) (blk_below (bk_ BK464) hb) (below_step (bl1_ HB GE464) hb) ?_
 clear HO467 HO470 BK464 HB hb ho0
 intro HO467 HO470 HO473 BK464 HB
 obtain ⟨Ao16, co16, eo16⟩ := Kd.R_slice HO470.out
 (first | subst eo16 | (injection eo16 with f1_ f2_ f3_; have f4_ := f1_.symm; have f5_ := f3_.symm; clear f1_ f2_ f3_; subst f4_; subst f5_))
 obtain ⟨Ao17, co17, eo17⟩ := Kd.R_slice HO473.out
 (first | subst eo17 | (injection eo17 with f1_ f2_ f3_; have f4_ := f1_.symm; have f5_ := f3_.symm; clear f1_ f2_ f3_; subst f4_; subst f5_))
 refine ⟨_, _, rfl, (cz10_ BK464), pt_, fun hHeld => ?_⟩
 refine one_ (i := 16) (N := some 27) #[true, true, true, true, true, true, true, true, true, true, true, true, true, true, true, true, true, false, false, false] rfl rfl (one_of HT_.out (by kernel_rfl)) (by decide) (fun K hK => ?_)
 refine Kd.N_lit_step (Kd.slice 73 k73) _ 28 ?hg (N' := 27) ?hd (xs := ([t468, t471] : List (List (S73)))) (inner := [.slice Ao16 t468.length co16, .slice Ao17 t471.length co17]) (ok := (fun k_ => some k_ ≠ (v466 : Value).ownBlock ∧ k_ ≠ gb464)) (okp := (fun k_ => some k_ ≠ (v466 : Value).ownBlock ∧ k_ ≠ gb464)) ?hr ?hp (fun _ hk => hk) ((show ∀ k_, w15.heap.size ≤ k_ → (fun k_ => some k_ ≠ (v466 : Value).ownBlock ∧ k_ ≠ gb464) k_ from fun k_ hk => ⟨Kd.fresh' (Kd.R_lt (ra_ HO467)) k_ hk, Kd.freshB (g := gb464) (o := .cells #[.int .i64 a0_0, .slice A0_1 l0_1.length c0_1, .slice A0_2 l0_2.length c0_2, .int .i64 a0_3, .int .i64 a0_4, .int .i64 a0_5, .int .i64 a0_6, .int .i64 a0_7, .slice A0_8 l0_8.length c0_8, .int .i64 a0_9] 34 (0, 0)) (bk_ BK464) k_ hk⟩) _ (Nat.le_refl _)) (Below.refl _ _) (Nat.le_refl _) (by simp) ?_; (case hd => rfl); (case hg => rfl); (case hr => first | (go_simp; done) | (go_simp; rfl)); (case hp => exact (Reps.one (show Kd.FK (Kd.slice 73 k73) _ _ t468 [.slice Ao16 t468.length co16] from (Kd.FK_slice_mk (Kd.R_reads' (Kd.R_mono (ok' := (fun k_ => some k_ ≠ (v466 : Value).ownBlock ∧ k_ ≠ gb464)) (Kd.R_types (HO470.out) BK464.out (by decide)) (fun k_ hk => ⟨hk.1.1.2, hk.2⟩))).2.1 (Kd.R_F (Kd.R_mono (ok' := (fun k_ => some k_ ≠ (v466 : Value).ownBlock ∧ k_ ≠ gb464)) (Kd.R_types (HO470.out) BK464.out (by decide)) (fun k_ hk => ⟨hk.1.1.2, hk.2⟩))))) (Reps.one (show Kd.FK (Kd.slice 73 k73) _ _ t471 [.slice Ao17 t471.length co17] from (Kd.FK_slice_mk (Kd.R_reads' (Kd.R_mono (ok' := (fun k_ => some k_ ≠ (v466 : Value).ownBlock ∧ k_ ≠ gb464)) (Kd.R_types (HO473.out) BK464.out (by decide)) (fun k_ hk => ⟨hk.1.1.2, hk.2⟩))).2.1 (Kd.R_F (Kd.R_mono (ok' := (fun k_ => some k_ ≠ (v466 : Value).ownBlock ∧ k_ ≠ gb464)) (Kd.R_types (HO473.out) BK464.out (by decide)) (fun k_ hk => ⟨hk.1.1.2, hk.2⟩))))) (Reps.none _ _))))
 intro v475 w18 ho19 hb hg_ hnew_
 clear hg_ hnew_
 (first | rw [← Ny474.out] at ho19 | (simp only [Int.reduceToNat] at ho19; rw [← Ny474.out] at ho19))
 refine sh4_ (Kd.R_below (ra_ HO467) hb) (Kd.N_lower ho19 (below_size (bl1_ HB GE464))) (blk_below (bk_ BK464) hb) (below_step (bl1_ HB GE464) hb) ?_
 clear HO467 BK464 HB HO470 HO473 hb ho19
 intro HO467 HO476 BK464 HB
 obtain ⟨Ao20, co20, eo20⟩ := Kd.N_slice HO476.out
 (first | subst eo20 | (injection eo20 with f1_ f2_ f3_; have f4_ := f1_.symm; have f5_ := f3_.symm; clear f1_ f2_ f3_; subst f4_; subst f5_))
 refine hK.out _ _ (cz10_ BK464) (fun hHeld => ?_)
 clear hK K
 refine norm_ (show Act.put _ (some 27) _ = _ from pt_) ?_
 refine one_ (i := 17) (N := some 28) #[true, true, true, true, true, true, true, true, true, true, true, true, true, true, true, true, true, true, false, false] rfl rfl (one_of HT_.out (by kernel_rfl)) (by decide) (fun K hK => ?_)
 refine goes_ Try.func49 (by kernel_rfl) rfl #[.slice Ao20 y474.length co20] (by rfl) rfl rfl mp_ ?_
 with_reducible refine (impl_Span_49.calls k _ _ y474 t477 _ ?side1 ?side2 A9.out).mono ?_
 (case side1 => repeat (first | exact (Kd.N_reads' HO476.out).2.2 | (with_reducible refine Kd.C_alloc ?_ _) | (with_reducible refine Kd.C_drewN ?_ _) | (with_reducible refine Kd.C_drew ?_)))
 (case side2 => exact (Kd.N_reads' HO476.out).2.1)
 rintro e w21 ⟨v478, rfl, ho0, hb⟩
 refine ⟨_, rfl, sh5_ (Kd.R_elder' (ra_ HO467) (Kd.R_base ho0) hb) (Kd.N_elder' (by (with_reducible repeat (first | apply Kd.N_alloc | apply Kd.N_drewN | apply Kd.N_drew)); exact HO476.out) (Kd.R_base ho0) hb) (Kd.R_lower (Kd.R_new' ho0 (Kd.R_lt (ra_ HO467))) (below_size (bl1_ HB GE464))) (blk_below (bk_ BK464) hb) (below_step (bl1_ HB GE464) hb) ?_⟩
 clear HO467 HO476 BK464 HB hb ho0
 intro HO467 HO476 HO479 BK464 HB
 obtain ⟨Ao22, co22, eo22⟩ := Kd.R_slice HO467.out
 (first | subst eo22 | (injection eo22 with f1_ f2_ f3_; have f4_ := f1_.symm; have f5_ := f3_.symm; clear f1_ f2_ f3_; subst f4_; subst f5_))
 obtain ⟨Ao23, co23, eo23⟩ := Kd.R_slice HO479.out
 (first | subst eo23 | (injection eo23 with f1_ f2_ f3_; have f4_ := f1_.symm; have f5_ := f3_.symm; clear f1_ f2_ f3_; subst f4_; subst f5_))
 refine hK.out _ _ (cz10_ BK464) (fun hHeld => ?_)
 clear hK K
 refine norm_ (show Act.put _ (some 28) _ = _ from pt_) ?_
 refine onc_ 18 #[true, true, true, true, true, true, true, true, true, true, true, true, true, true, true, true, true, true, true, false] (some 29) HT_ Try.func48 (impl_CutSpans.calls k _ _ t465 _ _ t477 t480 _ (cr_ HO467) (rl_ HO467) (cr_ HO479) (rl_ HO479) A10.out) ?_
 rintro e w24 ⟨v481, rfl, ho0, hb⟩
 refine sh6_ (Kd.R_elder' (ra_ HO467) (Kd.R_base ho0) hb) (Kd.N_elder' (by (with_reducible repeat (first | apply Kd.N_alloc | apply Kd.N_drewN | apply Kd.N_drew)); exact HO476.out) (Kd.R_base ho0) hb) (Kd.R_elder' (ra_ HO479) (Kd.R_base ho0) hb) (Kd.R_lower (Kd.R_new' (Kd.R_new' ho0 (Kd.R_lt (ra_ HO467))) (Kd.R_lt (ra_ HO479))) (below_size (bl1_ HB GE464))) (blk_below (bk_ BK464) hb) (below_step (bl1_ HB GE464) hb) ?_
 clear HO467 HO476 HO479 BK464 HB hb ho0
 intro HO467 HO476 HO479 HO482 BK464 HB
 refine ⟨_, _, rfl, (cz10_ BK464), pt_, fun hHeld => ?_⟩
 refine pur_ 19 #[true, true, true, true, true, true, true, true, true, true, true, true, true, true, true, true, true, true, true, true] (some 10) HT_ ?_
 refine done_ (done_of HT_.out (by kernel_rfl)) ?_
 try go_wp2
 go_ret
 exact ⟨_, er_, by (with_reducible repeat (first | apply Kd.R_alloc | apply Kd.R_drewN | apply Kd.R_drew)); exact Kd.R_mono HO482.out (fun _ hk => trivial), bl1_ HB GE464⟩

/-! ### laws_eqSpan: function 51 -/
def laws_eqSpan.f (a0_0 : Int) (a0_1 : Int) (a1_0 : Int) (a1_1 : Int) : Option (Bool) := if a0_0 = a1_0 then (if a0_1 = a1_1 then (some true) else (some false)) else (some false)
set_option maxHeartbeats 8000000 in
set_option maxRecDepth 100000 in
theorem laws_eqSpan.calls (a0_0 : Int) (a0_1 : Int) (a1_0 : Int) (a1_1 : Int) (r : Bool) (w : World) (h : laws_eqSpan.f a0_0 a0_1 a1_0 a1_1 = some r) :
  Calls Try.prog 51 #[.agg #[.int .i64 a0_0, .int .i64 a0_1], .agg #[.int .i64 a1_0, .int .i64 a1_1]] w fun e w' => e = .returned (.bool r) ∧ Below w.heap.size w w' := by
 have hu73 := Try.underlying73
 have HB := Aside0.mk (Below.refl w.heap.size w)
 have H := h
 clear h
 unfold laws_eqSpan.f at H
 by_cases c3 : a0_0 = a1_0
 ·rw [if_pos c3] at H
  obtain ⟨c3b0, c3b1⟩ := bt_ c3
  clear c3
  by_cases c4 : a0_1 = a1_1
  ·rw [if_pos c4] at H
   obtain ⟨c4b0, c4b1⟩ := bt_ c4
   clear c4
   obtain rfl := Option.some.inj H
   go_enter Try.func51, Try.ntmps51
   go_wp2_with (first | ((with_reducible refine gd_ 2 ?_); refine bx_ 2 73 #[.int .i64 a0_0, .int .i64 a0_1] ?_; intro gb483 hg w5 hbox hb; refine sh3_ (below_step (bl_ HB) hb) hbox (ge_ hg (bl_ HB)) ?_; clear HB hb hbox hg; intro HB BK483 GE483) | ((with_reducible refine gd_ 3 ?_); refine bx_ 3 73 #[.int .i64 a1_0, .int .i64 a1_1] ?_; intro gb484 hg w6 hbox hb; refine sh6_ (blk_below (bk_ BK483) hb) (below_step (bl1_ HB GE483) hb) hbox (ge_ hg (bl1_ HB GE483)) (nl_ hg (bk_ BK483)) (ng_ hg (bk_ BK483)) ?_; clear BK483 HB hb hbox hg; intro BK483 HB BK484 GE484 NB483_484 NB484_483; have hnb7 := NB483_484.out; have hnc7 := NB484_483.out; have hcz8 := cf2_ BK483; have hcz9 := cf2_ BK484))
   go_ret
   exact ⟨er_, bl2_ HB GE483 GE484⟩
  ·rw [if_neg c4] at H
   obtain ⟨c4b0, c4b1⟩ := bn_ c4
   obtain rfl := Option.some.inj H
   go_enter Try.func51, Try.ntmps51
   go_wp2_with (first | ((with_reducible refine gd_ 2 ?_); refine bx_ 2 73 #[.int .i64 a0_0, .int .i64 a0_1] ?_; intro gb483 hg w10 hbox hb; refine sh3_ (below_step (bl_ HB) hb) hbox (ge_ hg (bl_ HB)) ?_; clear HB hb hbox hg; intro HB BK483 GE483) | ((with_reducible refine gd_ 3 ?_); refine bx_ 3 73 #[.int .i64 a1_0, .int .i64 a1_1] ?_; intro gb484 hg w11 hbox hb; refine sh6_ (blk_below (bk_ BK483) hb) (below_step (bl1_ HB GE483) hb) hbox (ge_ hg (bl1_ HB GE483)) (nl_ hg (bk_ BK483)) (ng_ hg (bk_ BK483)) ?_; clear BK483 HB hb hbox hg; intro BK483 HB BK484 GE484 NB483_484 NB484_483; have hnb12 := NB483_484.out; have hnc12 := NB484_483.out; have hcz13 := cf2_ BK483; have hcz14 := cf2_ BK484))
   go_ret
   exact ⟨er_, bl2_ HB GE483 GE484⟩
 ·rw [if_neg c3] at H
  obtain ⟨c3b0, c3b1⟩ := bn_ c3
  obtain rfl := Option.some.inj H
  go_enter Try.func51, Try.ntmps51
  go_wp2_with (first | ((with_reducible refine gd_ 2 ?_); refine bx_ 2 73 #[.int .i64 a0_0, .int .i64 a0_1] ?_; intro gb483 hg w15 hbox hb; refine sh3_ (below_step (bl_ HB) hb) hbox (ge_ hg (bl_ HB)) ?_; clear HB hb hbox hg; intro HB BK483 GE483) | ((with_reducible refine gd_ 3 ?_); refine bx_ 3 73 #[.int .i64 a1_0, .int .i64 a1_1] ?_; intro gb484 hg w16 hbox hb; refine sh6_ (blk_below (bk_ BK483) hb) (below_step (bl1_ HB GE483) hb) hbox (ge_ hg (bl1_ HB GE483)) (nl_ hg (bk_ BK483)) (ng_ hg (bk_ BK483)) ?_; clear BK483 HB hb hbox hg; intro BK483 HB BK484 GE484 NB483_484 NB484_483; have hnb17 := NB483_484.out; have hnc17 := NB484_483.out; have hcz18 := cf2_ BK483; have hcz19 := cf2_ BK484))
  go_ret
  exact ⟨er_, bl2_ HB GE483 GE484⟩

end Go.Proofs.Ytcjfalmhohcifaa.PFnExactSpeakingSpans
