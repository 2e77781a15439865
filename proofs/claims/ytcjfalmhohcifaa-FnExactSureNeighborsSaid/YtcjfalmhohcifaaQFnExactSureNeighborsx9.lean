-- Written by a program of this session for this claim (the kit's printer with changes).
import Derived.Test.YtcjfalmhohcifaaQFnExactSureNeighborsx0
import Derived.Test.YtcjfalmhohcifaaQFnExactSureNeighborsx1
import Derived.Test.YtcjfalmhohcifaaQFnExactSureNeighborsx2
import Derived.Test.YtcjfalmhohcifaaQFnExactSureNeighborsx5
import Derived.Test.YtcjfalmhohcifaaQFnExactSureNeighborsx8
namespace Go.Proofs.Ytcjfalmhohcifaa.PFnExactSureNeighbors
open Go.RowKit Go.Proofs.YtcjfalmhohcifaaW.PrintWords Go.Proofs.YtcjfalmhohcifaaW.PrintLast Go.Proofs.YtcjfalmhohcifaaW.PrintMore
attribute [local go_sem] max2_int min2_int max_two min_two max_three min_three max_four min_four   -- for this text's walks alone
set_option linter.unusedVariables false
set_option linter.unusedSimpArgs false

/-! ### impl_IsSure: function 70 -/
def impl_IsSure.f (k : Nat) (a0_0 : Int) (l0_1 : List (S105)) (l0_2 : List (S109)) (a0_3 : Int) (a0_4 : Int) (a0_5 : Int) (a0_6 : Int) (a0_7 : Int) (l0_8 : List (S115)) (a0_9 : Int) (a1 : Int) (a2 : Int) (a3 : Int) : Option (Bool) := (impl_SightAt.f k a0_0 l0_1 l0_2 a0_3 a0_4 a0_5 a0_6 a0_7 l0_8 a0_9 a1 a2 a3).bind fun t365 => (some (t365 == 2))
theorem impl_IsSure.mono : ∀ a0 a1 a2 a3 a4 a5 a6 a7 a8 a9 a10 a11 a12 k, LeO (impl_IsSure.f k a0 a1 a2 a3 a4 a5 a6 a7 a8 a9 a10 a11 a12) (impl_IsSure.f (k + 1) a0 a1 a2 a3 a4 a5 a6 a7 a8 a9 a10 a11 a12) := by
 intro a0 a1 a2 a3 a4 a5 a6 a7 a8 a9 a10 a11 a12 k
 unfold impl_IsSure.f
 repeat' first | (with_reducible first | exact impl_SightAt.mono _ _ _ _ _ _ _ _ _ _ _ _ _ _ | exact LeO.refl _ | exact LeO.none _ | refine LeO.ite ?_ ?_ | refine LeO.bind ?_ (fun _ => ?_)) | exact LeO.none _ | refine LeO.ite ?_ ?_ | refine LeO.bind ?_ (fun _ => ?_)
set_option maxHeartbeats 8000000 in
set_option maxRecDepth 100000 in
theorem impl_IsSure.calls (k : Nat) (a0_0 : Int) (A0_1 : Option Addr) (c0_1 : Nat) (l0_1 : List (S105)) (A0_2 : Option Addr) (c0_2 : Nat) (l0_2 : List (S109)) (a0_3 : Int) (a0_4 : Int) (a0_5 : Int) (a0_6 : Int) (a0_7 : Int) (A0_8 : Option Addr) (c0_8 : Nat) (l0_8 : List (S115)) (a0_9 : Int) (a1 : Int) (a2 : Int) (a3 : Int) (r : Bool) (w : World) (hr0_1 : Kd.C k105 w A0_1 l0_1.length l0_1) (hc0_1 : l0_1.length ≤ c0_1) (hr0_2 : Kd.C k109 w A0_2 l0_2.length l0_2) (hc0_2 : l0_2.length ≤ c0_2) (hr0_8 : Kd.C k115 w A0_8 l0_8.length l0_8) (hc0_8 : l0_8.length ≤ c0_8) (h : impl_IsSure.f k a0_0 l0_1 l0_2 a0_3 a0_4 a0_5 a0_6 a0_7 l0_8 a0_9 a1 a2 a3 = some r) :
  Calls Try.prog 70 #[.agg #[.int .i64 a0_0, .slice A0_1 l0_1.length c0_1, .slice A0_2 l0_2.length c0_2, .int .i64 a0_3, .int .i64 a0_4, .int .i64 a0_5, .int .i64 a0_6, .int .i64 a0_7, .slice A0_8 l0_8.length c0_8, .int .i64 a0_9], .int .i64 a1, .int .i64 a2, .int .i64 a3] w fun e w' => e = .returned (.bool r) ∧ Below w.heap.size w w' := by
 have hu34 := Try.underlying34
 have HR0_1 := Aside0.mk hr0_1
 have HC0_1 := Aside0.mk hc0_1
 clear hr0_1 hc0_1
 have HR0_2 := Aside0.mk hr0_2
 have HC0_2 := Aside0.mk hc0_2
 clear hr0_2 hc0_2
 have HR0_8 := Aside0.mk hr0_8
 have HC0_8 := Aside0.mk hc0_8
 clear hr0_8 hc0_8
 have HB := Aside0.mk (Below.refl w.heap.size w)
 have H := h
 clear h
 unfold impl_IsSure.f at H
 replace H := bs_ H
 obtain ⟨t365, A5, H⟩ := H
 obtain rfl := Option.some.inj H
 go_enter Try.func70, Try.ntmps70
 go_wp2_with (first | ((with_reducible refine gd_ 4 ?_); refine bx_ 4 34 #[.int .i64 a0_0, .slice A0_1 l0_1.length c0_1, .slice A0_2 l0_2.length c0_2, .int .i64 a0_3, .int .i64 a0_4, .int .i64 a0_5, .int .i64 a0_6, .int .i64 a0_7, .slice A0_8 l0_8.length c0_8, .int .i64 a0_9] ?_; intro gb364 hg w6 hbox hb; refine sh4_ (below_step (bl_ HB) hb) hbox (ge_ hg (bl_ HB)) (ge_ hg (bl_ HB)) ?_; clear HB hb hbox hg; intro HB BK364 GW364 GE364; have hcz7 := cf10_ BK364) | ((with_reducible refine gate_callee (f := 98) rfl ?_); refine gl_ 13 Try.func98 (impl_SightAt.calls k a0_0 _ _ l0_1 _ _ l0_2 a0_3 a0_4 a0_5 a0_6 a0_7 _ _ l0_8 a0_9 a1 a2 a3 t365 _ (ck_ HR0_1 HB) HC0_1.out (ck_ HR0_2 HB) HC0_2.out (ck_ HR0_8 HB) HC0_8.out A5.out) ?_; rintro e w8 ⟨rfl, hb⟩; refine ⟨_, rfl, sh2_ (blk_below (bk_ BK364) hb) (below_step (bl1_ HB GE364) hb) ?_⟩; clear BK364 HB hb; intro BK364 HB))
 go_ret
 exact ⟨er_, bl1_ HB GE364⟩

/-! ### impl_SureNeighbors: function 32 -/
def impl_SureNeighbors.l0 : Nat → Int → Int → List Int → Int → Int → Int → List (S105) → List (S109) → Int → Int → Int → Int → Int → List (S115) → Int → Option (List Int)
 | 0, _, _, _, _, _, _, _, _, _, _, _, _, _, _, _ => none
 | k + 1, x1, x2, x7, x11, x12, x367000, x367001, x367002, x367003, x367004, x367005, x367006, x367007, x367008, x367009 => if x12 < x11 then ((impl_IsSure.f k x367000 x367001 x367002 x367003 x367004 x367005 x367006 x367007 x367008 x367009 x1 x12 x2).bind fun t371 => (if t371 = true then (if x7.length < 17592186044416 then (impl_SureNeighbors.l0 k x1 x2 (x7 ++ [x12]) x11 (wrap64 (x12 + 1)) x367000 x367001 x367002 x367003 x367004 x367005 x367006 x367007 x367008 x367009) else (none)) else (impl_SureNeighbors.l0 k x1 x2 x7 x11 (wrap64 (x12 + 1)) x367000 x367001 x367002 x367003 x367004 x367005 x367006 x367007 x367008 x367009))) else (some x7)
def impl_SureNeighbors.f (k : Nat) (a0_0 : Int) (l0_1 : List (S105)) (l0_2 : List (S109)) (a0_3 : Int) (a0_4 : Int) (a0_5 : Int) (a0_6 : Int) (a0_7 : Int) (l0_8 : List (S115)) (a0_9 : Int) (a1 : Int) (a2 : Int) : Option (List Int) := (impl_NodesOf.f a0_0 l0_1 l0_2 a0_3 a0_4 a0_5 a0_6 a0_7 l0_8 a0_9).bind fun t370 => (impl_SureNeighbors.l0 k a1 a2 (([] : List Int)) t370 0 a0_0 l0_1 l0_2 a0_3 a0_4 a0_5 a0_6 a0_7 l0_8 a0_9)
theorem impl_SureNeighbors.mono_l : ∀ k, (∀ y0 y1 y2 y3 y4 y5 y6 y7 y8 y9 y10 y11 y12 y13 y14, LeO (impl_SureNeighbors.l0 k y0 y1 y2 y3 y4 y5 y6 y7 y8 y9 y10 y11 y12 y13 y14) (impl_SureNeighbors.l0 (k + 1) y0 y1 y2 y3 y4 y5 y6 y7 y8 y9 y10 y11 y12 y13 y14))
 | 0 => fun _ _ _ _ _ _ _ _ _ _ _ _ _ _ _ r h => by simp [impl_SureNeighbors.l0] at h
 | k + 1 => by
  have ih0 := impl_SureNeighbors.mono_l k
  ·intro y0 y1 y2 y3 y4 y5 y6 y7 y8 y9 y10 y11 y12 y13 y14
   unfold impl_SureNeighbors.l0
   repeat' first | (with_reducible first | exact ih0 _ _ _ _ _ _ _ _ _ _ _ _ _ _ _ | exact impl_IsSure.mono _ _ _ _ _ _ _ _ _ _ _ _ _ _ | exact LeO.refl _ | exact LeO.none _ | refine LeO.ite ?_ ?_ | refine LeO.bind ?_ (fun _ => ?_)) | exact LeO.none _ | refine LeO.ite ?_ ?_ | refine LeO.bind ?_ (fun _ => ?_)
theorem impl_SureNeighbors.mono : ∀ a0 a1 a2 a3 a4 a5 a6 a7 a8 a9 a10 a11 k, LeO (impl_SureNeighbors.f k a0 a1 a2 a3 a4 a5 a6 a7 a8 a9 a10 a11) (impl_SureNeighbors.f (k + 1) a0 a1 a2 a3 a4 a5 a6 a7 a8 a9 a10 a11) := by
 intro a0 a1 a2 a3 a4 a5 a6 a7 a8 a9 a10 a11 k
 have ih0 := impl_SureNeighbors.mono_l k
 unfold impl_SureNeighbors.f
 repeat' first | (with_reducible first | exact ih0 _ _ _ _ _ _ _ _ _ _ _ _ _ _ _ | exact impl_IsSure.mono _ _ _ _ _ _ _ _ _ _ _ _ _ _ | exact LeO.refl _ | exact LeO.none _ | refine LeO.ite ?_ ?_ | refine LeO.bind ?_ (fun _ => ?_)) | exact LeO.none _ | refine LeO.ite ?_ ?_ | refine LeO.bind ?_ (fun _ => ?_)
set_option maxHeartbeats 8000000 in
set_option maxRecDepth 100000 in
theorem impl_SureNeighbors.calls (k : Nat) (a0_0 : Int) (A0_1 : Option Addr) (c0_1 : Nat) (l0_1 : List (S105)) (A0_2 : Option Addr) (c0_2 : Nat) (l0_2 : List (S109)) (a0_3 : Int) (a0_4 : Int) (a0_5 : Int) (a0_6 : Int) (a0_7 : Int) (A0_8 : Option Addr) (c0_8 : Nat) (l0_8 : List (S115)) (a0_9 : Int) (a1 : Int) (a2 : Int) (r : List Int) (w : World) (hr0_1 : Kd.C k105 w A0_1 l0_1.length l0_1) (hc0_1 : l0_1.length ≤ c0_1) (hr0_2 : Kd.C k109 w A0_2 l0_2.length l0_2) (hc0_2 : l0_2.length ≤ c0_2) (hr0_8 : Kd.C k115 w A0_8 l0_8.length l0_8) (hc0_8 : l0_8.length ≤ c0_8) (h : impl_SureNeighbors.f k a0_0 l0_1 l0_2 a0_3 a0_4 a0_5 a0_6 a0_7 l0_8 a0_9 a1 a2 = some r) :
  Calls Try.prog 32 #[.agg #[.int .i64 a0_0, .slice A0_1 l0_1.length c0_1, .slice A0_2 l0_2.length c0_2, .int .i64 a0_3, .int .i64 a0_4, .int .i64 a0_5, .int .i64 a0_6, .int .i64 a0_7, .slice A0_8 l0_8.length c0_8, .int .i64 a0_9], .int .i64 a1, .int .i64 a2] w fun e w' => ∃ v0_ : Value, e = .returned (v0_) ∧ Kd.R (Kd.int .i64) 3 w' w.heap.size (fun _ => True) v0_ r ∧ Below w.heap.size w w' := by
 have hu34 := Try.underlying34
 have HR0_1 := Aside0.mk hr0_1
 have HC0_1 := Aside0.mk hc0_1
 clear hr0_1 hc0_1
 have HR0_2 := Aside0.mk hr0_2
 have HC0_2 := Aside0.mk hc0_2
 clear hr0_2 hc0_2
 have HR0_8 := Aside0.mk hr0_8
 have HC0_8 := Aside0.mk hc0_8
 clear hr0_8 hc0_8
 have HB := Aside0.mk (Below.refl w.heap.size w)
 have H := h
 clear h
 unfold impl_SureNeighbors.f at H
 replace H : ∃ y_ : List Int, Aside0 (y_ = (([] : List Int))) ∧ ((impl_NodesOf.f a0_0 l0_1 l0_2 a0_3 a0_4 a0_5 a0_6 a0_7 l0_8 a0_9).bind fun t370 => (impl_SureNeighbors.l0 k a1 a2 y_ t370 0 a0_0 l0_1 l0_2 a0_3 a0_4 a0_5 a0_6 a0_7 l0_8 a0_9)) = some r := ⟨_, ⟨rfl⟩, yh_ H⟩
 obtain ⟨y367, Ny367, H⟩ := H
 replace H := bs_ H
 obtain ⟨t370, A4, H⟩ := H
 have H' := Aside0.mk H
 clear H
 go_enter Try.func32, Try.ntmps32
 go_wp2_with (first | ((with_reducible refine gd_ 3 ?_); refine bx_ 3 34 #[.int .i64 a0_0, .slice A0_1 l0_1.length c0_1, .slice A0_2 l0_2.length c0_2, .int .i64 a0_3, .int .i64 a0_4, .int .i64 a0_5, .int .i64 a0_6, .int .i64 a0_7, .slice A0_8 l0_8.length c0_8, .int .i64 a0_9] ?_; intro gb366 hg w5 hbox hb; refine sh4_ (below_step (bl_ HB) hb) hbox (ge_ hg (bl_ HB)) (ge_ hg (bl_ HB)) ?_; clear HB hb hbox hg; intro HB BK366 GW366 GE366) | ((with_reducible refine gate_dst (N := 9) rfl ?_); refine Kd.R_lit (Kd.int .i64) _ 3 ?hg (N := 9) ?hd (xs := ([] : List Int)) (inner := []) (ok := fun _ => True) (okp := fun _ => True) ?hr ?hp (fun _ hk => hk) trivial (Below.refl _ _) (Nat.le_refl _) (by simp) ?_; (case hd => rfl); (case hg => rfl); (case hr => first | (go_simp; done) | (go_simp; rfl)); (case hp => exact (Reps.none _ _)); intro v368 w6 ho7 hb hg_ hnew_; clear hg_ hnew_; (first | rw [← Ny367.out] at ho7 | (simp only [Int.reduceToNat] at ho7; rw [← Ny367.out] at ho7)); refine sh3_ (Kd.R_lower ho7 (below_size (bl1_ HB GE366))) (blk_below (bk_ BK366) hb) (below_step (bl1_ HB GE366) hb) ?_; clear BK366 HB hb ho7; intro HO369 BK366 HB; have hcz8 := cf10_ BK366) | ((with_reducible refine gate_callee (f := 69) rfl ?_); refine gl_ 11 Try.func69 (impl_NodesOf.calls a0_0 _ _ l0_1 _ _ l0_2 a0_3 a0_4 a0_5 a0_6 a0_7 _ _ l0_8 a0_9 t370 _ (ck_ HR0_1 HB) HC0_1.out (ck_ HR0_2 HB) HC0_2.out (ck_ HR0_8 HB) HC0_8.out A4.out) ?_; rintro e w9 ⟨rfl, hb⟩; refine ⟨_, rfl, sh3_ (Kd.R_below (ra_ HO369) hb) (blk_below (bk_ BK366) hb) (below_step (bl1_ HB GE366) hb) ?_⟩; clear HO369 BK366 HB hb; intro HO369 BK366 HB))
 go_loopg [7, 12] k (fun kq v7 v12 w' => ∃ (x7_1 : List Int) (x12_1 : Int), v12 = .int .i64 x12_1 ∧ Aside0 (impl_SureNeighbors.l0 kq a1 a2 x7_1 t370 x12_1 a0_0 l0_1 l0_2 a0_3 a0_4 a0_5 a0_6 a0_7 l0_8 a0_9 = some r) ∧ Aside0 (kq ≤ k) ∧ Aside0 (Kd.R (Kd.int .i64) 3 w' w.heap.size (fun _ => True) v7 x7_1) ∧ Aside0 (w'.heap[gb366]? = some (.cells #[.int .i64 a0_0, (.slice A0_1 l0_1.length c0_1), (.slice A0_2 l0_2.length c0_2), .int .i64 a0_3, .int .i64 a0_4, .int .i64 a0_5, .int .i64 a0_6, .int .i64 a0_7, (.slice A0_8 l0_8.length c0_8), .int .i64 a0_9] 34 (0, 0))) ∧ Aside0 (Below w.heap.size w w'))
 case atStart => exact ⟨(y367), (0), (by first | rfl | (simp; done) | (simp [*]; done)), H', ⟨Nat.le_refl _⟩, ⟨ra_ HO369⟩, ⟨by (with_reducible repeat (first | refine blk_drewN ?_ _ | refine blk_drew ?_ | refine blk_alloc ?_ _)); exact BK366.out⟩, ⟨bl1_ HB GE366⟩⟩
 case round =>
  clear H'
  try clear p2
  try clear c3
  try clear c6
  try clear hcz8
  obtain ⟨x7_1, x12_1, rfl, HA, HK1, HO_7, BK366, HB⟩ := hrel
  cases gk with
  | zero => exact absurd HA.out (by simp [impl_SureNeighbors.l0])
  | succ k1 =>
   have H := HA.out
   clear HA
   simp only [impl_SureNeighbors.l0] at H
   by_cases c10 : x12_1 < t370
   ·rw [if_pos c10] at H
    have c10b0 := decide_eq_true c10
    clear c10
    replace H := bs_ H
    obtain ⟨t371, A11, H⟩ := H
    by_cases c12 : t371 = true
    ·subst c12
     rw [if_pos rfl] at H
     replace H := ifn_ H
     obtain ⟨c13, H⟩ := H
     have LMc13 := Aside0.mk c13
     clear c13
     replace H : ∃ y_ : List Int, Aside0 (y_ = (x7_1 ++ [x12_1])) ∧ (impl_SureNeighbors.l0 k1 a1 a2 y_ t370 (wrap64 (x12_1 + 1)) a0_0 l0_1 l0_2 a0_3 a0_4 a0_5 a0_6 a0_7 l0_8 a0_9) = some r := ⟨_, ⟨rfl⟩, yh_ H⟩
     obtain ⟨y372, Ny372, H⟩ := H
     have H' := Aside0.mk H
     clear H
     have hcz14 := cf10_ BK366
     go_wp2_with (first | ((with_reducible refine gate_callee (f := 70) rfl ?_); refine gl_ 19 Try.func70 (impl_IsSure.calls k1 a0_0 _ _ l0_1 _ _ l0_2 a0_3 a0_4 a0_5 a0_6 a0_7 _ _ l0_8 a0_9 a1 x12_1 a2 true _ (ck_ HR0_1 HB) HC0_1.out (ck_ HR0_2 HB) HC0_2.out (ck_ HR0_8 HB) HC0_8.out A11.out) ?_; rintro e w15 ⟨rfl, hb⟩; refine ⟨_, rfl, sh3_ (Kd.R_below (ra_ HO_7) hb) (blk_below (bk_ BK366) hb) (below_step (bl1_ HB GE366) hb) ?_⟩; clear HO_7 BK366 HB hb; intro HO_7 BK366 HB) | ((with_reducible refine gate_builtin (b := .append) (xs := #[.tmp 20, .tmp 22]) rfl ?_); at_builtin; refine Kd.R_append (Kd.int .i64) (w0 := w) w.heap.size rfl (.tmp 20) (.tmp 22) 56 3 (.int .i64 0) 8 rfl Try.underlying56 info3 rfl (by decide) (by omega) u7 x7_1 x12_1 [.int .i64 x12_1] (fun _ => True) (fun _ => False) rfl rfl ?aP (fun _ hk => hk.elim) ?aF ?aO ?aB ?aS ?aL ?_; (case aP => exact rfl); (case aB => exact (bl1_ HB GE366)); (case aF => exact (fun _ _ => trivial)); (case aO => exact (ra_ HO_7)); (case aS => exact (below_size (bl1_ HB GE366))); (case aL => have := LMc13.out; omega); intro v373 w16 ho hb hg hat; rw [← Ny372.out] at ho; refine sh3_ (blk_grown (g := gb366) (o := .cells #[.int .i64 a0_0, .slice A0_1 l0_1.length c0_1, .slice A0_2 l0_2.length c0_2, .int .i64 a0_3, .int .i64 a0_4, .int .i64 a0_5, .int .i64 a0_6, .int .i64 a0_7, .slice A0_8 l0_8.length c0_8, .int .i64 a0_9] 34 (0, 0)) (bk_ BK366) hg (Kd.R_ne HO_7.out BK366.out (by decide))) hb ho ?_; clear BK366 HB HO_7 ho hb hg hat; intro BK366 HB HO374))
     go_roundg k1
     case measure => have := HK1.out; omega
     case rel => exact ⟨(y372), (wrap64 (x12_1 + 1)), (by first | rfl | (simp; done) | (simp [*]; done)), H', ⟨by have := HK1.out; omega⟩, ⟨ra_ HO374⟩, ⟨by (with_reducible repeat (first | refine blk_drewN ?_ _ | refine blk_drew ?_ | refine blk_alloc ?_ _)); exact BK366.out⟩, ⟨bl1_ HB GE366⟩⟩
    ·replace c12 := Bool.eq_false_iff.mpr c12
     subst c12
     have H1 : (impl_SureNeighbors.l0 k1 a1 a2 x7_1 t370 (wrap64 (x12_1 + 1)) a0_0 l0_1 l0_2 a0_3 a0_4 a0_5 a0_6 a0_7 l0_8 a0_9) = some r := by rw [if_neg (show ¬ (false = true) by decide)] at H; exact H
     clear H
     have H := H1
     clear H1
     have H' := Aside0.mk H
     clear H
     have hcz17 := cf10_ BK366
     go_wp2_with (first | ((with_reducible refine gate_callee (f := 70) rfl ?_); refine gl_ 19 Try.func70 (impl_IsSure.calls k1 a0_0 _ _ l0_1 _ _ l0_2 a0_3 a0_4 a0_5 a0_6 a0_7 _ _ l0_8 a0_9 a1 x12_1 a2 false _ (ck_ HR0_1 HB) HC0_1.out (ck_ HR0_2 HB) HC0_2.out (ck_ HR0_8 HB) HC0_8.out A11.out) ?_; rintro e w18 ⟨rfl, hb⟩; refine ⟨_, rfl, sh3_ (Kd.R_below (ra_ HO_7) hb) (blk_below (bk_ BK366) hb) (below_step (bl1_ HB GE366) hb) ?_⟩; clear HO_7 BK366 HB hb; intro HO_7 BK366 HB))
     go_roundg k1
     case measure => have := HK1.out; omega
     case rel => exact ⟨(x7_1), (wrap64 (x12_1 + 1)), (by first | rfl | (simp; done) | (simp [*]; done)), H', ⟨by have := HK1.out; omega⟩, ⟨ra_ HO_7⟩, ⟨by (with_reducible repeat (first | refine blk_drewN ?_ _ | refine blk_drew ?_ | refine blk_alloc ?_ _)); exact BK366.out⟩, ⟨bl1_ HB GE366⟩⟩
   ·rw [if_neg c10] at H
    have c10b0 := decide_eq_false c10
    clear c10
    obtain rfl := Option.some.inj H
    go_wp2
    go_ret
    exact ⟨_, er_, ra_ HO_7, bl1_ HB GE366⟩

/-! ### laws_eqIntS: function 33 -/
def laws_eqIntS.l0 : Nat → List Int → List Int → Int → Option (Bool)
 | 0, _, _, _ => none
 | k + 1, x0, x1, x5 => if x5 < (x0.length : Int) then (if 0 ≤ x5 then (if x5 < (x1.length : Int) then (if (rd x0 x5) = (rd x1 x5) then (laws_eqIntS.l0 k x0 x1 (wrap64 (x5 + 1))) else (some false)) else (none)) else (none)) else (some true)
def laws_eqIntS.f (k : Nat) (l0 : List Int) (l1 : List Int) : Option (Bool) := if (l0.length : Int) = (l1.length : Int) then (laws_eqIntS.l0 k l0 l1 0) else (some false)
theorem laws_eqIntS.mono_l : ∀ k, (∀ y0 y1 y2, LeO (laws_eqIntS.l0 k y0 y1 y2) (laws_eqIntS.l0 (k + 1) y0 y1 y2))
 | 0 => fun _ _ _ r h => by simp [laws_eqIntS.l0] at h
 | k + 1 => by
  have ih0 := laws_eqIntS.mono_l k
  ·intro y0 y1 y2
   unfold laws_eqIntS.l0
   repeat' first | (with_reducible first | exact ih0 _ _ _ | exact LeO.refl _ | exact LeO.none _ | refine LeO.ite ?_ ?_ | refine LeO.bind ?_ (fun _ => ?_)) | exact LeO.none _ | refine LeO.ite ?_ ?_ | refine LeO.bind ?_ (fun _ => ?_)
theorem laws_eqIntS.mono : ∀ a0 a1 k, LeO (laws_eqIntS.f k a0 a1) (laws_eqIntS.f (k + 1) a0 a1) := by
 intro a0 a1 k
 have ih0 := laws_eqIntS.mono_l k
 unfold laws_eqIntS.f
 repeat' first | (with_reducible first | exact ih0 _ _ _ | exact LeO.refl _ | exact LeO.none _ | refine LeO.ite ?_ ?_ | refine LeO.bind ?_ (fun _ => ?_)) | exact LeO.none _ | refine LeO.ite ?_ ?_ | refine LeO.bind ?_ (fun _ => ?_)
set_option maxHeartbeats 8000000 in
set_option maxRecDepth 100000 in
theorem laws_eqIntS.calls (k : Nat) (A0 : Option Addr) (c0 : Nat) (l0 : List Int) (A1 : Option Addr) (c1 : Nat) (l1 : List Int) (r : Bool) (w : World) (hr0 : Kd.C (Kd.int .i64) w A0 l0.length l0) (hc0 : l0.length ≤ c0) (hr1 : Kd.C (Kd.int .i64) w A1 l1.length l1) (hc1 : l1.length ≤ c1) (h : laws_eqIntS.f k l0 l1 = some r) :
  Calls Try.prog 33 #[.slice A0 l0.length c0, .slice A1 l1.length c1] w fun e w' => e = .returned (.bool r) ∧ Drawn0 w w' := by
 have HR0 := Aside0.mk hr0
 have HC0 := Aside0.mk hc0
 clear hr0 hc0
 have HR1 := Aside0.mk hr1
 have HC1 := Aside0.mk hc1
 clear hr1 hc1
 have H := h
 clear h
 unfold laws_eqIntS.f at H
 by_cases c3 : (l0.length : Int) = (l1.length : Int)
 ·rw [if_pos c3] at H
  obtain ⟨c3b0, c3b1⟩ := bt_ c3
  have c3b2 : (l0.length == l1.length) = true := by first | simpa using c3 | (simp at c3 ⊢; omega)
  clear c3
  have H' := Aside0.mk H
  clear H
  go_enter Try.func33, Try.ntmps33
  go_wp2
  repeat (go_quiet (fail); try go_wp2)
  go_loopg [5] k (fun kq v5 w' => ∃ (x5_1 : Int), v5 = .int .i64 x5_1 ∧ Aside0 (laws_eqIntS.l0 kq l0 l1 x5_1 = some r) ∧ Aside0 (kq ≤ k) ∧ Drawn0 w w')
  case atStart => exact ⟨(0), (by first | rfl | (simp; done) | (simp [*]; done)), H', ⟨Nat.le_refl _⟩, by repeat (first | exact Drawn0.refl _ | apply Drawn0.step)⟩
  case round =>
   clear H'
   try clear c1
   try clear p2
   try clear c3
   try clear c3b0
   try clear c3b1
   try clear c3b2
   obtain ⟨x5_1, rfl, HA, HK1, ⟨m1, rfl⟩⟩ := hrel
   cases gk with
   | zero => exact absurd HA.out (by simp [laws_eqIntS.l0])
   | succ k1 =>
    have H := HA.out
    clear HA
    simp only [laws_eqIntS.l0] at H
    by_cases c4 : x5_1 < (l0.length : Int)
    ·rw [if_pos c4] at H
     have c4b0 := decide_eq_true c4
     clear c4
     replace H := ifn_ H
     obtain ⟨c5, H⟩ := H
     have c5b0 := decide_eq_true c5
     clear c5
     replace H := ifn_ H
     obtain ⟨c6, H⟩ := H
     have c6b0 := decide_eq_true c6
     clear c6
     by_cases c7 : (rd l0 x5_1) = (rd l1 x5_1)
     ·rw [if_pos c7] at H
      obtain ⟨c7b0, c7b1⟩ := bt_ c7
      clear c7
      have H' := Aside0.mk H
      clear H
      have p375 : 0 ≤ (x5_1 : Int) := od_
      have q375 : x5_1 < (l0.length : Int) := od_
      obtain ⟨ad375, e375, hx375_0⟩ := Kd.at_int HR0.out x5_1 p375 q375
      cases e375
      replace p375 := eq_true p375
      replace q375 := eq_true q375
      have p376 : 0 ≤ (x5_1 : Int) := od_
      have q376 : x5_1 < (l1.length : Int) := od_
      obtain ⟨ad376, e376, hx376_0⟩ := Kd.at_int HR1.out x5_1 p376 q376
      cases e376
      replace p376 := eq_true p376
      replace q376 := eq_true q376
      go_wp2
      repeat (go_quiet (fail); try go_wp2)
      go_roundg k1
      case measure => have := HK1.out; omega
      case rel => exact ⟨(wrap64 (x5_1 + 1)), (by first | rfl | (simp; done) | (simp [*]; done)), H', ⟨by have := HK1.out; omega⟩, by repeat (first | exact Drawn0.refl _ | apply Drawn0.step)⟩
     ·rw [if_neg c7] at H
      obtain ⟨c7b0, c7b1⟩ := bn_ c7
      obtain rfl := Option.some.inj H
      have p375 : 0 ≤ (x5_1 : Int) := od_
      have q375 : x5_1 < (l0.length : Int) := od_
      obtain ⟨ad375, e375, hx375_0⟩ := Kd.at_int HR0.out x5_1 p375 q375
      cases e375
      replace p375 := eq_true p375
      replace q375 := eq_true q375
      have p376 : 0 ≤ (x5_1 : Int) := od_
      have q376 : x5_1 < (l1.length : Int) := od_
      obtain ⟨ad376, e376, hx376_0⟩ := Kd.at_int HR1.out x5_1 p376 q376
      cases e376
      replace p376 := eq_true p376
      replace q376 := eq_true q376
      go_wp2
      repeat (go_quiet (fail); try go_wp2)
      go_ret
      exact ⟨by first | rfl | (simp; done) | (simp [*]; done), by repeat (first | exact Drawn0.refl _ | apply Drawn0.step)⟩
    ·rw [if_neg c4] at H
     have c4b0 := decide_eq_false c4
     clear c4
     obtain rfl := Option.some.inj H
     go_wp2
     repeat (go_quiet (fail); try go_wp2)
     go_ret
     exact ⟨by first | rfl | (simp; done) | (simp [*]; done), by repeat (first | exact Drawn0.refl _ | apply Drawn0.step)⟩
 ·rw [if_neg c3] at H
  obtain ⟨c3b0, c3b1⟩ := bn_ c3
  have c3b2 : (l0.length == l1.length) = false := by first | simpa using c3 | (simp at c3 ⊢; omega)
  obtain rfl := Option.some.inj H
  go_enter Try.func33, Try.ntmps33
  go_wp2
  repeat (go_quiet (fail); try go_wp2)
  go_ret
  exact ⟨by first | rfl | (simp; done) | (simp [*]; done), by repeat (first | exact Drawn0.refl _ | apply Drawn0.step)⟩

/-! ### laws_markIntS: function 34 -/
def laws_markIntS.l0 : Nat → List Int → Int → Int → Option (Int × List Int)
 | 0, _, _, _ => none
 | k + 1, x0, x1, x5 => if x5 < (x0.length : Int) then (if 0 ≤ x5 then (laws_markIntS.l0 k (x0.set (x5 : Int).toNat x1) (wrap64 (x1 + 1)) (wrap64 (x5 + 1))) else (none)) else (some (x1, x0))
def laws_markIntS.f (k : Nat) (l0 : List Int) (a1 : Int) : Option (Int × List Int) := laws_markIntS.l0 k l0 a1 0
theorem laws_markIntS.mono_l : ∀ k, (∀ y0 y1 y2, LeO (laws_markIntS.l0 k y0 y1 y2) (laws_markIntS.l0 (k + 1) y0 y1 y2))
 | 0 => fun _ _ _ r h => by simp [laws_markIntS.l0] at h
 | k + 1 => by
  have ih0 := laws_markIntS.mono_l k
  ·intro y0 y1 y2
   unfold laws_markIntS.l0
   repeat' first | (with_reducible first | exact ih0 _ _ _ | exact LeO.refl _ | exact LeO.none _ | refine LeO.ite ?_ ?_ | refine LeO.bind ?_ (fun _ => ?_)) | exact LeO.none _ | refine LeO.ite ?_ ?_ | refine LeO.bind ?_ (fun _ => ?_)
theorem laws_markIntS.mono : ∀ a0 a1 k, LeO (laws_markIntS.f k a0 a1) (laws_markIntS.f (k + 1) a0 a1) := by
 intro a0 a1 k
 have ih0 := laws_markIntS.mono_l k
 unfold laws_markIntS.f
 repeat' first | (with_reducible first | exact ih0 _ _ _ | exact LeO.refl _ | exact LeO.none _ | refine LeO.ite ?_ ?_ | refine LeO.bind ?_ (fun _ => ?_)) | exact LeO.none _ | refine LeO.ite ?_ ?_ | refine LeO.bind ?_ (fun _ => ?_)
set_option maxHeartbeats 8000000 in
set_option maxRecDepth 100000 in
theorem laws_markIntS.calls (k : Nat) (P0_ : Nat → Prop) (u9000_ : Value) (l0 : List Int) (a1 : Int) (r1 : Int) (r2 : List Int) (w0 w : World) (hB : Below w0.heap.size w0 w) (ho0 : Kd.R (Kd.int .i64) 3 w w0.heap.size P0_ u9000_ l0) (h : laws_markIntS.f k l0 a1 = some (r1, r2)) :
  Calls Try.prog 34 #[u9000_, .int .i64 a1] w fun e w' => e = .returned (.int .i64 r1) ∧ Kd.R (Kd.int .i64) 3 w' w0.heap.size (fun k_ => (P0_ k_ ∨ w.heap.size ≤ k_)) u9000_ r2 ∧ Below w0.heap.size w0 w' ∧ Kept w w' (fun k_ => P0_ k_) := by
 have HO0 := Aside0.mk (show Kd.R (Kd.int .i64) 3 w w0.heap.size (fun k_ => (P0_ k_ ∨ w.heap.size ≤ k_)) u9000_ l0 from Kd.R_mono ho0 (fun k_ hk => (.inl hk)))
 have HK := Aside0.mk (Kept.refl w (fun k_ => P0_ k_))
 have HW0 := Aside0.mk hB.size
 have HB := Aside0.mk hB
 clear hB
 have H := h
 clear h
 unfold laws_markIntS.f at H
 have H' := Aside0.mk H
 clear H
 go_enter Try.func34, Try.ntmps34
 go_wp2
 go_loopg [1, 5] k (fun kq v1 v5 w' => ∃ (x0_1 : List Int) (x1_1 : Int) (x5_1 : Int), v1 = .int .i64 x1_1 ∧ v5 = .int .i64 x5_1 ∧ Aside0 (laws_markIntS.l0 kq x0_1 x1_1 x5_1 = some (r1, r2)) ∧ Aside0 (kq ≤ k) ∧ Aside0 (Kd.R (Kd.int .i64) 3 w' w0.heap.size (fun k_ => (P0_ k_ ∨ w.heap.size ≤ k_)) u9000_ x0_1) ∧ Aside0 (Kept w w' (fun k_ => P0_ k_)) ∧ Aside0 (Below w0.heap.size w0 w'))
 case atStart => exact ⟨(l0), (a1), (0), (by first | rfl | (simp; done) | (simp [*]; done)), (by first | rfl | (simp; done) | (simp [*]; done)), H', ⟨Nat.le_refl _⟩, ⟨ra_ HO0⟩, ⟨by repeat (first | (with_reducible first | exact HK.out | apply Kept.alloc | apply Kept.drewN | apply Kept.drew) | exact HK.out)⟩, ⟨bl_ HB⟩⟩
 case round =>
  clear H'
  try clear p2
  obtain ⟨x0_1, x1_1, x5_1, rfl, rfl, HA, HK1, HO_0, HK, HB⟩ := hrel
  cases gk with
  | zero => exact absurd HA.out (by simp [laws_markIntS.l0])
  | succ k1 =>
   have H := HA.out
   clear HA
   simp only [laws_markIntS.l0] at H
   by_cases c3 : x5_1 < (x0_1.length : Int)
   ·rw [if_pos c3] at H
    have c3b0 := decide_eq_true c3
    clear c3
    replace H := ifn_ H
    obtain ⟨c4, H⟩ := H
    have c4b0 := decide_eq_true c4
    clear c4
    replace H : ∃ y_ : List Int, Aside0 (y_ = (x0_1.set (x5_1 : Int).toNat x1_1)) ∧ (laws_markIntS.l0 k1 y_ (wrap64 (x1_1 + 1)) (wrap64 (x5_1 + 1))) = some (r1, r2) := ⟨_, ⟨rfl⟩, yh_ H⟩
    obtain ⟨y377, Ny377, H⟩ := H
    have H' := Aside0.mk H
    clear H
    obtain ⟨Ao6, co6, eo6⟩ := Kd.R_slice HO_0.out
    subst eo6
    have p5 : 0 ≤ (x5_1 : Int) := od_
    have q5 : (x5_1 : Int) < ((x0_1.length : Int) : Int) := od_
    obtain ⟨go5, co5, eo5, gb5, gl5, cl5, HG5⟩ := Kd.R_form HO_0.out (by omega)
    (first | cases eo5 | (injection eo5 with ea_ en_ ec_; (first | subst ea_ | (injection ea_ with ea_; subst ea_)); subst ec_; clear en_))
    have GB5 := Aside0.mk gb5
    have GG5 := Aside0.mk HG5
    clear gb5 gl5 HG5
    have HMgo5 := Aside0.mk (show (P0_ go5 ∨ w.heap.size ≤ go5) from (HO_0.out.1 _ rfl))
    obtain ⟨hx5_0, hf5_0⟩ := Kd.R_celln 0 HO_0.out (x5_1 : Int) p5 q5
    replace p5 := eq_true p5
    replace q5 := eq_true q5
    have HP7 := Kd.R_putg HO_0.out (x5_1 : Int) x1_1
    go_wp2_with (first | ((with_reducible refine gate_store (t := 3) (p := 15) rfl ?_); refine store_event (t := 3) (p := 15) (v := ?vo_w8) (w1 := (wr.setCell ⟨go5, (x5_1 : Int).toNat, none⟩ (.int .i64 x1_1))) ?hg ?ho ?hn ?hr ?_; (case ho => rfl); (case hg => rfl); (case hn => rfl); (case hr => first | (go_simp; done) | (go_simp; rfl)); intro w8 hw; have hg : wr.grownBy w8 (some go5) := (by rw [hw]; exact HP7.2); have hp_ : Kd.R (Kd.int .i64) 3 w8 w0.heap.size (fun k_ => (P0_ k_ ∨ w.heap.size ≤ k_)) (.slice (some ⟨go5, 0, none⟩) x0_1.length co6) y377 := (by rw [hw, Ny377.out]; exact HP7.1); clear HP7; refine sh3_ hp_ ((by rw [hw]; exact below_set (HB.out) GB5.out : Below w0.heap.size w0 w8)) (Kept.of_grown (S := (fun k_ => P0_ k_)) hg (by repeat (first | (with_reducible first | exact HK.out | apply Kept.alloc | apply Kept.drewN | apply Kept.drew) | exact HK.out)) (fun k_ e_ => (HO_0.out.1 k_ e_))) ?_; clear HO_0 HB HK; intro HO_0 HB HK; clear hg hw hp_))
    go_roundg k1
    case measure => have := HK1.out; omega
    case rel => exact ⟨(y377), (wrap64 (x1_1 + 1)), (wrap64 (x5_1 + 1)), (by first | rfl | (simp; done) | (simp [*]; done)), (by first | rfl | (simp; done) | (simp [*]; done)), H', ⟨by have := HK1.out; omega⟩, ⟨ra_ HO_0⟩, ⟨by repeat (first | (with_reducible first | exact HK.out | apply Kept.alloc | apply Kept.drewN | apply Kept.drew) | exact HK.out)⟩, ⟨bl_ HB⟩⟩
   ·rw [if_neg c3] at H
    have c3b0 := decide_eq_false c3
    clear c3
    simp only [Option.some.injEq, Prod.mk.injEq] at H
    obtain ⟨rfl, rfl⟩ := H
    obtain ⟨Ao9, co9, eo9⟩ := Kd.R_slice HO_0.out
    subst eo9
    go_wp2
    go_ret
    exact ⟨er_, ra_ HO_0, bl_ HB, by repeat (first | (with_reducible first | exact HK.out | apply Kept.alloc | apply Kept.drewN | apply Kept.drew) | exact HK.out)⟩

/-! ### laws_heldIntS: function 35 -/
def laws_heldIntS.l0 : Nat → List Int → Int → Int → Option (Int)
 | 0, _, _, _ => none
 | k + 1, x0, x1, x5 => if x5 < (x0.length : Int) then (if 0 ≤ x5 then (if (rd x0 x5) = x1 then (laws_heldIntS.l0 k x0 (wrap64 (x1 + 1)) (wrap64 (x5 + 1))) else (some (-1))) else (none)) else (some x1)
def laws_heldIntS.f (k : Nat) (l0 : List Int) (a1 : Int) : Option (Int) := laws_heldIntS.l0 k l0 a1 0
theorem laws_heldIntS.mono_l : ∀ k, (∀ y0 y1 y2, LeO (laws_heldIntS.l0 k y0 y1 y2) (laws_heldIntS.l0 (k + 1) y0 y1 y2))
 | 0 => fun _ _ _ r h => by simp [laws_heldIntS.l0] at h
 | k + 1 => by
  have ih0 := laws_heldIntS.mono_l k
  ·intro y0 y1 y2
   unfold laws_heldIntS.l0
   repeat' first | (with_reducible first | exact ih0 _ _ _ | exact LeO.refl _ | exact LeO.none _ | refine LeO.ite ?_ ?_ | refine LeO.bind ?_ (fun _ => ?_)) | exact LeO.none _ | refine LeO.ite ?_ ?_ | refine LeO.bind ?_ (fun _ => ?_)
theorem laws_heldIntS.mono : ∀ a0 a1 k, LeO (laws_heldIntS.f k a0 a1) (laws_heldIntS.f (k + 1) a0 a1) := by
 intro a0 a1 k
 have ih0 := laws_heldIntS.mono_l k
 unfold laws_heldIntS.f
 repeat' first | (with_reducible first | exact ih0 _ _ _ | exact LeO.refl _ | exact LeO.none _ | refine LeO.ite ?_ ?_ | refine LeO.bind ?_ (fun _ => ?_)) | exact LeO.none _ | refine LeO.ite ?_ ?_ | refine LeO.bind ?_ (fun _ => ?_)
set_option maxHeartbeats 8000000 in
set_option maxRecDepth 100000 in
theorem laws_heldIntS.calls (k : Nat) (A0 : Option Addr) (c0 : Nat) (l0 : List Int) (a1 : Int) (r : Int) (w : World) (hr0 : Kd.C (Kd.int .i64) w A0 l0.length l0) (hc0 : l0.length ≤ c0) (h : laws_heldIntS.f k l0 a1 = some r) :
  Calls Try.prog 35 #[.slice A0 l0.length c0, .int .i64 a1] w fun e w' => e = .returned (.int .i64 r) ∧ Drawn0 w w' := by
 have HR0 := Aside0.mk hr0
 have HC0 := Aside0.mk hc0
 clear hr0 hc0
 have H := h
 clear h
 unfold laws_heldIntS.f at H
 have H' := Aside0.mk H
 clear H
 go_enter Try.func35, Try.ntmps35
 go_wp2
 go_loopg [1, 5] k (fun kq v1 v5 w' => ∃ (x1_1 : Int) (x5_1 : Int), v1 = .int .i64 x1_1 ∧ v5 = .int .i64 x5_1 ∧ Aside0 (laws_heldIntS.l0 kq l0 x1_1 x5_1 = some r) ∧ Aside0 (kq ≤ k) ∧ Drawn0 w w')
 case atStart => exact ⟨(a1), (0), (by first | rfl | (simp; done) | (simp [*]; done)), (by first | rfl | (simp; done) | (simp [*]; done)), H', ⟨Nat.le_refl _⟩, by repeat (first | exact Drawn0.refl _ | apply Drawn0.step)⟩
 case round =>
  clear H'
  try clear p2
  obtain ⟨x1_1, x5_1, rfl, rfl, HA, HK1, ⟨m1, rfl⟩⟩ := hrel
  cases gk with
  | zero => exact absurd HA.out (by simp [laws_heldIntS.l0])
  | succ k1 =>
   have H := HA.out
   clear HA
   simp only [laws_heldIntS.l0] at H
   by_cases c3 : x5_1 < (l0.length : Int)
   ·rw [if_pos c3] at H
    have c3b0 := decide_eq_true c3
    clear c3
    replace H := ifn_ H
    obtain ⟨c4, H⟩ := H
    have c4b0 := decide_eq_true c4
    clear c4
    by_cases c5 : (rd l0 x5_1) = x1_1
    ·rw [if_pos c5] at H
     obtain ⟨c5b0, c5b1⟩ := bt_ c5
     clear c5
     have H' := Aside0.mk H
     clear H
     have p378 : 0 ≤ (x5_1 : Int) := od_
     have q378 : x5_1 < (l0.length : Int) := od_
     obtain ⟨ad378, e378, hx378_0⟩ := Kd.at_int HR0.out x5_1 p378 q378
     cases e378
     replace p378 := eq_true p378
     replace q378 := eq_true q378
     go_wp2
     go_roundg k1
     case measure => have := HK1.out; omega
     case rel => exact ⟨(wrap64 (x1_1 + 1)), (wrap64 (x5_1 + 1)), (by first | rfl | (simp; done) | (simp [*]; done)), (by first | rfl | (simp; done) | (simp [*]; done)), H', ⟨by have := HK1.out; omega⟩, by repeat (first | exact Drawn0.refl _ | apply Drawn0.step)⟩
    ·rw [if_neg c5] at H
     obtain ⟨c5b0, c5b1⟩ := bn_ c5
     obtain rfl := Option.some.inj H
     have p378 : 0 ≤ (x5_1 : Int) := od_
     have q378 : x5_1 < (l0.length : Int) := od_
     obtain ⟨ad378, e378, hx378_0⟩ := Kd.at_int HR0.out x5_1 p378 q378
     cases e378
     replace p378 := eq_true p378
     replace q378 := eq_true q378
     go_wp2
     go_ret
     exact ⟨by first | rfl | (simp; done) | (simp [*]; done), by repeat (first | exact Drawn0.refl _ | apply Drawn0.step)⟩
   ·rw [if_neg c3] at H
    have c3b0 := decide_eq_false c3
    clear c3
    obtain rfl := Option.some.inj H
    go_wp2
    go_ret
    exact ⟨by first | rfl | (simp; done) | (simp [*]; done), by repeat (first | exact Drawn0.refl _ | apply Drawn0.step)⟩

/-! ### laws_FnExactSureNeighbors: function 6 -/
def laws_FnExactSureNeighbors.j0 : Nat → Int → Int → List Int → List Int → Bool → Int → List (S107) → List (S111) → Int → Int → Int → Int → Int → List (S119) → Int → Option (Bool)
 | 0, _, _, _, _, _, _, _, _, _, _, _, _, _, _, _ => none
 | k + 1, x1, x2, x8, x10, x50, x380000, x380001, x380002, x380003, x380004, x380005, x380006, x380007, x380008, x380009 => if x50 = true then (some false) else ((laws_markIntS.f k x10 1).bind fun bt443 => ((laws_heldIntS.f k bt443.2 1).bind fun t445 => (if t445 < 0 then (some false) else (if t445 = bt443.1 then ((laws_toSky.f k x380000 x380001 x380002 x380003 x380004 x380005 x380006 x380007 x380008 x380009).bind fun bt446 => ((impl_SureNeighbors.f k bt446.1 bt446.2.1 bt446.2.2.1 bt446.2.2.2.1 bt446.2.2.2.2.1 bt446.2.2.2.2.2.1 bt446.2.2.2.2.2.2.1 bt446.2.2.2.2.2.2.2.1 bt446.2.2.2.2.2.2.2.2.1 bt446.2.2.2.2.2.2.2.2.2 x1 x2).bind fun t462 => ((laws_eqIntS.f k t462 x8).bind fun t465 => (if t465 = true then ((laws_heldIntS.f k bt443.2 1).bind fun t466 => (if t466 < 0 then (some false) else (if t466 = bt443.1 then (some true) else (some false)))) else (some false))))) else (some false)))))
def laws_FnExactSureNeighbors.f (k : Nat) (a0_0 : Int) (l0_1 : List (S107)) (l0_2 : List (S111)) (a0_3 : Int) (a0_4 : Int) (a0_5 : Int) (a0_6 : Int) (a0_7 : Int) (l0_8 : List (S119)) (a0_9 : Int) (a1 : Int) (a2 : Int) : Option (Bool) := (laws_szSky.f a0_0 l0_1 l0_2 a0_3 a0_4 a0_5 a0_6 a0_7 l0_8 a0_9 1048576).bind fun t380 => (if t380 < 0 then (some true) else ((laws_toSky.f k a0_0 l0_1 l0_2 a0_3 a0_4 a0_5 a0_6 a0_7 l0_8 a0_9).bind fun bt381 => ((spec_SureNeighbors.f k bt381.1 bt381.2.1 bt381.2.2.1 bt381.2.2.2.1 bt381.2.2.2.2.1 bt381.2.2.2.2.2.1 bt381.2.2.2.2.2.2.1 bt381.2.2.2.2.2.2.2.1 bt381.2.2.2.2.2.2.2.2.1 bt381.2.2.2.2.2.2.2.2.2 a1 a2).bind fun t397 => ((laws_toSky.f k a0_0 l0_1 l0_2 a0_3 a0_4 a0_5 a0_6 a0_7 l0_8 a0_9).bind fun bt400 => ((impl_SureNeighbors.f k bt400.1 bt400.2.1 bt400.2.2.1 bt400.2.2.2.1 bt400.2.2.2.2.1 bt400.2.2.2.2.2.1 bt400.2.2.2.2.2.2.1 bt400.2.2.2.2.2.2.2.1 bt400.2.2.2.2.2.2.2.2.1 bt400.2.2.2.2.2.2.2.2.2 a1 a2).bind fun t417 => ((laws_eqIntS.f k t417 t397).bind fun t420 => (if t420 = true then ((laws_toSky.f k a0_0 l0_1 l0_2 a0_3 a0_4 a0_5 a0_6 a0_7 l0_8 a0_9).bind fun bt421 => ((laws_eqSky.f k bt400.1 bt400.2.1 bt400.2.2.1 bt400.2.2.2.1 bt400.2.2.2.2.1 bt400.2.2.2.2.2.1 bt400.2.2.2.2.2.2.1 bt400.2.2.2.2.2.2.2.1 bt400.2.2.2.2.2.2.2.2.1 bt400.2.2.2.2.2.2.2.2.2 bt421.1 bt421.2.1 bt421.2.2.1 bt421.2.2.2.1 bt421.2.2.2.2.1 bt421.2.2.2.2.2.1 bt421.2.2.2.2.2.2.1 bt421.2.2.2.2.2.2.2.1 bt421.2.2.2.2.2.2.2.2.1 bt421.2.2.2.2.2.2.2.2.2).bind fun t437 => (if t437 = true then ((laws_markSky.f k bt400.1 bt400.2.1 bt400.2.2.1 bt400.2.2.2.1 bt400.2.2.2.2.1 bt400.2.2.2.2.2.1 bt400.2.2.2.2.2.2.1 bt400.2.2.2.2.2.2.2.1 bt400.2.2.2.2.2.2.2.2.1 bt400.2.2.2.2.2.2.2.2.2 1).bind fun bt438 => (if bt438.1 < 0 then (laws_FnExactSureNeighbors.j0 k a1 a2 t397 t417 true a0_0 l0_1 l0_2 a0_3 a0_4 a0_5 a0_6 a0_7 l0_8 a0_9) else ((laws_eqIntS.f k t417 t397).bind fun t442 => (laws_FnExactSureNeighbors.j0 k a1 a2 t397 t417 (!t442) a0_0 l0_1 l0_2 a0_3 a0_4 a0_5 a0_6 a0_7 l0_8 a0_9)))) else (some false)))) else (some false))))))))
theorem laws_FnExactSureNeighbors.mono_l : ∀ k, (∀ y0 y1 y2 y3 y4 y5 y6 y7 y8 y9 y10 y11 y12 y13 y14, LeO (laws_FnExactSureNeighbors.j0 k y0 y1 y2 y3 y4 y5 y6 y7 y8 y9 y10 y11 y12 y13 y14) (laws_FnExactSureNeighbors.j0 (k + 1) y0 y1 y2 y3 y4 y5 y6 y7 y8 y9 y10 y11 y12 y13 y14))
 | 0 => fun _ _ _ _ _ _ _ _ _ _ _ _ _ _ _ r h => by simp [laws_FnExactSureNeighbors.j0] at h
 | k + 1 => by
  have ih0 := laws_FnExactSureNeighbors.mono_l k
  ·intro y0 y1 y2 y3 y4 y5 y6 y7 y8 y9 y10 y11 y12 y13 y14
   unfold laws_FnExactSureNeighbors.j0
   repeat' first | (with_reducible first | exact ih0 _ _ _ _ _ _ _ _ _ _ _ _ _ _ _ | exact impl_SureNeighbors.mono _ _ _ _ _ _ _ _ _ _ _ _ _ | exact laws_eqIntS.mono _ _ _ | exact laws_eqSky.mono _ _ _ _ _ _ _ _ _ _ _ _ _ _ _ _ _ _ _ _ _ | exact laws_heldIntS.mono _ _ _ | exact laws_markIntS.mono _ _ _ | exact laws_markSky.mono _ _ _ _ _ _ _ _ _ _ _ _ | exact laws_toSky.mono _ _ _ _ _ _ _ _ _ _ _ | exact spec_SureNeighbors.mono _ _ _ _ _ _ _ _ _ _ _ _ _ | exact LeO.refl _ | exact LeO.none _ | refine LeO.ite ?_ ?_ | refine LeO.bind ?_ (fun _ => ?_)) | exact LeO.none _ | refine LeO.ite ?_ ?_ | refine LeO.bind ?_ (fun _ => ?_)
theorem laws_FnExactSureNeighbors.mono : ∀ a0 a1 a2 a3 a4 a5 a6 a7 a8 a9 a10 a11 k, LeO (laws_FnExactSureNeighbors.f k a0 a1 a2 a3 a4 a5 a6 a7 a8 a9 a10 a11) (laws_FnExactSureNeighbors.f (k + 1) a0 a1 a2 a3 a4 a5 a6 a7 a8 a9 a10 a11) := by
 intro a0 a1 a2 a3 a4 a5 a6 a7 a8 a9 a10 a11 k
 have ih0 := laws_FnExactSureNeighbors.mono_l k
 unfold laws_FnExactSureNeighbors.f
 repeat' first | (with_reducible first | exact ih0 _ _ _ _ _ _ _ _ _ _ _ _ _ _ _ | exact impl_SureNeighbors.mono _ _ _ _ _ _ _ _ _ _ _ _ _ | exact laws_eqIntS.mono _ _ _ | exact laws_eqSky.mono _ _ _ _ _ _ _ _ _ _ _ _ _ _ _ _ _ _ _ _ _ | exact laws_heldIntS.mono _ _ _ | exact laws_markIntS.mono _ _ _ | exact laws_markSky.mono _ _ _ _ _ _ _ _ _ _ _ _ | exact laws_toSky.mono _ _ _ _ _ _ _ _ _ _ _ | exact spec_SureNeighbors.mono _ _ _ _ _ _ _ _ _ _ _ _ _ | exact LeO.refl _ | exact LeO.none _ | refine LeO.ite ?_ ?_ | refine LeO.bind ?_ (fun _ => ?_)) | exact LeO.none _ | refine LeO.ite ?_ ?_ | refine LeO.bind ?_ (fun _ => ?_)
set_option maxHeartbeats 8000000 in
set_option maxRecDepth 100000 in
theorem laws_FnExactSureNeighbors.calls (k : Nat) (a0_0 : Int) (A0_1 : Option Addr) (c0_1 : Nat) (l0_1 : List (S107)) (A0_2 : Option Addr) (c0_2 : Nat) (l0_2 : List (S111)) (a0_3 : Int) (a0_4 : Int) (a0_5 : Int) (a0_6 : Int) (a0_7 : Int) (A0_8 : Option Addr) (c0_8 : Nat) (l0_8 : List (S119)) (a0_9 : Int) (a1 : Int) (a2 : Int) (r : Bool) (w : World) (hr0_1 : Kd.C k107 w A0_1 l0_1.length l0_1) (hc0_1 : l0_1.length ≤ c0_1) (hr0_2 : Kd.C k111 w A0_2 l0_2.length l0_2) (hc0_2 : l0_2.length ≤ c0_2) (hr0_8 : Kd.C k119 w A0_8 l0_8.length l0_8) (hc0_8 : l0_8.length ≤ c0_8) (h : laws_FnExactSureNeighbors.f k a0_0 l0_1 l0_2 a0_3 a0_4 a0_5 a0_6 a0_7 l0_8 a0_9 a1 a2 = some r) (hT_ : r = true := by rfl) :
  Calls Try.prog 6 #[.agg #[.int .i64 a0_0, .slice A0_1 l0_1.length c0_1, .slice A0_2 l0_2.length c0_2, .int .i64 a0_3, .int .i64 a0_4, .int .i64 a0_5, .int .i64 a0_6, .int .i64 a0_7, .slice A0_8 l0_8.length c0_8, .int .i64 a0_9], .int .i64 a1, .int .i64 a2] w fun e w' => e = .returned (.bool r) ∧ Below w.heap.size w w' := by
 have hu26 := Try.underlying26
 have hu34 := Try.underlying34
 have HR0_1 := Aside0.mk hr0_1
 have HC0_1 := Aside0.mk hc0_1
 clear hr0_1 hc0_1
 have HR0_2 := Aside0.mk hr0_2
 have HC0_2 := Aside0.mk hc0_2
 clear hr0_2 hc0_2
 have HR0_8 := Aside0.mk hr0_8
 have HC0_8 := Aside0.mk hc0_8
 clear hr0_8 hc0_8
 have HB := Aside0.mk (Below.refl w.heap.size w)
 subst hT_
 have H := h
 clear h
 unfold laws_FnExactSureNeighbors.f at H
 replace H := bs_ H
 obtain ⟨t380, A4, H⟩ := H
 by_cases c5 : t380 < 0
 ·rw [if_pos c5] at H
  have c5b0 := decide_eq_true c5
  clear c5
  clear H
  go_enter Try.func6, Try.ntmps6
  go_wp2_with (first | ((with_reducible refine gd_ 3 ?_); refine bx_ 3 26 #[.int .i64 a0_0, .slice A0_1 l0_1.length c0_1, .slice A0_2 l0_2.length c0_2, .int .i64 a0_3, .int .i64 a0_4, .int .i64 a0_5, .int .i64 a0_6, .int .i64 a0_7, .slice A0_8 l0_8.length c0_8, .int .i64 a0_9] ?_; intro gb379 hg w6 hbox hb; refine sh4_ (below_step (bl_ HB) hb) hbox (ge_ hg (bl_ HB)) (ge_ hg (bl_ HB)) ?_; clear HB hb hbox hg; intro HB BK379 GW379 GE379; have hcz7 := cf10_ BK379) | ((with_reducible refine gate_callee (f := 9) rfl ?_); refine gl_ 17 Try.func9 (laws_szSky.calls a0_0 _ _ l0_1 _ _ l0_2 a0_3 a0_4 a0_5 a0_6 a0_7 _ _ l0_8 a0_9 1048576 t380 _ (ck_ HR0_1 HB) HC0_1.out (ck_ HR0_2 HB) HC0_2.out (ck_ HR0_8 HB) HC0_8.out A4.out) ?_; rintro e w8 ⟨rfl, hb⟩; refine ⟨_, rfl, sh2_ (blk_below (bk_ BK379) hb) (below_step (bl1_ HB GE379) hb) ?_⟩; clear BK379 HB hb; intro BK379 HB))
  go_ret
  exact ⟨er_, bl1_ HB GE379⟩
 ·rw [if_neg c5] at H
  have c5b0 := decide_eq_false c5
  clear c5
  replace H := bs_ H
  obtain ⟨⟨t381, t382, t385, t388, t389, t390, t391, t392, t393, t396⟩, A9, H⟩ := H
  dsimp only at H
  replace H := bs_ H
  obtain ⟨t397, A10, H⟩ := H
  replace H := bs_ H
  obtain ⟨⟨t400, t401, t404, t407, t408, t409, t410, t411, t412, t415⟩, A11, H⟩ := H
  dsimp only at H
  replace H := bs_ H
  obtain ⟨t417, A12, H⟩ := H
  replace H := bs_ H
  obtain ⟨t420, A13, H⟩ := H
  by_cases c14 : t420 = true
  ·subst c14
   try rw [if_pos rfl] at H
   replace H := bs_ H
   obtain ⟨⟨t421, t422, t425, t428, t429, t430, t431, t432, t433, t436⟩, A15, H⟩ := H
   dsimp only at H
   replace H := bs_ H
   obtain ⟨t437, A16, H⟩ := H
   by_cases c17 : t437 = true
   ·subst c17
    try rw [if_pos rfl] at H
    replace H := bs_ H
    obtain ⟨⟨t438, t439, t440, t441⟩, A18, H⟩ := H
    dsimp only at H
    have HC19 := Aside0.mk H
    clear H
    go_enter Try.func6, Try.ntmps6
    try go_wp2_with (first | ((with_reducible refine gd_ 3 ?_); refine bx_ 3 26 #[.int .i64 a0_0, .slice A0_1 l0_1.length c0_1, .slice A0_2 l0_2.length c0_2, .int .i64 a0_3, .int .i64 a0_4, .int .i64 a0_5, .int .i64 a0_6, .int .i64 a0_7, .slice A0_8 l0_8.length c0_8, .int .i64 a0_9] ?_; intro gb379 hg w20 hbox hb; refine sh4_ (below_step (bl_ HB) hb) hbox (ge_ hg (bl_ HB)) (ge_ hg (bl_ HB)) ?_; clear HB hb hbox hg; intro HB BK379 GW379 GE379; have hcz21 := cf10_ BK379) | ((with_reducible refine gate_callee (f := 9) rfl ?_); refine gl_ 17 Try.func9 (laws_szSky.calls a0_0 _ _ l0_1 _ _ l0_2 a0_3 a0_4 a0_5 a0_6 a0_7 _ _ l0_8 a0_9 1048576 t380 _ (ck_ HR0_1 HB) HC0_1.out (ck_ HR0_2 HB) HC0_2.out (ck_ HR0_8 HB) HC0_8.out A4.out) ?_; rintro e w22 ⟨rfl, hb⟩; refine ⟨_, rfl, sh2_ (blk_below (bk_ BK379) hb) (below_step (bl1_ HB GE379) hb) ?_⟩; clear BK379 HB hb; intro BK379 HB; have hcz23 := cf10_ BK379) | ((with_reducible refine gate_callee (f := 11) rfl ?_); refine gl_ 21 Try.func11 (laws_toSky.calls k a0_0 _ _ l0_1 _ _ l0_2 a0_3 a0_4 a0_5 a0_6 a0_7 _ _ l0_8 a0_9 t381 t382 t385 t388 t389 t390 t391 t392 t393 t396 _ (ck_ HR0_1 HB) HC0_1.out (ck_ HR0_2 HB) HC0_2.out (ck_ HR0_8 HB) HC0_8.out A9.out) ?_; rintro e w24 ⟨v383, v386, v394, rfl, ho0, ho1, ho2, hb⟩; refine ⟨_, rfl, sh5_ (Kd.R_lower ho0 (below_size (bl1_ HB GE379))) (Kd.R_lower ho1 (below_size (bl1_ HB GE379))) (Kd.R_lower ho2 (below_size (bl1_ HB GE379))) (blk_below (bk_ BK379) hb) (below_step (bl1_ HB GE379) hb) ?_⟩; clear BK379 HB hb ho0 ho1 ho2; intro HO384 HO387 HO395 BK379 HB; obtain ⟨Ao25, co25, eo25⟩ := Kd.R_slice HO384.out; subst eo25; obtain ⟨Ao26, co26, eo26⟩ := Kd.R_slice HO387.out; subst eo26; obtain ⟨Ao27, co27, eo27⟩ := Kd.R_slice HO395.out; subst eo27) | ((with_reducible refine gate_callee (f := 31) rfl ?_); refine gl_ 24 Try.func31 (spec_SureNeighbors.calls k t381 _ _ t382 _ _ t385 t388 t389 t390 t391 t392 _ _ t393 t396 a1 a2 t397 _ (cr_ HO384) (rl_ HO384) (cr_ HO387) (rl_ HO387) (cr_ HO395) (rl_ HO395) A10.out) ?_; rintro e w28 ⟨v398, rfl, ho0, hb⟩; refine ⟨_, rfl, sh6_ (Kd.R_below (ra_ HO384) hb) (Kd.R_below (ra_ HO387) hb) (Kd.R_below (ra_ HO395) hb) (Kd.R_lower ho0 (below_size (bl1_ HB GE379))) (blk_below (bk_ BK379) hb) (below_step (bl1_ HB GE379) hb) ?_⟩; clear HO384 HO387 HO395 BK379 HB hb ho0; intro HO384 HO387 HO395 HO399 BK379 HB; have hcz29 := cf10_ BK379) | ((with_reducible refine gate_callee (f := 11) rfl ?_); refine gl_ 26 Try.func11 (laws_toSky.calls k a0_0 _ _ l0_1 _ _ l0_2 a0_3 a0_4 a0_5 a0_6 a0_7 _ _ l0_8 a0_9 t400 t401 t404 t407 t408 t409 t410 t411 t412 t415 _ (ck_ HR0_1 HB) HC0_1.out (ck_ HR0_2 HB) HC0_2.out (ck_ HR0_8 HB) HC0_8.out A11.out) ?_; rintro e w30 ⟨v402, v405, v413, rfl, ho0, ho1, ho2, hb⟩; refine ⟨_, rfl, sh9_ (Kd.R_elder' (ra_ HO384) (Kd.R_base ho0) hb) (Kd.R_elder' (ra_ HO387) (Kd.R_base ho1) hb) (Kd.R_elder' (ra_ HO395) (Kd.R_base ho2) hb) (Kd.R_below (ra_ HO399) hb) (Kd.R_lower (Kd.R_new' ho0 (Kd.R_lt (ra_ HO384))) (below_size (bl1_ HB GE379))) (Kd.R_lower (Kd.R_new' ho1 (Kd.R_lt (ra_ HO387))) (below_size (bl1_ HB GE379))) (Kd.R_lower (Kd.R_new' ho2 (Kd.R_lt (ra_ HO395))) (below_size (bl1_ HB GE379))) (blk_below (bk_ BK379) hb) (below_step (bl1_ HB GE379) hb) ?_⟩; clear HO384 HO387 HO395 HO399 BK379 HB hb ho0 ho1 ho2; intro HO384 HO387 HO395 HO399 HO403 HO406 HO414 BK379 HB) | ((with_reducible refine gd_ 9 ?_); refine bx_ 9 34 #[.int .i64 0, .slice none 0 0, .slice none 0 0, .int .i64 0, .int .i64 0, .int .i64 0, .int .i64 0, .int .i64 0, .slice none 0 0, .int .i64 0] ?_; intro gb416 hg w31 hbox hb; refine sh14_ (Kd.R_below (ra_ HO384) hb) (Kd.R_below (ra_ HO387) hb) (Kd.R_below (ra_ HO395) hb) (Kd.R_below (ra_ HO399) hb) (Kd.R_below (ra_ HO403) hb) (Kd.R_below (ra_ HO406) hb) (Kd.R_below (ra_ HO414) hb) (blk_below (bk_ BK379) hb) (below_step (bl1_ HB GE379) hb) hbox (ge_ hg (bl1_ HB GE379)) (ge_ hg (bl1_ HB GE379)) (nl_ hg (bk_ BK379)) (ng_ hg (bk_ BK379)) ?_; clear HO384 HO387 HO395 HO399 HO403 HO406 HO414 BK379 HB hb hbox hg; intro HO384 HO387 HO395 HO399 HO403 HO406 HO414 BK379 HB BK416 GW416 GE416 NB379_416 NB416_379; have hnb32 := NB416_379.out; have hnc32 := NB379_416.out; have hcz33 := cf10_ BK416; obtain ⟨Ao34, co34, eo34⟩ := Kd.R_slice HO403.out; subst eo34; obtain ⟨Ao35, co35, eo35⟩ := Kd.R_slice HO406.out; subst eo35; obtain ⟨Ao36, co36, eo36⟩ := Kd.R_slice HO414.out; subst eo36) | ((with_reducible refine gate_callee (f := 32) rfl ?_); refine goesL_ (some 30) rfl rfl Try.func32 (by kernel_rfl) rfl #[.agg #[.int .i64 t400, .slice Ao34 t401.length co34, .slice Ao35 t404.length co35, .int .i64 t407, .int .i64 t408, .int .i64 t409, .int .i64 t410, .int .i64 t411, .slice Ao36 t412.length co36, .int .i64 t415], .int .i64 a1, .int .i64 a2] rfl mp_ ?_; (with_reducible refine (impl_SureNeighbors.calls k t400 _ _ t401 _ _ t404 t407 t408 t409 t410 t411 _ _ t412 t415 a1 a2 t417 _ ?side1 ?side2 ?side3 ?side4 ?side5 ?side6 A12.out).mono ?_); (case side1 => refine (Kd.R_reads' (e := 105) (base := w.heap.size) (ok := fun k_ => (True ∧ some k_ ≠ (.slice Ao25 t382.length co25 : Value).ownBlock)) (n := t401.length) (c := co34) ?_).2.2; exact (by (with_reducible repeat (first | apply Kd.R_alloc | apply Kd.R_drewN | apply Kd.R_drew)); exact (Kd.R_mono (Kd.R_far (p := ⟨gb416, 9, none⟩) (Kd.R_far (p := ⟨gb416, 8, none⟩) (Kd.R_far (p := ⟨gb416, 7, none⟩) (Kd.R_far (p := ⟨gb416, 6, none⟩) (Kd.R_far (p := ⟨gb416, 5, none⟩) (Kd.R_far (p := ⟨gb416, 4, none⟩) (Kd.R_far (p := ⟨gb416, 3, none⟩) (Kd.R_far (p := ⟨gb416, 2, none⟩) (Kd.R_far (p := ⟨gb416, 1, none⟩) (Kd.R_far (p := ⟨gb416, 0, none⟩) (Kd.R_types HO403.out BK416.out (by decide)) (fun _ hk => hk.2) (.int .i64 t400)) (fun _ hk => hk.2) (.slice Ao34 t401.length co34)) (fun _ hk => hk.2) (.slice Ao35 t404.length co35)) (fun _ hk => hk.2) (.int .i64 t407)) (fun _ hk => hk.2) (.int .i64 t408)) (fun _ hk => hk.2) (.int .i64 t409)) (fun _ hk => hk.2) (.int .i64 t410)) (fun _ hk => hk.2) (.int .i64 t411)) (fun _ hk => hk.2) (.slice Ao36 t412.length co36)) (fun _ hk => hk.2) (.int .i64 t415)) (fun _ h_ => h_.1)))); (case side2 => exact (Kd.R_reads' HO403.out).2.1); (case side3 => refine (Kd.R_reads' (e := 109) (base := w.heap.size) (ok := fun k_ => (True ∧ some k_ ≠ (.slice Ao26 t385.length co26 : Value).ownBlock)) (n := t404.length) (c := co35) ?_).2.2; exact (by (with_reducible repeat (first | apply Kd.R_alloc | apply Kd.R_drewN | apply Kd.R_drew)); exact (Kd.R_mono (Kd.R_far (p := ⟨gb416, 9, none⟩) (Kd.R_far (p := ⟨gb416, 8, none⟩) (Kd.R_far (p := ⟨gb416, 7, none⟩) (Kd.R_far (p := ⟨gb416, 6, none⟩) (Kd.R_far (p := ⟨gb416, 5, none⟩) (Kd.R_far (p := ⟨gb416, 4, none⟩) (Kd.R_far (p := ⟨gb416, 3, none⟩) (Kd.R_far (p := ⟨gb416, 2, none⟩) (Kd.R_far (p := ⟨gb416, 1, none⟩) (Kd.R_far (p := ⟨gb416, 0, none⟩) (Kd.R_types HO406.out BK416.out (by decide)) (fun _ hk => hk.2) (.int .i64 t400)) (fun _ hk => hk.2) (.slice Ao34 t401.length co34)) (fun _ hk => hk.2) (.slice Ao35 t404.length co35)) (fun _ hk => hk.2) (.int .i64 t407)) (fun _ hk => hk.2) (.int .i64 t408)) (fun _ hk => hk.2) (.int .i64 t409)) (fun _ hk => hk.2) (.int .i64 t410)) (fun _ hk => hk.2) (.int .i64 t411)) (fun _ hk => hk.2) (.slice Ao36 t412.length co36)) (fun _ hk => hk.2) (.int .i64 t415)) (fun _ h_ => h_.1)))); (case side4 => exact (Kd.R_reads' HO406.out).2.1); (case side5 => refine (Kd.R_reads' (e := 115) (base := w.heap.size) (ok := fun k_ => (True ∧ some k_ ≠ (.slice Ao27 t393.length co27 : Value).ownBlock)) (n := t412.length) (c := co36) ?_).2.2; exact (by (with_reducible repeat (first | apply Kd.R_alloc | apply Kd.R_drewN | apply Kd.R_drew)); exact (Kd.R_mono (Kd.R_far (p := ⟨gb416, 9, none⟩) (Kd.R_far (p := ⟨gb416, 8, none⟩) (Kd.R_far (p := ⟨gb416, 7, none⟩) (Kd.R_far (p := ⟨gb416, 6, none⟩) (Kd.R_far (p := ⟨gb416, 5, none⟩) (Kd.R_far (p := ⟨gb416, 4, none⟩) (Kd.R_far (p := ⟨gb416, 3, none⟩) (Kd.R_far (p := ⟨gb416, 2, none⟩) (Kd.R_far (p := ⟨gb416, 1, none⟩) (Kd.R_far (p := ⟨gb416, 0, none⟩) (Kd.R_types HO414.out BK416.out (by decide)) (fun _ hk => hk.2) (.int .i64 t400)) (fun _ hk => hk.2) (.slice Ao34 t401.length co34)) (fun _ hk => hk.2) (.slice Ao35 t404.length co35)) (fun _ hk => hk.2) (.int .i64 t407)) (fun _ hk => hk.2) (.int .i64 t408)) (fun _ hk => hk.2) (.int .i64 t409)) (fun _ hk => hk.2) (.int .i64 t410)) (fun _ hk => hk.2) (.int .i64 t411)) (fun _ hk => hk.2) (.slice Ao36 t412.length co36)) (fun _ hk => hk.2) (.int .i64 t415)) (fun _ h_ => h_.1)))); (case side6 => exact (Kd.R_reads' HO414.out).2.1); rintro e w37 ⟨v418, rfl, ho0, hb⟩; refine ⟨_, rfl, sh11_ (Kd.R_below (by (with_reducible repeat (first | apply Kd.R_alloc | apply Kd.R_drewN | apply Kd.R_drew)); exact (Kd.R_mono (Kd.R_far (p := ⟨gb416, 9, none⟩) (Kd.R_far (p := ⟨gb416, 8, none⟩) (Kd.R_far (p := ⟨gb416, 7, none⟩) (Kd.R_far (p := ⟨gb416, 6, none⟩) (Kd.R_far (p := ⟨gb416, 5, none⟩) (Kd.R_far (p := ⟨gb416, 4, none⟩) (Kd.R_far (p := ⟨gb416, 3, none⟩) (Kd.R_far (p := ⟨gb416, 2, none⟩) (Kd.R_far (p := ⟨gb416, 1, none⟩) (Kd.R_far (p := ⟨gb416, 0, none⟩) (Kd.R_types HO384.out BK416.out (by decide)) (fun _ hk => hk.2) (.int .i64 t400)) (fun _ hk => hk.2) (.slice Ao34 t401.length co34)) (fun _ hk => hk.2) (.slice Ao35 t404.length co35)) (fun _ hk => hk.2) (.int .i64 t407)) (fun _ hk => hk.2) (.int .i64 t408)) (fun _ hk => hk.2) (.int .i64 t409)) (fun _ hk => hk.2) (.int .i64 t410)) (fun _ hk => hk.2) (.int .i64 t411)) (fun _ hk => hk.2) (.slice Ao36 t412.length co36)) (fun _ hk => hk.2) (.int .i64 t415)) (fun _ h_ => h_.1))) hb) (Kd.R_below (by (with_reducible repeat (first | apply Kd.R_alloc | apply Kd.R_drewN | apply Kd.R_drew)); exact (Kd.R_mono (Kd.R_far (p := ⟨gb416, 9, none⟩) (Kd.R_far (p := ⟨gb416, 8, none⟩) (Kd.R_far (p := ⟨gb416, 7, none⟩) (Kd.R_far (p := ⟨gb416, 6, none⟩) (Kd.R_far (p := ⟨gb416, 5, none⟩) (Kd.R_far (p := ⟨gb416, 4, none⟩) (Kd.R_far (p := ⟨gb416, 3, none⟩) (Kd.R_far (p := ⟨gb416, 2, none⟩) (Kd.R_far (p := ⟨gb416, 1, none⟩) (Kd.R_far (p := ⟨gb416, 0, none⟩) (Kd.R_types HO387.out BK416.out (by decide)) (fun _ hk => hk.2) (.int .i64 t400)) (fun _ hk => hk.2) (.slice Ao34 t401.length co34)) (fun _ hk => hk.2) (.slice Ao35 t404.length co35)) (fun _ hk => hk.2) (.int .i64 t407)) (fun _ hk => hk.2) (.int .i64 t408)) (fun _ hk => hk.2) (.int .i64 t409)) (fun _ hk => hk.2) (.int .i64 t410)) (fun _ hk => hk.2) (.int .i64 t411)) (fun _ hk => hk.2) (.slice Ao36 t412.length co36)) (fun _ hk => hk.2) (.int .i64 t415)) (fun _ h_ => h_.1))) hb) (Kd.R_below (by (with_reducible repeat (first | apply Kd.R_alloc | apply Kd.R_drewN | apply Kd.R_drew)); exact (Kd.R_mono (Kd.R_far (p := ⟨gb416, 9, none⟩) (Kd.R_far (p := ⟨gb416, 8, none⟩) (Kd.R_far (p := ⟨gb416, 7, none⟩) (Kd.R_far (p := ⟨gb416, 6, none⟩) (Kd.R_far (p := ⟨gb416, 5, none⟩) (Kd.R_far (p := ⟨gb416, 4, none⟩) (Kd.R_far (p := ⟨gb416, 3, none⟩) (Kd.R_far (p := ⟨gb416, 2, none⟩) (Kd.R_far (p := ⟨gb416, 1, none⟩) (Kd.R_far (p := ⟨gb416, 0, none⟩) (Kd.R_types HO395.out BK416.out (by decide)) (fun _ hk => hk.2) (.int .i64 t400)) (fun _ hk => hk.2) (.slice Ao34 t401.length co34)) (fun _ hk => hk.2) (.slice Ao35 t404.length co35)) (fun _ hk => hk.2) (.int .i64 t407)) (fun _ hk => hk.2) (.int .i64 t408)) (fun _ hk => hk.2) (.int .i64 t409)) (fun _ hk => hk.2) (.int .i64 t410)) (fun _ hk => hk.2) (.int .i64 t411)) (fun _ hk => hk.2) (.slice Ao36 t412.length co36)) (fun _ hk => hk.2) (.int .i64 t415)) (fun _ h_ => h_.1))) hb) (Kd.R_elder' (by (with_reducible repeat (first | apply Kd.R_alloc | apply Kd.R_drewN | apply Kd.R_drew)); exact (Kd.R_mono (Kd.R_far (p := ⟨gb416, 9, none⟩) (Kd.R_far (p := ⟨gb416, 8, none⟩) (Kd.R_far (p := ⟨gb416, 7, none⟩) (Kd.R_far (p := ⟨gb416, 6, none⟩) (Kd.R_far (p := ⟨gb416, 5, none⟩) (Kd.R_far (p := ⟨gb416, 4, none⟩) (Kd.R_far (p := ⟨gb416, 3, none⟩) (Kd.R_far (p := ⟨gb416, 2, none⟩) (Kd.R_far (p := ⟨gb416, 1, none⟩) (Kd.R_far (p := ⟨gb416, 0, none⟩) (Kd.R_types HO399.out BK416.out (by decide)) (fun _ hk => hk.2) (.int .i64 t400)) (fun _ hk => hk.2) (.slice Ao34 t401.length co34)) (fun _ hk => hk.2) (.slice Ao35 t404.length co35)) (fun _ hk => hk.2) (.int .i64 t407)) (fun _ hk => hk.2) (.int .i64 t408)) (fun _ hk => hk.2) (.int .i64 t409)) (fun _ hk => hk.2) (.int .i64 t410)) (fun _ hk => hk.2) (.int .i64 t411)) (fun _ hk => hk.2) (.slice Ao36 t412.length co36)) (fun _ hk => hk.2) (.int .i64 t415)) (fun _ h_ => h_.1))) (Kd.R_base ho0) hb) (Kd.R_below (by (with_reducible repeat (first | apply Kd.R_alloc | apply Kd.R_drewN | apply Kd.R_drew)); exact (Kd.R_mono (Kd.R_far (p := ⟨gb416, 9, none⟩) (Kd.R_far (p := ⟨gb416, 8, none⟩) (Kd.R_far (p := ⟨gb416, 7, none⟩) (Kd.R_far (p := ⟨gb416, 6, none⟩) (Kd.R_far (p := ⟨gb416, 5, none⟩) (Kd.R_far (p := ⟨gb416, 4, none⟩) (Kd.R_far (p := ⟨gb416, 3, none⟩) (Kd.R_far (p := ⟨gb416, 2, none⟩) (Kd.R_far (p := ⟨gb416, 1, none⟩) (Kd.R_far (p := ⟨gb416, 0, none⟩) (Kd.R_types HO403.out BK416.out (by decide)) (fun _ hk => hk.2) (.int .i64 t400)) (fun _ hk => hk.2) (.slice Ao34 t401.length co34)) (fun _ hk => hk.2) (.slice Ao35 t404.length co35)) (fun _ hk => hk.2) (.int .i64 t407)) (fun _ hk => hk.2) (.int .i64 t408)) (fun _ hk => hk.2) (.int .i64 t409)) (fun _ hk => hk.2) (.int .i64 t410)) (fun _ hk => hk.2) (.int .i64 t411)) (fun _ hk => hk.2) (.slice Ao36 t412.length co36)) (fun _ hk => hk.2) (.int .i64 t415)) (fun _ h_ => h_.1))) hb) (Kd.R_below (by (with_reducible repeat (first | apply Kd.R_alloc | apply Kd.R_drewN | apply Kd.R_drew)); exact (Kd.R_mono (Kd.R_far (p := ⟨gb416, 9, none⟩) (Kd.R_far (p := ⟨gb416, 8, none⟩) (Kd.R_far (p := ⟨gb416, 7, none⟩) (Kd.R_far (p := ⟨gb416, 6, none⟩) (Kd.R_far (p := ⟨gb416, 5, none⟩) (Kd.R_far (p := ⟨gb416, 4, none⟩) (Kd.R_far (p := ⟨gb416, 3, none⟩) (Kd.R_far (p := ⟨gb416, 2, none⟩) (Kd.R_far (p := ⟨gb416, 1, none⟩) (Kd.R_far (p := ⟨gb416, 0, none⟩) (Kd.R_types HO406.out BK416.out (by decide)) (fun _ hk => hk.2) (.int .i64 t400)) (fun _ hk => hk.2) (.slice Ao34 t401.length co34)) (fun _ hk => hk.2) (.slice Ao35 t404.length co35)) (fun _ hk => hk.2) (.int .i64 t407)) (fun _ hk => hk.2) (.int .i64 t408)) (fun _ hk => hk.2) (.int .i64 t409)) (fun _ hk => hk.2) (.int .i64 t410)) (fun _ hk => hk.2) (.int .i64 t411)) (fun _ hk => hk.2) (.slice Ao36 t412.length co36)) (fun _ hk => hk.2) (.int .i64 t415)) (fun _ h_ => h_.1))) hb) (Kd.R_below (by (with_reducible repeat (first | apply Kd.R_alloc | apply Kd.R_drewN | apply Kd.R_drew)); exact (Kd.R_mono (Kd.R_far (p := ⟨gb416, 9, none⟩) (Kd.R_far (p := ⟨gb416, 8, none⟩) (Kd.R_far (p := ⟨gb416, 7, none⟩) (Kd.R_far (p := ⟨gb416, 6, none⟩) (Kd.R_far (p := ⟨gb416, 5, none⟩) (Kd.R_far (p := ⟨gb416, 4, none⟩) (Kd.R_far (p := ⟨gb416, 3, none⟩) (Kd.R_far (p := ⟨gb416, 2, none⟩) (Kd.R_far (p := ⟨gb416, 1, none⟩) (Kd.R_far (p := ⟨gb416, 0, none⟩) (Kd.R_types HO414.out BK416.out (by decide)) (fun _ hk => hk.2) (.int .i64 t400)) (fun _ hk => hk.2) (.slice Ao34 t401.length co34)) (fun _ hk => hk.2) (.slice Ao35 t404.length co35)) (fun _ hk => hk.2) (.int .i64 t407)) (fun _ hk => hk.2) (.int .i64 t408)) (fun _ hk => hk.2) (.int .i64 t409)) (fun _ hk => hk.2) (.int .i64 t410)) (fun _ hk => hk.2) (.int .i64 t411)) (fun _ hk => hk.2) (.slice Ao36 t412.length co36)) (fun _ hk => hk.2) (.int .i64 t415)) (fun _ h_ => h_.1))) hb) (Kd.R_lower (Kd.R_new' ho0 (Kd.R_lt (by (with_reducible repeat (first | apply Kd.R_alloc | apply Kd.R_drewN | apply Kd.R_drew)); exact (Kd.R_mono (Kd.R_far (p := ⟨gb416, 9, none⟩) (Kd.R_far (p := ⟨gb416, 8, none⟩) (Kd.R_far (p := ⟨gb416, 7, none⟩) (Kd.R_far (p := ⟨gb416, 6, none⟩) (Kd.R_far (p := ⟨gb416, 5, none⟩) (Kd.R_far (p := ⟨gb416, 4, none⟩) (Kd.R_far (p := ⟨gb416, 3, none⟩) (Kd.R_far (p := ⟨gb416, 2, none⟩) (Kd.R_far (p := ⟨gb416, 1, none⟩) (Kd.R_far (p := ⟨gb416, 0, none⟩) (Kd.R_types HO399.out BK416.out (by decide)) (fun _ hk => hk.2) (.int .i64 t400)) (fun _ hk => hk.2) (.slice Ao34 t401.length co34)) (fun _ hk => hk.2) (.slice Ao35 t404.length co35)) (fun _ hk => hk.2) (.int .i64 t407)) (fun _ hk => hk.2) (.int .i64 t408)) (fun _ hk => hk.2) (.int .i64 t409)) (fun _ hk => hk.2) (.int .i64 t410)) (fun _ hk => hk.2) (.int .i64 t411)) (fun _ hk => hk.2) (.slice Ao36 t412.length co36)) (fun _ hk => hk.2) (.int .i64 t415)) (fun _ h_ => h_.1))))) (below_size (bl2_ HB GE379 GE416))) (blk_below (g := gb379) (o := .cells #[.int .i64 a0_0, .slice A0_1 l0_1.length c0_1, .slice A0_2 l0_2.length c0_2, .int .i64 a0_3, .int .i64 a0_4, .int .i64 a0_5, .int .i64 a0_6, .int .i64 a0_7, .slice A0_8 l0_8.length c0_8, .int .i64 a0_9] 26 (0, 0)) (by (with_reducible repeat (first | refine blk_drewN ?_ _ | refine blk_drew ?_ | refine blk_alloc ?_ _)); refine blk_far ?_ NB379_416.out _; (with_reducible repeat (first | refine blk_drewN ?_ _ | refine blk_drew ?_ | refine blk_alloc ?_ _)); refine blk_far ?_ NB379_416.out _; (with_reducible repeat (first | refine blk_drewN ?_ _ | refine blk_drew ?_ | refine blk_alloc ?_ _)); refine blk_far ?_ NB379_416.out _; (with_reducible repeat (first | refine blk_drewN ?_ _ | refine blk_drew ?_ | refine blk_alloc ?_ _)); refine blk_far ?_ NB379_416.out _; (with_reducible repeat (first | refine blk_drewN ?_ _ | refine blk_drew ?_ | refine blk_alloc ?_ _)); refine blk_far ?_ NB379_416.out _; (with_reducible repeat (first | refine blk_drewN ?_ _ | refine blk_drew ?_ | refine blk_alloc ?_ _)); refine blk_far ?_ NB379_416.out _; (with_reducible repeat (first | refine blk_drewN ?_ _ | refine blk_drew ?_ | refine blk_alloc ?_ _)); refine blk_far ?_ NB379_416.out _; (with_reducible repeat (first | refine blk_drewN ?_ _ | refine blk_drew ?_ | refine blk_alloc ?_ _)); refine blk_far ?_ NB379_416.out _; (with_reducible repeat (first | refine blk_drewN ?_ _ | refine blk_drew ?_ | refine blk_alloc ?_ _)); refine blk_far ?_ NB379_416.out _; (with_reducible repeat (first | refine blk_drewN ?_ _ | refine blk_drew ?_ | refine blk_alloc ?_ _)); refine blk_far ?_ NB379_416.out _; (with_reducible repeat (first | refine blk_drewN ?_ _ | refine blk_drew ?_ | refine blk_alloc ?_ _)); exact BK379.out) hb) (blk_below (g := gb416) (o := .cells #[.int .i64 t400, .slice Ao34 t401.length co34, .slice Ao35 t404.length co35, .int .i64 t407, .int .i64 t408, .int .i64 t409, .int .i64 t410, .int .i64 t411, .slice Ao36 t412.length co36, .int .i64 t415] 34 (0, 0)) (by (with_reducible repeat (first | refine blk_drewN ?_ _ | refine blk_drew ?_ | refine blk_alloc ?_ _)); refine blk_put (cs := #[.int .i64 t400, .slice Ao34 t401.length co34, .slice Ao35 t404.length co35, .int .i64 t407, .int .i64 t408, .int .i64 t409, .int .i64 t410, .int .i64 t411, .slice Ao36 t412.length co36, .int .i64 0]) ?_ 9 _ rfl; (with_reducible repeat (first | refine blk_drewN ?_ _ | refine blk_drew ?_ | refine blk_alloc ?_ _)); refine blk_put (cs := #[.int .i64 t400, .slice Ao34 t401.length co34, .slice Ao35 t404.length co35, .int .i64 t407, .int .i64 t408, .int .i64 t409, .int .i64 t410, .int .i64 t411, .slice none 0 0, .int .i64 0]) ?_ 8 _ rfl; (with_reducible repeat (first | refine blk_drewN ?_ _ | refine blk_drew ?_ | refine blk_alloc ?_ _)); refine blk_put (cs := #[.int .i64 t400, .slice Ao34 t401.length co34, .slice Ao35 t404.length co35, .int .i64 t407, .int .i64 t408, .int .i64 t409, .int .i64 t410, .int .i64 0, .slice none 0 0, .int .i64 0]) ?_ 7 _ rfl; (with_reducible repeat (first | refine blk_drewN ?_ _ | refine blk_drew ?_ | refine blk_alloc ?_ _)); refine blk_put (cs := #[.int .i64 t400, .slice Ao34 t401.length co34, .slice Ao35 t404.length co35, .int .i64 t407, .int .i64 t408, .int .i64 t409, .int .i64 0, .int .i64 0, .slice none 0 0, .int .i64 0]) ?_ 6 _ rfl; (with_reducible repeat (first | refine blk_drewN ?_ _ | refine blk_drew ?_ | refine blk_alloc ?_ _)); refine blk_put (cs := #[.int .i64 t400, .slice Ao34 t401.length co34, .slice Ao35 t404.length co35, .int .i64 t407, .int .i64 t408, .int .i64 0, .int .i64 0, .int .i64 0, .slice none 0 0, .int .i64 0]) ?_ 5 _ rfl; (with_reducible repeat (first | refine blk_drewN ?_ _ | refine blk_drew ?_ | refine blk_alloc ?_ _)); refine blk_put (cs := #[.int .i64 t400, .slice Ao34 t401.length co34, .slice Ao35 t404.length co35, .int .i64 t407, .int .i64 0, .int .i64 0, .int .i64 0, .int .i64 0, .slice none 0 0, .int .i64 0]) ?_ 4 _ rfl; (with_reducible repeat (first | refine blk_drewN ?_ _ | refine blk_drew ?_ | refine blk_alloc ?_ _)); refine blk_put (cs := #[.int .i64 t400, .slice Ao34 t401.length co34, .slice Ao35 t404.length co35, .int .i64 0, .int .i64 0, .int .i64 0, .int .i64 0, .int .i64 0, .slice none 0 0, .int .i64 0]) ?_ 3 _ rfl; (with_reducible repeat (first | refine blk_drewN ?_ _ | refine blk_drew ?_ | refine blk_alloc ?_ _)); refine blk_put (cs := #[.int .i64 t400, .slice Ao34 t401.length co34, .slice none 0 0, .int .i64 0, .int .i64 0, .int .i64 0, .int .i64 0, .int .i64 0, .slice none 0 0, .int .i64 0]) ?_ 2 _ rfl; (with_reducible repeat (first | refine blk_drewN ?_ _ | refine blk_drew ?_ | refine blk_alloc ?_ _)); refine blk_put (cs := #[.int .i64 t400, .slice none 0 0, .slice none 0 0, .int .i64 0, .int .i64 0, .int .i64 0, .int .i64 0, .int .i64 0, .slice none 0 0, .int .i64 0]) ?_ 1 _ rfl; (with_reducible repeat (first | refine blk_drewN ?_ _ | refine blk_drew ?_ | refine blk_alloc ?_ _)); refine blk_put (cs := #[.int .i64 0, .slice none 0 0, .slice none 0 0, .int .i64 0, .int .i64 0, .int .i64 0, .int .i64 0, .int .i64 0, .slice none 0 0, .int .i64 0]) ?_ 0 _ rfl; (with_reducible repeat (first | refine blk_drewN ?_ _ | refine blk_drew ?_ | refine blk_alloc ?_ _)); exact BK416.out) hb) (below_step (bl2_ HB GE379 GE416) hb) ?_⟩; clear HO384 HO387 HO395 HO399 HO403 HO406 HO414 BK379 BK416 HB hb ho0; intro HO384 HO387 HO395 HO399 HO403 HO406 HO414 HO419 BK379 BK416 HB; obtain ⟨Ao38, co38, eo38⟩ := Kd.R_slice HO419.out; subst eo38; obtain ⟨Ao39, co39, eo39⟩ := Kd.R_slice HO399.out; subst eo39) | ((with_reducible refine gate_callee (f := 33) rfl ?_); refine gl_ 33 Try.func33 (laws_eqIntS.calls k _ _ t417 _ _ t397 true _ (cr_ HO419) (rl_ HO419) (cr_ HO399) (rl_ HO399) A13.out) ?_; rintro e w' ⟨rfl, ⟨nd, rfl⟩⟩; refine ⟨_, rfl, ?_⟩))
    (try (rw [drewN_self w37]; generalize hq_ : World.drewN w37 _ = w37; have n0_ : Aside0 (Kd.R k105 105 w37 w.heap.size (fun k_ => some k_ ≠ (.slice Ao34 t401.length co34 : Value).ownBlock) (.slice Ao25 t382.length co25) t382) := ⟨by rw [← hq_]; exact (by (with_reducible repeat (first | apply Kd.R_alloc | apply Kd.R_drewN | apply Kd.R_drew)); exact Kd.R_mono HO384.out (fun _ hk => hk.2))⟩; have n1_ : Aside0 (Kd.R k109 109 w37 w.heap.size (fun k_ => some k_ ≠ (.slice Ao35 t404.length co35 : Value).ownBlock) (.slice Ao26 t385.length co26) t385) := ⟨by rw [← hq_]; exact (by (with_reducible repeat (first | apply Kd.R_alloc | apply Kd.R_drewN | apply Kd.R_drew)); exact Kd.R_mono HO387.out (fun _ hk => hk.2))⟩; have n2_ : Aside0 (Kd.R k115 115 w37 w.heap.size (fun k_ => some k_ ≠ (.slice Ao36 t412.length co36 : Value).ownBlock) (.slice Ao27 t393.length co27) t393) := ⟨by rw [← hq_]; exact (by (with_reducible repeat (first | apply Kd.R_alloc | apply Kd.R_drewN | apply Kd.R_drew)); exact Kd.R_mono HO395.out (fun _ hk => hk.2))⟩; have n3_ : Aside0 (Kd.R (Kd.int .i64) 3 w37 w.heap.size (fun k_ => some k_ ≠ (.slice Ao38 t417.length co38 : Value).ownBlock) (.slice Ao39 t397.length co39) t397) := ⟨by rw [← hq_]; exact (by (with_reducible repeat (first | apply Kd.R_alloc | apply Kd.R_drewN | apply Kd.R_drew)); exact Kd.R_mono HO399.out (fun _ hk => hk.2))⟩; have n4_ : Aside0 (Kd.R k105 105 w37 w.heap.size (fun k_ => some k_ ≠ (.slice Ao25 t382.length co25 : Value).ownBlock) (.slice Ao34 t401.length co34) t401) := ⟨by rw [← hq_]; exact (by (with_reducible repeat (first | apply Kd.R_alloc | apply Kd.R_drewN | apply Kd.R_drew)); exact Kd.R_mono HO403.out (fun _ hk => hk.2))⟩; have n5_ : Aside0 (Kd.R k109 109 w37 w.heap.size (fun k_ => some k_ ≠ (.slice Ao26 t385.length co26 : Value).ownBlock) (.slice Ao35 t404.length co35) t404) := ⟨by rw [← hq_]; exact (by (with_reducible repeat (first | apply Kd.R_alloc | apply Kd.R_drewN | apply Kd.R_drew)); exact Kd.R_mono HO406.out (fun _ hk => hk.2))⟩; have n6_ : Aside0 (Kd.R k115 115 w37 w.heap.size (fun k_ => some k_ ≠ (.slice Ao27 t393.length co27 : Value).ownBlock) (.slice Ao36 t412.length co36) t412) := ⟨by rw [← hq_]; exact (by (with_reducible repeat (first | apply Kd.R_alloc | apply Kd.R_drewN | apply Kd.R_drew)); exact Kd.R_mono HO414.out (fun _ hk => hk.2))⟩; have n7_ : Aside0 (Kd.R (Kd.int .i64) 3 w37 w.heap.size (fun k_ => some k_ ≠ (.slice Ao39 t397.length co39 : Value).ownBlock) (.slice Ao38 t417.length co38) t417) := ⟨by rw [← hq_]; exact (by (with_reducible repeat (first | apply Kd.R_alloc | apply Kd.R_drewN | apply Kd.R_drew)); exact Kd.R_mono HO419.out (fun _ hk => hk.2))⟩; have n8_ : Aside0 (w37.heap[gb379]? = some (.cells #[.int .i64 a0_0, .slice A0_1 l0_1.length c0_1, .slice A0_2 l0_2.length c0_2, .int .i64 a0_3, .int .i64 a0_4, .int .i64 a0_5, .int .i64 a0_6, .int .i64 a0_7, .slice A0_8 l0_8.length c0_8, .int .i64 a0_9] 26 (0, 0))) := ⟨by rw [← hq_]; exact (bk_ BK379)⟩; have n9_ : Aside0 (w37.heap[gb416]? = some (.cells #[.int .i64 t400, .slice Ao34 t401.length co34, .slice Ao35 t404.length co35, .int .i64 t407, .int .i64 t408, .int .i64 t409, .int .i64 t410, .int .i64 t411, .slice Ao36 t412.length co36, .int .i64 t415] 34 (0, 0))) := ⟨by rw [← hq_]; exact (bk_ BK416)⟩; have n10_ : Aside0 (Below w.heap.size w w37) := ⟨by rw [← hq_]; exact (bl2_ HB GE379 GE416)⟩; clear HO384 HO387 HO395 HO399 HO403 HO406 HO414 HO419 BK379 BK416 HB hq_; have HO384 := n0_; have HO387 := n1_; have HO395 := n2_; have HO399 := n3_; have HO403 := n4_; have HO406 := n5_; have HO414 := n6_; have HO419 := n7_; have BK379 := n8_; have BK416 := n9_; have HB := n10_; clear n0_ n1_ n2_ n3_ n4_ n5_ n6_ n7_ n8_ n9_ n10_))
    refine sh11_ (Kd.R_drew HO384.out) (Kd.R_drew HO387.out) (Kd.R_drew HO395.out) (Kd.R_drew HO399.out) (Kd.R_drew HO403.out) (Kd.R_drew HO406.out) (Kd.R_drew HO414.out) (Kd.R_drew HO419.out) (blk_drew BK379.out) (blk_drew BK416.out) (below_drew1 HB.out) ?_
    clear HO384 HO387 HO395 HO399 HO403 HO406 HO414 HO419 BK379 BK416 HB
    intro HO384 HO387 HO395 HO399 HO403 HO406 HO414 HO419 BK379 BK416 HB
    refine start_ (n := 5) (S := fun w' => w'.cell? ⟨gb416, 0, none⟩ = some (.int .i64 t400) ∧ w'.cell? ⟨gb416, 1, none⟩ = some (.slice Ao34 t401.length co34) ∧ w'.cell? ⟨gb416, 2, none⟩ = some (.slice Ao35 t404.length co35) ∧ w'.cell? ⟨gb416, 3, none⟩ = some (.int .i64 t407) ∧ w'.cell? ⟨gb416, 4, none⟩ = some (.int .i64 t408) ∧ w'.cell? ⟨gb416, 5, none⟩ = some (.int .i64 t409) ∧ w'.cell? ⟨gb416, 6, none⟩ = some (.int .i64 t410) ∧ w'.cell? ⟨gb416, 7, none⟩ = some (.int .i64 t411) ∧ w'.cell? ⟨gb416, 8, none⟩ = some (.slice Ao36 t412.length co36) ∧ w'.cell? ⟨gb416, 9, none⟩ = some (.int .i64 t415) ∧ w'.cell? ⟨gb379, 0, none⟩ = some (.int .i64 a0_0) ∧ w'.cell? ⟨gb379, 1, none⟩ = some (.slice A0_1 l0_1.length c0_1) ∧ w'.cell? ⟨gb379, 2, none⟩ = some (.slice A0_2 l0_2.length c0_2) ∧ w'.cell? ⟨gb379, 3, none⟩ = some (.int .i64 a0_3) ∧ w'.cell? ⟨gb379, 4, none⟩ = some (.int .i64 a0_4) ∧ w'.cell? ⟨gb379, 5, none⟩ = some (.int .i64 a0_5) ∧ w'.cell? ⟨gb379, 6, none⟩ = some (.int .i64 a0_6) ∧ w'.cell? ⟨gb379, 7, none⟩ = some (.int .i64 a0_7) ∧ w'.cell? ⟨gb379, 8, none⟩ = some (.slice A0_8 l0_8.length c0_8) ∧ w'.cell? ⟨gb379, 9, none⟩ = some (.int .i64 a0_9)) (ds := []) #[false, false, false, false, false] (by kernel_rfl) rfl rfl ⟨(bc_ BK416 0 rfl), (bc_ BK416 1 rfl), (bc_ BK416 2 rfl), (bc_ BK416 3 rfl), (bc_ BK416 4 rfl), (bc_ BK416 5 rfl), (bc_ BK416 6 rfl), (bc_ BK416 7 rfl), (bc_ BK416 8 rfl), (bc_ BK416 9 rfl), (bc_ BK379 0 rfl), (bc_ BK379 1 rfl), (bc_ BK379 2 rfl), (bc_ BK379 3 rfl), (bc_ BK379 4 rfl), (bc_ BK379 5 rfl), (bc_ BK379 6 rfl), (bc_ BK379 7 rfl), (bc_ BK379 8 rfl), (bc_ BK379 9 rfl)⟩ (fun hHeld => ?_)
    generalize w37.drew = w40 at HO384 HO387 HO395 HO399 HO403 HO406 HO414 HO419 BK379 BK416 HB hHeld ⊢
    refine take_ (i := 0) (N := some 35) (v := ?_) (a' := ?_) #[true, false, false, false, false] rfl rfl (by kernel_rfl) (fun _ _ _ h => h) (Or.inl ⟨by rfl, ?_⟩) hHeld ?_ ?_
    rotate_left
    ·rintro w' ⟨s0, s1, s2, s3, s4, s5, s6, s7, s8, s9, s10, s11, s12, s13, s14, s15, s16, s17, s18, s19⟩
     go_simp
     with_reducible rfl
    rotate_left
    ·simp only [Act.put, List.setIfInBounds_toArray, List.set_cons_zero, List.set_cons_succ, i64_w, i32_w]
     rfl
    refine take_ (i := 1) (N := some 36) (v := ?_) (a' := ?_) #[true, true, false, false, false] rfl rfl (by kernel_rfl) (fun _ _ _ h => h) (Or.inl ⟨by rfl, ?_⟩) hHeld ?_ ?_
    rotate_left
    ·rintro w' ⟨s0, s1, s2, s3, s4, s5, s6, s7, s8, s9, s10, s11, s12, s13, s14, s15, s16, s17, s18, s19⟩
     go_simp
     with_reducible rfl
    rotate_left
    ·simp only [Act.put, List.setIfInBounds_toArray, List.set_cons_zero, List.set_cons_succ, i64_w, i32_w]
     rfl
    refine one_ (i := 2) (N := some 37) #[true, true, true, false, false] rfl rfl (by kernel_rfl) (by decide) (fun K hK => ?_)
    refine goes_ Try.func11 (by kernel_rfl) rfl #[.agg #[.int .i64 a0_0, .slice A0_1 l0_1.length c0_1, .slice A0_2 l0_2.length c0_2, .int .i64 a0_3, .int .i64 a0_4, .int .i64 a0_5, .int .i64 a0_6, .int .i64 a0_7, .slice A0_8 l0_8.length c0_8, .int .i64 a0_9]] (by rfl) rfl rfl mp_ ?_
    with_reducible refine (laws_toSky.calls k a0_0 _ _ l0_1 _ _ l0_2 a0_3 a0_4 a0_5 a0_6 a0_7 _ _ l0_8 a0_9 t421 t422 t425 t428 t429 t430 t431 t432 t433 t436 _ ?side1 ?side2 ?side3 ?side4 ?side5 ?side6 A15.out).mono ?_
    (case side1 => exact ck_ HR0_1 HB)
    (case side2 => exact HC0_1.out)
    (case side3 => exact ck_ HR0_2 HB)
    (case side4 => exact HC0_2.out)
    (case side5 => exact ck_ HR0_8 HB)
    (case side6 => exact HC0_8.out)
    rintro e w41 ⟨v423, v426, v434, rfl, ho0, ho1, ho2, hb⟩
    refine ⟨_, rfl, sh14_ (Kd.R_elder' (ra_ HO384) (Kd.R_base ho0) hb) (Kd.R_elder' (ra_ HO387) (Kd.R_base ho1) hb) (Kd.R_elder' (ra_ HO395) (Kd.R_base ho2) hb) (Kd.R_below (ra_ HO399) hb) (Kd.R_elder' (ra_ HO403) (Kd.R_base ho0) hb) (Kd.R_elder' (ra_ HO406) (Kd.R_base ho1) hb) (Kd.R_elder' (ra_ HO414) (Kd.R_base ho2) hb) (Kd.R_below (ra_ HO419) hb) (Kd.R_lower (Kd.R_new' (Kd.R_new' ho0 (Kd.R_lt (ra_ HO384))) (Kd.R_lt (ra_ HO403))) (below_size (bl2_ HB GE379 GE416))) (Kd.R_lower (Kd.R_new' (Kd.R_new' ho1 (Kd.R_lt (ra_ HO387))) (Kd.R_lt (ra_ HO406))) (below_size (bl2_ HB GE379 GE416))) (Kd.R_lower (Kd.R_new' (Kd.R_new' ho2 (Kd.R_lt (ra_ HO395))) (Kd.R_lt (ra_ HO414))) (below_size (bl2_ HB GE379 GE416))) (blk_below (bk_ BK379) hb) (blk_below (bk_ BK416) hb) (below_step (bl2_ HB GE379 GE416) hb) ?_⟩
    clear HO384 HO387 HO395 HO399 HO403 HO406 HO414 HO419 BK379 BK416 HB hb ho0 ho1 ho2
    intro HO384 HO387 HO395 HO399 HO403 HO406 HO414 HO419 HO424 HO427 HO435 BK379 BK416 HB
    obtain ⟨Ao42, co42, eo42⟩ := Kd.R_slice HO424.out
    (first | subst eo42 | (injection eo42 with f1_ f2_ f3_; have f4_ := f1_.symm; have f5_ := f3_.symm; clear f1_ f2_ f3_; subst f4_; subst f5_))
    obtain ⟨Ao43, co43, eo43⟩ := Kd.R_slice HO427.out
    (first | subst eo43 | (injection eo43 with f1_ f2_ f3_; have f4_ := f1_.symm; have f5_ := f3_.symm; clear f1_ f2_ f3_; subst f4_; subst f5_))
    obtain ⟨Ao44, co44, eo44⟩ := Kd.R_slice HO435.out
    (first | subst eo44 | (injection eo44 with f1_ f2_ f3_; have f4_ := f1_.symm; have f5_ := f3_.symm; clear f1_ f2_ f3_; subst f4_; subst f5_))
    refine hK.out _ _ ⟨(bc_ BK416 0 rfl), (bc_ BK416 1 rfl), (bc_ BK416 2 rfl), (bc_ BK416 3 rfl), (bc_ BK416 4 rfl), (bc_ BK416 5 rfl), (bc_ BK416 6 rfl), (bc_ BK416 7 rfl), (bc_ BK416 8 rfl), (bc_ BK416 9 rfl), (bc_ BK379 0 rfl), (bc_ BK379 1 rfl), (bc_ BK379 2 rfl), (bc_ BK379 3 rfl), (bc_ BK379 4 rfl), (bc_ BK379 5 rfl), (bc_ BK379 6 rfl), (bc_ BK379 7 rfl), (bc_ BK379 8 rfl), (bc_ BK379 9 rfl)⟩ (fun hHeld => ?_)
    clear hK K
    refine norm_ (a' := ?_) ?_ ?_
    rotate_left
    ·show Act.put _ (some 37) _ = _
     simp only [Act.put, List.setIfInBounds_toArray, List.set_cons_zero, List.set_cons_succ, i64_w, i32_w]
     rfl
    refine one_ (i := 3) (N := some 38) #[true, true, true, true, false] rfl rfl (by kernel_rfl) (by decide) (fun K hK => ?_)
    refine goes_ Try.func14 (by kernel_rfl) rfl #[.agg #[.int .i64 t400, .slice Ao34 t401.length co34, .slice Ao35 t404.length co35, .int .i64 t407, .int .i64 t408, .int .i64 t409, .int .i64 t410, .int .i64 t411, .slice Ao36 t412.length co36, .int .i64 t415], .agg #[.int .i64 t421, .slice Ao42 t422.length co42, .slice Ao43 t425.length co43, .int .i64 t428, .int .i64 t429, .int .i64 t430, .int .i64 t431, .int .i64 t432, .slice Ao44 t433.length co44, .int .i64 t436]] (by rfl) rfl rfl mp_ ?_
    with_reducible refine (laws_eqSky.calls k t400 _ _ t401 _ _ t404 t407 t408 t409 t410 t411 _ _ t412 t415 t421 _ _ t422 _ _ t425 t428 t429 t430 t431 t432 _ _ t433 t436 true _ ?side1 ?side2 ?side3 ?side4 ?side5 ?side6 ?side7 ?side8 ?side9 ?side10 ?side11 ?side12 A16.out).mono ?_
    (case side1 => repeat (first | exact (Kd.R_reads' HO403.out).2.2 | (with_reducible refine Kd.C_alloc ?_ _) | (with_reducible refine Kd.C_drewN ?_ _) | (with_reducible refine Kd.C_drew ?_)))
    (case side2 => exact (Kd.R_reads' HO403.out).2.1)
    (case side3 => repeat (first | exact (Kd.R_reads' HO406.out).2.2 | (with_reducible refine Kd.C_alloc ?_ _) | (with_reducible refine Kd.C_drewN ?_ _) | (with_reducible refine Kd.C_drew ?_)))
    (case side4 => exact (Kd.R_reads' HO406.out).2.1)
    (case side5 => repeat (first | exact (Kd.R_reads' HO414.out).2.2 | (with_reducible refine Kd.C_alloc ?_ _) | (with_reducible refine Kd.C_drewN ?_ _) | (with_reducible refine Kd.C_drew ?_)))
    (case side6 => exact (Kd.R_reads' HO414.out).2.1)
    (case side7 => repeat (first | exact (Kd.R_reads' HO424.out).2.2 | (with_reducible refine Kd.C_alloc ?_ _) | (with_reducible refine Kd.C_drewN ?_ _) | (with_reducible refine Kd.C_drew ?_)))
    (case side8 => exact (Kd.R_reads' HO424.out).2.1)
    (case side9 => repeat (first | exact (Kd.R_reads' HO427.out).2.2 | (with_reducible refine Kd.C_alloc ?_ _) | (with_reducible refine Kd.C_drewN ?_ _) | (with_reducible refine Kd.C_drew ?_)))
    (case side10 => exact (Kd.R_reads' HO427.out).2.1)
    (case side11 => repeat (first | exact (Kd.R_reads' HO435.out).2.2 | (with_reducible refine Kd.C_alloc ?_ _) | (with_reducible refine Kd.C_drewN ?_ _) | (with_reducible refine Kd.C_drew ?_)))
    (case side12 => exact (Kd.R_reads' HO435.out).2.1)
    rintro e w45 ⟨rfl, hb⟩
    refine ⟨_, rfl, sh14_ (Kd.R_below (ra_ HO384) hb) (Kd.R_below (ra_ HO387) hb) (Kd.R_below (ra_ HO395) hb) (Kd.R_below (ra_ HO399) hb) (Kd.R_below (ra_ HO403) hb) (Kd.R_below (ra_ HO406) hb) (Kd.R_below (ra_ HO414) hb) (Kd.R_below (ra_ HO419) hb) (Kd.R_below (ra_ HO424) hb) (Kd.R_below (ra_ HO427) hb) (Kd.R_below (ra_ HO435) hb) (blk_below (bk_ BK379) hb) (blk_below (bk_ BK416) hb) (below_step (bl2_ HB GE379 GE416) hb) ?_⟩
    clear HO384 HO387 HO395 HO399 HO403 HO406 HO414 HO419 HO424 HO427 HO435 BK379 BK416 HB hb
    intro HO384 HO387 HO395 HO399 HO403 HO406 HO414 HO419 HO424 HO427 HO435 BK379 BK416 HB
    refine hK.out _ _ ⟨(bc_ BK416 0 rfl), (bc_ BK416 1 rfl), (bc_ BK416 2 rfl), (bc_ BK416 3 rfl), (bc_ BK416 4 rfl), (bc_ BK416 5 rfl), (bc_ BK416 6 rfl), (bc_ BK416 7 rfl), (bc_ BK416 8 rfl), (bc_ BK416 9 rfl), (bc_ BK379 0 rfl), (bc_ BK379 1 rfl), (bc_ BK379 2 rfl), (bc_ BK379 3 rfl), (bc_ BK379 4 rfl), (bc_ BK379 5 rfl), (bc_ BK379 6 rfl), (bc_ BK379 7 rfl), (bc_ BK379 8 rfl), (bc_ BK379 9 rfl)⟩ (fun hHeld => ?_)
    clear hK K
    refine norm_ (a' := ?_) ?_ ?_
    rotate_left
    ·show Act.put _ (some 38) _ = _
     simp only [Act.put, List.setIfInBounds_toArray, List.set_cons_zero, List.set_cons_succ, i64_w, i32_w]
     rfl
    refine pure_ (i := 4) (N := some 39) (v := ?_) (a' := ?_) #[true, true, true, true, true] rfl rfl (by kernel_rfl) (fun _ _ _ h => h) (Or.inl ⟨by rfl, ?_⟩) ?_ ?_
    rotate_left
    ·intro w'
     go_simp
     with_reducible rfl
    rotate_left
    ·simp only [Act.put, List.setIfInBounds_toArray, List.set_cons_zero, List.set_cons_succ, i64_w, i32_w]
     rfl
    refine done_ (by kernel_rfl) ?_
    have hcz46 := cf10_ BK416
    go_upto_region 14 with (first | ((with_reducible refine gate_callee (f := 15) rfl ?_); refine goesL_ (some 42) rfl rfl Try.func15 (by kernel_rfl) rfl #[.agg #[.int .i64 t400, .slice Ao34 t401.length co34, .slice Ao35 t404.length co35, .int .i64 t407, .int .i64 t408, .int .i64 t409, .int .i64 t410, .int .i64 t411, .slice Ao36 t412.length co36, .int .i64 t415], .int .i64 1] rfl mp_ ?_; (with_reducible refine (laws_markSky.calls k t400 (fun k_ => some k_ = (.slice Ao34 t401.length co34 : Value).ownBlock) (.slice Ao34 t401.length co34) t401 (fun k_ => some k_ = (.slice Ao35 t404.length co35 : Value).ownBlock) (.slice Ao35 t404.length co35) t404 t407 t408 t409 t410 t411 (fun k_ => some k_ = (.slice Ao36 t412.length co36 : Value).ownBlock) (.slice Ao36 t412.length co36) t412 t415 1 t438 t439 t440 t441 w _ ?side1 ?side2 ?side3 ?side4 A18.out).mono ?_); (case side1 => repeat (first | (with_reducible first | exact HB.out | apply below_alloc | apply pw_below_drewN | apply below_drew1 | refine below_set ?_ GE379.out | refine below_set ?_ GE416.out) | exact HB.out)); (case side2 => exact Kd.R_tight rfl HO403.out); (case side3 => exact Kd.R_tight rfl HO406.out); (case side4 => exact Kd.R_tight rfl HO414.out); rintro e w47 ⟨rfl, hy0, hy1, hy2, hb, hkp⟩; refine ⟨_, rfl, sh14_ (blk_kept (bk_ BK379) hkp (fun hs_ => Or.elim hs_ (fun e_ => (fun e_ => (Kd.R_ne HO403.out BK379.out (by decide)) e_) e_) (fun e_ => Or.elim e_ (fun e_ => (fun e_ => (Kd.R_ne HO406.out BK379.out (by decide)) e_) e_) (fun e_ => (fun e_ => (Kd.R_ne HO414.out BK379.out (by decide)) e_) e_)))) (Kd.R_mono (ok' := fun k_ => some k_ ≠ (.slice Ao34 t401.length co34 : Value).ownBlock ∧ some k_ ≠ (.slice Ao42 t422.length co42 : Value).ownBlock) (Kd.R_keptB ((Kd.R_apart' (Kd.R_apart' HO384.out (Kd.R_typed HO406.out) (by decide)) (Kd.R_typed HO414.out) (by decide))) hkp (fun k_ hk_ hs_ => Or.elim hs_ (fun e_ => absurd e_ (hx_ hk_)) (fun e_ => Or.elim e_ (fun e_ => absurd e_ (hx_ hk_)) (fun e_ => absurd e_ (hx_ hk_))))) (fun k_ hk_ => ⟨hx_ hk_, hx_ hk_⟩)) (Kd.R_mono (ok' := fun k_ => some k_ ≠ (.slice Ao35 t404.length co35 : Value).ownBlock ∧ some k_ ≠ (.slice Ao43 t425.length co43 : Value).ownBlock) (Kd.R_keptB ((Kd.R_apart' (Kd.R_apart' HO387.out (Kd.R_typed HO403.out) (by decide)) (Kd.R_typed HO414.out) (by decide))) hkp (fun k_ hk_ hs_ => Or.elim hs_ (fun e_ => absurd e_ (hx_ hk_)) (fun e_ => Or.elim e_ (fun e_ => absurd e_ (hx_ hk_)) (fun e_ => absurd e_ (hx_ hk_))))) (fun k_ hk_ => ⟨hx_ hk_, hx_ hk_⟩)) (Kd.R_mono (ok' := fun k_ => some k_ ≠ (.slice Ao36 t412.length co36 : Value).ownBlock ∧ some k_ ≠ (.slice Ao44 t433.length co44 : Value).ownBlock) (Kd.R_keptB ((Kd.R_apart' (Kd.R_apart' HO395.out (Kd.R_typed HO403.out) (by decide)) (Kd.R_typed HO406.out) (by decide))) hkp (fun k_ hk_ hs_ => Or.elim hs_ (fun e_ => absurd e_ (hx_ hk_)) (fun e_ => Or.elim e_ (fun e_ => absurd e_ (hx_ hk_)) (fun e_ => absurd e_ (hx_ hk_))))) (fun k_ hk_ => ⟨hx_ hk_, hx_ hk_⟩)) (Kd.R_mono (ok' := fun k_ => some k_ ≠ (.slice Ao38 t417.length co38 : Value).ownBlock) (Kd.R_keptB ((Kd.R_apart' (Kd.R_apart' (Kd.R_apart' HO399.out (Kd.R_typed HO403.out) (by decide)) (Kd.R_typed HO406.out) (by decide)) (Kd.R_typed HO414.out) (by decide))) hkp (fun k_ hk_ hs_ => Or.elim hs_ (fun e_ => absurd e_ (hx_ hk_)) (fun e_ => Or.elim e_ (fun e_ => absurd e_ (hx_ hk_)) (fun e_ => absurd e_ (hx_ hk_))))) (fun k_ hk_ => hx_ hk_)) (Kd.R_reok rfl hy0 (fun k_ e_ => HO403.out.1 k_ e_)) (Kd.R_reok rfl hy1 (fun k_ e_ => HO406.out.1 k_ e_)) (Kd.R_reok rfl hy2 (fun k_ e_ => HO414.out.1 k_ e_)) (blk_kept (bk_ BK416) hkp (fun hs_ => Or.elim hs_ (fun e_ => (fun e_ => (Kd.R_ne HO403.out BK416.out (by decide)) e_) e_) (fun e_ => Or.elim e_ (fun e_ => (fun e_ => (Kd.R_ne HO406.out BK416.out (by decide)) e_) e_) (fun e_ => (fun e_ => (Kd.R_ne HO414.out BK416.out (by decide)) e_) e_)))) (Kd.R_mono (ok' := fun k_ => some k_ ≠ (.slice Ao39 t397.length co39 : Value).ownBlock) (Kd.R_keptB ((Kd.R_apart' (Kd.R_apart' (Kd.R_apart' HO419.out (Kd.R_typed HO403.out) (by decide)) (Kd.R_typed HO406.out) (by decide)) (Kd.R_typed HO414.out) (by decide))) hkp (fun k_ hk_ hs_ => Or.elim hs_ (fun e_ => absurd e_ (hx_ hk_)) (fun e_ => Or.elim e_ (fun e_ => absurd e_ (hx_ hk_)) (fun e_ => absurd e_ (hx_ hk_))))) (fun k_ hk_ => hx_ hk_)) (Kd.R_mono (ok' := fun k_ => some k_ ≠ (.slice Ao25 t382.length co25 : Value).ownBlock ∧ some k_ ≠ (.slice Ao34 t401.length co34 : Value).ownBlock) (Kd.R_keptB ((Kd.R_apart' (Kd.R_apart' HO424.out (Kd.R_typed HO406.out) (by decide)) (Kd.R_typed HO414.out) (by decide))) hkp (fun k_ hk_ hs_ => Or.elim hs_ (fun e_ => absurd e_ (hx_ hk_)) (fun e_ => Or.elim e_ (fun e_ => absurd e_ (hx_ hk_)) (fun e_ => absurd e_ (hx_ hk_))))) (fun k_ hk_ => ⟨hx_ hk_, hx_ hk_⟩)) (Kd.R_mono (ok' := fun k_ => some k_ ≠ (.slice Ao26 t385.length co26 : Value).ownBlock ∧ some k_ ≠ (.slice Ao35 t404.length co35 : Value).ownBlock) (Kd.R_keptB ((Kd.R_apart' (Kd.R_apart' HO427.out (Kd.R_typed HO403.out) (by decide)) (Kd.R_typed HO414.out) (by decide))) hkp (fun k_ hk_ hs_ => Or.elim hs_ (fun e_ => absurd e_ (hx_ hk_)) (fun e_ => Or.elim e_ (fun e_ => absurd e_ (hx_ hk_)) (fun e_ => absurd e_ (hx_ hk_))))) (fun k_ hk_ => ⟨hx_ hk_, hx_ hk_⟩)) (Kd.R_mono (ok' := fun k_ => some k_ ≠ (.slice Ao27 t393.length co27 : Value).ownBlock ∧ some k_ ≠ (.slice Ao36 t412.length co36 : Value).ownBlock) (Kd.R_keptB ((Kd.R_apart' (Kd.R_apart' HO435.out (Kd.R_typed HO403.out) (by decide)) (Kd.R_typed HO406.out) (by decide))) hkp (fun k_ hk_ hs_ => Or.elim hs_ (fun e_ => absurd e_ (hx_ hk_)) (fun e_ => Or.elim e_ (fun e_ => absurd e_ (hx_ hk_)) (fun e_ => absurd e_ (hx_ hk_))))) (fun k_ hk_ => ⟨hx_ hk_, hx_ hk_⟩)) hb ?_⟩; clear BK379 HO384 HO387 HO395 HO399 HO403 HO406 HO414 BK416 HO419 HO424 HO427 HO435 HB hb hkp hy0 hy1 hy2; intro BK379 HO384 HO387 HO395 HO399 HO403 HO406 HO414 BK416 HO419 HO424 HO427 HO435 HB))
    (try simp only [Act.put, List.setIfInBounds_toArray, List.set_cons_zero, List.set_cons_succ])
    go_cut [50] (fun v50 wc => ∃ (kq : Nat) (x50_18 : Bool), v50 = .bool x50_18 ∧ Aside0 (laws_FnExactSureNeighbors.j0 kq a1 a2 t397 t417 x50_18 a0_0 l0_1 l0_2 a0_3 a0_4 a0_5 a0_6 a0_7 l0_8 a0_9 = some true) ∧ Aside0 (kq ≤ k) ∧ Aside0 (Kd.R (Kd.int .i64) 3 wc w.heap.size (fun k_ => some k_ ≠ ((.slice Ao38 t417.length co38) : Value).ownBlock) (.slice Ao39 t397.length co39) t397) ∧ Aside0 (Kd.R (Kd.int .i64) 3 wc w.heap.size (fun k_ => some k_ ≠ ((.slice Ao39 t397.length co39) : Value).ownBlock) (.slice Ao38 t417.length co38) t417) ∧ Aside0 (Kd.R k105 105 wc w.heap.size (fun _ => True) (.slice Ao34 t401.length co34) t439) ∧ Aside0 (Kd.R k109 109 wc w.heap.size (fun _ => True) (.slice Ao35 t404.length co35) t440) ∧ Aside0 (Kd.R k115 115 wc w.heap.size (fun _ => True) (.slice Ao36 t412.length co36) t441) ∧ Aside0 (wc.heap[gb379]? = some (.cells #[.int .i64 a0_0, (.slice A0_1 l0_1.length c0_1), (.slice A0_2 l0_2.length c0_2), .int .i64 a0_3, .int .i64 a0_4, .int .i64 a0_5, .int .i64 a0_6, .int .i64 a0_7, (.slice A0_8 l0_8.length c0_8), .int .i64 a0_9] 26 (0, 0))) ∧ Aside0 (wc.heap[gb416]? = some (.cells #[.int .i64 t400, (.slice Ao34 t401.length co34), (.slice Ao35 t404.length co35), .int .i64 t407, .int .i64 t408, .int .i64 t409, .int .i64 t410, .int .i64 t411, (.slice Ao36 t412.length co36), .int .i64 t415] 34 (0, 0))) ∧ Aside0 (Below w.heap.size w wc))
    case first =>
     have H := HC19.out
     clear HC19
     by_cases c48 : t438 < 0
     ·rw [if_pos c48] at H
      have c48b0 := decide_eq_true c48
      clear c48
      (first | rw [c48b0] | (simp only [i64_w, i32_w]; rw [c48b0]) | skip)
      have H' := Aside0.mk H
      clear H
      go_wp2
      go_meet
      case rel => exact ⟨_, (true), (by first | rfl | (simp; done) | (simp [*]; done)), H', ⟨by first | omega | exact Nat.le_refl _⟩, ⟨ra_ HO399⟩, ⟨ra_ HO419⟩, ⟨by (with_reducible repeat (first | apply Kd.R_alloc | apply Kd.R_drewN | apply Kd.R_drew)); exact Kd.R_mono HO403.out (fun _ hk => trivial)⟩, ⟨by (with_reducible repeat (first | apply Kd.R_alloc | apply Kd.R_drewN | apply Kd.R_drew)); exact Kd.R_mono HO406.out (fun _ hk => trivial)⟩, ⟨by (with_reducible repeat (first | apply Kd.R_alloc | apply Kd.R_drewN | apply Kd.R_drew)); exact Kd.R_mono HO414.out (fun _ hk => trivial)⟩, ⟨by (with_reducible repeat (first | refine blk_drewN ?_ _ | refine blk_drew ?_ | refine blk_alloc ?_ _)); exact BK379.out⟩, ⟨by (with_reducible repeat (first | refine blk_drewN ?_ _ | refine blk_drew ?_ | refine blk_alloc ?_ _)); exact BK416.out⟩, ⟨bl2_ HB GE379 GE416⟩⟩
     ·rw [if_neg c48] at H
      have c48b0 := decide_eq_false c48
      clear c48
      (first | rw [c48b0] | (simp only [i64_w, i32_w]; rw [c48b0]) | skip)
      replace H := bs_ H
      obtain ⟨t442, A49, H⟩ := H
      have H' := Aside0.mk H
      clear H
      go_wp2_with (first | (go_at_call 33; (with_reducible refine (laws_eqIntS.calls k _ _ t417 _ _ t397 t442 _ ?side1 ?side2 ?side3 ?side4 A49.out).mono ?_); (case side1 => repeat (first | exact (Kd.R_reads' HO419.out).2.2 | (with_reducible refine Kd.C_alloc ?_ _) | (with_reducible refine Kd.C_drewN ?_ _) | (with_reducible refine Kd.C_drew ?_))); (case side2 => exact (Kd.R_reads' HO419.out).2.1); (case side3 => repeat (first | exact (Kd.R_reads' HO399.out).2.2 | (with_reducible refine Kd.C_alloc ?_ _) | (with_reducible refine Kd.C_drewN ?_ _) | (with_reducible refine Kd.C_drew ?_))); (case side4 => exact (Kd.R_reads' HO399.out).2.1); rintro e w' ⟨rfl, ⟨nd, rfl⟩⟩))
      go_meet
      case rel => exact ⟨_, (!t442), (by first | rfl | (simp; done) | (simp [*]; done)), H', ⟨by first | omega | exact Nat.le_refl _⟩, ⟨ra_ HO399⟩, ⟨ra_ HO419⟩, ⟨by (with_reducible repeat (first | apply Kd.R_alloc | apply Kd.R_drewN | apply Kd.R_drew)); exact Kd.R_mono HO403.out (fun _ hk => trivial)⟩, ⟨by (with_reducible repeat (first | apply Kd.R_alloc | apply Kd.R_drewN | apply Kd.R_drew)); exact Kd.R_mono HO406.out (fun _ hk => trivial)⟩, ⟨by (with_reducible repeat (first | apply Kd.R_alloc | apply Kd.R_drewN | apply Kd.R_drew)); exact Kd.R_mono HO414.out (fun _ hk => trivial)⟩, ⟨by (with_reducible repeat (first | refine blk_drewN ?_ _ | refine blk_drew ?_ | refine blk_alloc ?_ _)); exact BK379.out⟩, ⟨by (with_reducible repeat (first | refine blk_drewN ?_ _ | refine blk_drew ?_ | refine blk_alloc ?_ _)); exact BK416.out⟩, ⟨bl2_ HB GE379 GE416⟩⟩
    case rest =>
     clear HC19
     try clear c1
     try clear p2
     try clear c3
     try clear c4
     try clear c5
     try clear c5b0
     try clear c6
     try clear c9
     try clear c11
     try clear c14
     try clear c15
     try clear c17
     try clear c31
     try clear c32
     try clear c33
     try clear c48
     try clear c48b0
     try clear hcz21
     try clear hcz23
     try clear hcz29
     try clear hcz33
     try clear hcz46
     try clear hcz7
     obtain ⟨kq, x50_18, rfl, HA, HJ18, HO_8, HO_10, HO_417001, HO_417002, HO_417008, BK379, BK416, HB⟩ := hcut
     have hl417001_18 := (Kd.R_reads' HO_417001.out).1
     rw [hl417001_18] at HO_417001
     (try simp only [hl417001_18])
     (try simp only [hl417001_18] at BK379)
     (try simp only [hl417001_18] at BK416)
     (try simp only [hl417001_18] at HO_8)
     (try simp only [hl417001_18] at HO_10)
     (try simp only [hl417001_18] at HO_417002)
     (try simp only [hl417001_18] at HO_417008)
     have hl417002_18 := (Kd.R_reads' HO_417002.out).1
     rw [hl417002_18] at HO_417002
     (try simp only [hl417002_18])
     (try simp only [hl417002_18] at BK379)
     (try simp only [hl417002_18] at BK416)
     (try simp only [hl417002_18] at HO_8)
     (try simp only [hl417002_18] at HO_10)
     (try simp only [hl417002_18] at HO_417001)
     (try simp only [hl417002_18] at HO_417008)
     have hl417008_18 := (Kd.R_reads' HO_417008.out).1
     rw [hl417008_18] at HO_417008
     (try simp only [hl417008_18])
     (try simp only [hl417008_18] at BK379)
     (try simp only [hl417008_18] at BK416)
     (try simp only [hl417008_18] at HO_8)
     (try simp only [hl417008_18] at HO_10)
     (try simp only [hl417008_18] at HO_417001)
     (try simp only [hl417008_18] at HO_417002)
     cases kq with
     | zero => exact absurd HA.out (by simp [laws_FnExactSureNeighbors.j0])
     | succ kj18 =>
      have H := HA.out
      clear HA
      simp only [laws_FnExactSureNeighbors.j0] at H
      by_cases c50 : x50_18 = true
      ·subst c50
       try rw [if_pos rfl] at H
       exact absurd H (by simp)
      ·replace c50 := Bool.eq_false_iff.mpr c50
       subst c50
       have H1 : ((laws_markIntS.f kj18 t417 1).bind fun bt443 => ((laws_heldIntS.f kj18 bt443.2 1).bind fun t445 => (if t445 < 0 then (some false) else (if t445 = bt443.1 then ((laws_toSky.f kj18 a0_0 l0_1 l0_2 a0_3 a0_4 a0_5 a0_6 a0_7 l0_8 a0_9).bind fun bt446 => ((impl_SureNeighbors.f kj18 bt446.1 bt446.2.1 bt446.2.2.1 bt446.2.2.2.1 bt446.2.2.2.2.1 bt446.2.2.2.2.2.1 bt446.2.2.2.2.2.2.1 bt446.2.2.2.2.2.2.2.1 bt446.2.2.2.2.2.2.2.2.1 bt446.2.2.2.2.2.2.2.2.2 a1 a2).bind fun t462 => ((laws_eqIntS.f kj18 t462 t397).bind fun t465 => (if t465 = true then ((laws_heldIntS.f kj18 bt443.2 1).bind fun t466 => (if t466 < 0 then (some false) else (if t466 = bt443.1 then (some true) else (some false)))) else (some false))))) else (some false))))) = some true := by first | (rw [if_neg (show ¬ (false = true) by decide)] at H; exact H) | rfl
       clear H
       have H := H1
       clear H1
       replace H := bs_ H
       obtain ⟨⟨t443, t444⟩, A51, H⟩ := H
       dsimp only at H
       replace H := bs_ H
       obtain ⟨t445, A52, H⟩ := H
       by_cases c53 : t445 < 0
       ·rw [if_pos c53] at H
        have c53b0 := decide_eq_true c53
        clear c53
        exact absurd H (by simp)
       ·rw [if_neg c53] at H
        have c53b0 := decide_eq_false c53
        clear c53
        by_cases c54 : t445 = t443
        ·rw [if_pos c54] at H
         obtain ⟨c54b0, c54b1⟩ := bt_ c54
         clear c54
         replace H := bs_ H
         obtain ⟨⟨t446, t447, t450, t453, t454, t455, t456, t457, t458, t461⟩, A55, H⟩ := H
         dsimp only at H
         replace H := bs_ H
         obtain ⟨t462, A56, H⟩ := H
         replace H := bs_ H
         obtain ⟨t465, A57, H⟩ := H
         by_cases c58 : t465 = true
         ·subst c58
          try rw [if_pos rfl] at H
          replace H := bs_ H
          obtain ⟨t466, A59, H⟩ := H
          by_cases c60 : t466 < 0
          ·rw [if_pos c60] at H
           have c60b0 := decide_eq_true c60
           clear c60
           exact absurd H (by simp)
          ·rw [if_neg c60] at H
           have c60b0 := decide_eq_false c60
           clear c60
           by_cases c61 : t466 = t443
           ·rw [if_pos c61] at H
            obtain ⟨c61b0, c61b1⟩ := bt_ c61
            clear c61
            clear H
            go_wp2_with (first | ((with_reducible refine gate_callee (f := 34) rfl ?_); refine goesL_ (some 53) rfl rfl Try.func34 (by kernel_rfl) rfl #[.slice Ao38 t417.length co38, .int .i64 1] rfl mp_ ?_; (with_reducible refine (laws_markIntS.calls kj18 (fun k_ => some k_ = (.slice Ao38 t417.length co38 : Value).ownBlock) (.slice Ao38 t417.length co38) t417 1 t443 t444 w _ ?side1 ?side2 A51.out).mono ?_); (case side1 => repeat (first | (with_reducible first | exact HB.out | apply below_alloc | apply pw_below_drewN | apply below_drew1 | refine below_set ?_ GE379.out | refine below_set ?_ GE416.out) | exact HB.out)); (case side2 => exact Kd.R_tight rfl HO_10.out); rintro e w62 ⟨rfl, hy0, hb, hkp⟩; refine ⟨_, rfl, sh8_ (Kd.R_mono (ok' := fun k_ => some k_ ≠ (.slice Ao38 t417.length co38 : Value).ownBlock) (Kd.R_keptB (HO_8.out) hkp (fun k_ hk_ hs_ => (hk_) hs_)) (fun k_ hk_ => hx_ hk_)) (Kd.R_reok rfl hy0 (fun k_ e_ => HO_10.out.1 k_ e_)) (Kd.R_mono (ok' := fun k_ => True) (Kd.R_keptB ((Kd.R_apart' HO_417001.out (Kd.R_typed HO_10.out) (by decide))) hkp (fun k_ hk_ hs_ => (hk_.2) hs_)) (fun k_ hk_ => trivial)) (Kd.R_mono (ok' := fun k_ => True) (Kd.R_keptB ((Kd.R_apart' HO_417002.out (Kd.R_typed HO_10.out) (by decide))) hkp (fun k_ hk_ hs_ => (hk_.2) hs_)) (fun k_ hk_ => trivial)) (Kd.R_mono (ok' := fun k_ => True) (Kd.R_keptB ((Kd.R_apart' HO_417008.out (Kd.R_typed HO_10.out) (by decide))) hkp (fun k_ hk_ hs_ => (hk_.2) hs_)) (fun k_ hk_ => trivial)) (blk_kept (bk_ BK379) hkp (fun hs_ => (fun e_ => (Kd.R_ne HO_10.out BK379.out (by decide)) e_) hs_)) (blk_kept (bk_ BK416) hkp (fun hs_ => (fun e_ => (Kd.R_ne HO_10.out BK416.out (by decide)) e_) hs_)) hb ?_⟩; clear HO_8 HO_10 HO_417001 HO_417002 HO_417008 BK379 BK416 HB hb hkp hy0; intro HO_8 HO_10 HO_417001 HO_417002 HO_417008 BK379 BK416 HB) | ((with_reducible refine gate_callee (f := 35) rfl ?_); refine goesL_ (some 56) rfl rfl Try.func35 (by kernel_rfl) rfl #[.slice Ao38 t444.length co38, .int .i64 1] rfl (by (try simp only [List.map_toArray, List.map_cons, List.map_nil]); first | done | (rw [show t444.length = t417.length from (Kd.R_reads' HO_10.out).1.symm] <;> rfl) | rfl | (simp only [List.length_drop, List.length_take]; rfl)) ?_; (with_reducible refine (laws_heldIntS.calls kj18 _ _ t444 1 t445 _ ?side1 ?side2 A52.out).mono ?_); (case side1 => repeat (first | exact (Kd.R_reads' HO_10.out).2.2 | (with_reducible refine Kd.C_alloc ?_ _) | (with_reducible refine Kd.C_drewN ?_ _) | (with_reducible refine Kd.C_drew ?_))); (case side2 => rw [show t444.length = t417.length from (Kd.R_reads' HO_10.out).1.symm]; exact (Kd.R_reads' HO_10.out).2.1); rintro e w' ⟨rfl, ⟨nd, rfl⟩⟩; refine ⟨_, rfl, ?_⟩; have hnb63 := NB379_416.out; have hnc63 := NB416_379.out; have hcz64 := cf10_ BK379) | ((with_reducible refine gate_callee (f := 11) rfl ?_); refine goesL_ (some 63) rfl rfl Try.func11 (by kernel_rfl) rfl #[.agg #[.int .i64 a0_0, .slice A0_1 l0_1.length c0_1, .slice A0_2 l0_2.length c0_2, .int .i64 a0_3, .int .i64 a0_4, .int .i64 a0_5, .int .i64 a0_6, .int .i64 a0_7, .slice A0_8 l0_8.length c0_8, .int .i64 a0_9]] rfl mp_ ?_; (with_reducible refine (laws_toSky.calls kj18 a0_0 _ _ l0_1 _ _ l0_2 a0_3 a0_4 a0_5 a0_6 a0_7 _ _ l0_8 a0_9 t446 t447 t450 t453 t454 t455 t456 t457 t458 t461 _ ?side1 ?side2 ?side3 ?side4 ?side5 ?side6 A55.out).mono ?_); (case side1 => repeat (first | exact (Kd.C_below HR0_1.out (bl2_ HB GE379 GE416)) | (with_reducible refine Kd.C_alloc ?_ _) | (with_reducible refine Kd.C_drewN ?_ _) | (with_reducible refine Kd.C_drew ?_))); (case side2 => exact HC0_1.out); (case side3 => repeat (first | exact (Kd.C_below HR0_2.out (bl2_ HB GE379 GE416)) | (with_reducible refine Kd.C_alloc ?_ _) | (with_reducible refine Kd.C_drewN ?_ _) | (with_reducible refine Kd.C_drew ?_))); (case side4 => exact HC0_2.out); (case side5 => repeat (first | exact (Kd.C_below HR0_8.out (bl2_ HB GE379 GE416)) | (with_reducible refine Kd.C_alloc ?_ _) | (with_reducible refine Kd.C_drewN ?_ _) | (with_reducible refine Kd.C_drew ?_))); (case side6 => exact HC0_8.out); rintro e w65 ⟨v448, v451, v459, rfl, ho0, ho1, ho2, hb⟩; refine ⟨_, rfl, sh11_ (Kd.R_below (ra_ HO_8) hb) (Kd.R_below (ra_ HO_10) hb) (Kd.R_elder' (ra_ HO_417001) (Kd.R_base ho0) hb) (Kd.R_elder' (ra_ HO_417002) (Kd.R_base ho1) hb) (Kd.R_elder' (ra_ HO_417008) (Kd.R_base ho2) hb) (Kd.R_lower (Kd.R_new' ho0 (Kd.R_lt (ra_ HO_417001))) (below_size (bl2_ HB GE379 GE416))) (Kd.R_lower (Kd.R_new' ho1 (Kd.R_lt (ra_ HO_417002))) (below_size (bl2_ HB GE379 GE416))) (Kd.R_lower (Kd.R_new' ho2 (Kd.R_lt (ra_ HO_417008))) (below_size (bl2_ HB GE379 GE416))) (blk_below (bk_ BK379) hb) (blk_below (bk_ BK416) hb) (below_step (bl2_ HB GE379 GE416) hb) ?_⟩; clear HO_8 HO_10 HO_417001 HO_417002 HO_417008 BK379 BK416 HB hb ho0 ho1 ho2; intro HO_8 HO_10 HO_417001 HO_417002 HO_417008 HO449 HO452 HO460 BK379 BK416 HB; obtain ⟨Ao66, co66, eo66⟩ := Kd.R_slice HO449.out; subst eo66; obtain ⟨Ao67, co67, eo67⟩ := Kd.R_slice HO452.out; subst eo67; obtain ⟨Ao68, co68, eo68⟩ := Kd.R_slice HO460.out; subst eo68) | ((with_reducible refine gate_callee (f := 32) rfl ?_); refine gl_ 66 Try.func32 (impl_SureNeighbors.calls kj18 t446 _ _ t447 _ _ t450 t453 t454 t455 t456 t457 _ _ t458 t461 a1 a2 t462 _ (cr_ HO449) (rl_ HO449) (cr_ HO452) (rl_ HO452) (cr_ HO460) (rl_ HO460) A56.out) ?_; rintro e w69 ⟨v463, rfl, ho0, hb⟩; refine ⟨_, rfl, sh12_ (Kd.R_elder' (ra_ HO_8) (Kd.R_base ho0) hb) (Kd.R_elder' (ra_ HO_10) (Kd.R_base ho0) hb) (Kd.R_below (ra_ HO_417001) hb) (Kd.R_below (ra_ HO_417002) hb) (Kd.R_below (ra_ HO_417008) hb) (Kd.R_below (ra_ HO449) hb) (Kd.R_below (ra_ HO452) hb) (Kd.R_below (ra_ HO460) hb) (Kd.R_lower (Kd.R_new' (Kd.R_new' ho0 (Kd.R_lt (ra_ HO_8))) (Kd.R_lt (ra_ HO_10))) (below_size (bl2_ HB GE379 GE416))) (blk_below (bk_ BK379) hb) (blk_below (bk_ BK416) hb) (below_step (bl2_ HB GE379 GE416) hb) ?_⟩; clear HO_8 HO_10 HO_417001 HO_417002 HO_417008 HO449 HO452 HO460 BK379 BK416 HB hb ho0; intro HO_8 HO_10 HO_417001 HO_417002 HO_417008 HO449 HO452 HO460 HO464 BK379 BK416 HB; obtain ⟨Ao70, co70, eo70⟩ := Kd.R_slice HO464.out; subst eo70) | ((with_reducible refine gate_callee (f := 33) rfl ?_); refine gl_ 69 Try.func33 (laws_eqIntS.calls kj18 _ _ t462 _ _ t397 true _ (cr_ HO464) (rl_ HO464) (cr_ HO_8) (rl_ HO_8) A57.out) ?_; rintro e w' ⟨rfl, ⟨nd, rfl⟩⟩; refine ⟨_, rfl, ?_⟩) | ((with_reducible refine gate_callee (f := 35) rfl ?_); refine goesL_ (some 73) rfl rfl Try.func35 (by kernel_rfl) rfl #[.slice Ao38 t444.length co38, .int .i64 1] rfl (by (try simp only [List.map_toArray, List.map_cons, List.map_nil]); first | done | (rw [show t444.length = t417.length from (Kd.R_reads' HO_10.out).1.symm] <;> rfl) | rfl | (simp only [List.length_drop, List.length_take]; rfl)) ?_; (with_reducible refine (laws_heldIntS.calls kj18 _ _ t444 1 t466 _ ?side1 ?side2 A59.out).mono ?_); (case side1 => repeat (first | exact (Kd.R_reads' HO_10.out).2.2 | (with_reducible refine Kd.C_alloc ?_ _) | (with_reducible refine Kd.C_drewN ?_ _) | (with_reducible refine Kd.C_drew ?_))); (case side2 => rw [show t444.length = t417.length from (Kd.R_reads' HO_10.out).1.symm]; exact (Kd.R_reads' HO_10.out).2.1); rintro e w' ⟨rfl, ⟨nd, rfl⟩⟩; refine ⟨_, rfl, ?_⟩))
            go_ret
            exact ⟨er_, bl2_ HB GE379 GE416⟩
           ·rw [if_neg c61] at H
            obtain ⟨c61b0, c61b1⟩ := bn_ c61
            exact absurd H (by simp)
         ·replace c58 := Bool.eq_false_iff.mpr c58
          subst c58
          have H1 : (some false) = some true := by first | (rw [if_neg (show ¬ (false = true) by decide)] at H; exact H) | rfl
          clear H
          have H := H1
          clear H1
          exact absurd H (by simp)
        ·rw [if_neg c54] at H
         obtain ⟨c54b0, c54b1⟩ := bn_ c54
         exact absurd H (by simp)
   ·replace c17 := Bool.eq_false_iff.mpr c17
    subst c17
    have H1 : (some false) = some true := by first | (rw [if_neg (show ¬ (false = true) by decide)] at H; exact H) | rfl
    clear H
    have H := H1
    clear H1
    exact absurd H (by simp)
  ·replace c14 := Bool.eq_false_iff.mpr c14
   subst c14
   have H1 : (some false) = some true := by first | (rw [if_neg (show ¬ (false = true) by decide)] at H; exact H) | rfl
   clear H
   have H := H1
   clear H1
   exact absurd H (by simp)

end Go.Proofs.Ytcjfalmhohcifaa.PFnExactSureNeighbors
