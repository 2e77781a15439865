-- Written by a program of this session for this claim (the kit's printer with changes).
import Derived.Test.YtcjfalmhohcifaaQFnExactSureSharex0
import Derived.Test.YtcjfalmhohcifaaQFnExactSureSharex1
import Derived.Test.YtcjfalmhohcifaaQFnExactSureSharex2
import Derived.Test.YtcjfalmhohcifaaQFnExactSureSharex5
import Derived.Test.YtcjfalmhohcifaaQFnExactSureSharex8
namespace Go.Proofs.Ytcjfalmhohcifaa.PFnExactSureShare
open Go.RowKit Go.Proofs.YtcjfalmhohcifaaW.PrintWords Go.Proofs.YtcjfalmhohcifaaW.PrintLast Go.Proofs.YtcjfalmhohcifaaW.PrintMore
attribute [local go_sem] max2_int min2_int max_two min_two max_three min_three max_four min_four   -- for this text's walks alone
set_option linter.unusedVariables false
set_option linter.unusedSimpArgs false

/-! ### impl_IsSure: function 70 -/
def impl_IsSure.f (k : Nat) (a0_0 : Int) (l0_1 : List (S105)) (l0_2 : List (S109)) (a0_3 : Int) (a0_4 : Int) (a0_5 : Int) (a0_6 : Int) (a0_7 : Int) (l0_8 : List (S115)) (a0_9 : Int) (a1 : Int) (a2 : Int) (a3 : Int) : Option (Bool) := (impl_SightAt.f k a0_0 l0_1 l0_2 a0_3 a0_4 a0_5 a0_6 a0_7 l0_8 a0_9 a1 a2 a3).bind fun t404 => (some (t404 == 2))
theorem impl_IsSure.mono : ∀ a0 a1 a2 a3 a4 a5 a6 a7 a8 a9 a10 a11 a12 k, LeO (impl_IsSure.f k a0 a1 a2 a3 a4 a5 a6 a7 a8 a9 a10 a11 a12) (impl_IsSure.f (k + 1) a0 a1 a2 a3 a4 a5 a6 a7 a8 a9 a10 a11 a12) := by
 intro a0 a1 a2 a3 a4 a5 a6 a7 a8 a9 a10 a11 a12 k
 unfold impl_IsSure.f
 repeat' first | (with_reducible first | exact impl_SightAt.mono _ _ _ _ _ _ _ _ _ _ _ _ _ _ | exact LeO.refl _ | exact LeO.none _ | refine LeO.ite ?_ ?_ | refine LeO.bind ?_ (fun _ => ?_)) | exact LeO.none _ | refine LeO.ite ?_ ?_ | refine LeO.bind ?_ (fun _ => ?_)
set_option maxHeartbeats 8000000 in
set_option maxRecDepth 100000 in
theorem impl_IsSure.calls (k : Nat) (a0_0 : Int) (A0_1 : Option Addr) (c0_1 : Nat) (l0_1 : List (S105)) (A0_2 : Option Addr) (c0_2 : Nat) (l0_2 : List (S109)) (a0_3 : Int) (a0_4 : Int) (a0_5 : Int) (a0_6 : Int) (a0_7 : Int) (A0_8 : Option Addr) (c0_8 : Nat) (l0_8 : List (S115)) (a0_9 : Int) (a1 : Int) (a2 : Int) (a3 : Int) (r : Bool) (w : World) (hr0_1 : Kd.C k105 w A0_1 l0_1.length l0_1) (hc0_1 : l0_1.length ≤ c0_1) (hr0_2 : Kd.C k109 w A0_2 l0_2.length l0_2) (hc0_2 : l0_2.length ≤ c0_2) (hr0_8 : Kd.C k115 w A0_8 l0_8.length l0_8) (hc0_8 : l0_8.length ≤ c0_8) (h : impl_IsSure.f k a0_0 l0_1 l0_2 a0_3 a0_4 a0_5 a0_6 a0_7 l0_8 a0_9 a1 a2 a3 = some r) :
  Calls Try.prog 70 #[.agg #[.int .i64 a0_0, .slice A0_1 l0_1.length c0_1, .slice A0_2 l0_2.length c0_2, .int .i64 a0_3, .int .i64 a0_4, .int .i64 a0_5, .int .i64 a0_6, .int .i64 a0_7, .slice A0_8 l0_8.length c0_8, .int .i64 a0_9], .int .i64 a1, .int .i64 a2, .int .i64 a3] w fun e w' => e = .returned (.bool r) ∧ Below w.heap.size w w' := by
 have hu34 := Try.underlying34
 have HR0_1 := Aside0.mk hr0_1
 have HC0_1 := Aside0.mk hc0_1
 clear hr0_1 hc0_1
 have HR0_2 := Aside0.mk hr0_2
 have HC0_2 := Aside0.mk hc0_2
 clear hr0_2 hc0_2
 have HR0_8 := Aside0.mk hr0_8
 have HC0_8 := Aside0.mk hc0_8
 clear hr0_8 hc0_8
 have HB := Aside0.mk (Below.refl w.heap.size w)
 have H := h
 clear h
 unfold impl_IsSure.f at H
 replace H := bs_ H
 obtain ⟨t404, A5, H⟩ := H
 obtain rfl := Option.some.inj H
 go_enter Try.func70, Try.ntmps70
 go_wp2_with (first | ((with_reducible refine gd_ 4 ?_); refine bx_ 4 34 #[.int .i64 a0_0, .slice A0_1 l0_1.length c0_1, .slice A0_2 l0_2.length c0_2, .int .i64 a0_3, .int .i64 a0_4, .int .i64 a0_5, .int .i64 a0_6, .int .i64 a0_7, .slice A0_8 l0_8.length c0_8, .int .i64 a0_9] ?_; intro gb403 hg w6 hbox hb; refine sh4_ (below_step (bl_ HB) hb) hbox (ge_ hg (bl_ HB)) (ge_ hg (bl_ HB)) ?_; clear HB hb hbox hg; intro HB BK403 GW403 GE403; have hcz7 := cf10_ BK403) | ((with_reducible refine gate_callee (f := 98) rfl ?_); refine gl_ 13 Try.func98 (impl_SightAt.calls k a0_0 _ _ l0_1 _ _ l0_2 a0_3 a0_4 a0_5 a0_6 a0_7 _ _ l0_8 a0_9 a1 a2 a3 t404 _ (ck_ HR0_1 HB) HC0_1.out (ck_ HR0_2 HB) HC0_2.out (ck_ HR0_8 HB) HC0_8.out A5.out) ?_; rintro e w8 ⟨rfl, hb⟩; refine ⟨_, rfl, sh2_ (blk_below (bk_ BK403) hb) (below_step (bl1_ HB GE403) hb) ?_⟩; clear BK403 HB hb; intro BK403 HB))
 go_ret
 exact ⟨er_, bl1_ HB GE403⟩

/-! ### impl_SureWindows_1: function 78 -/
def impl_SureWindows_1.f (k : Nat) (a0 : Int) (a1_0 : Int) (l1_1 : List (S105)) (l1_2 : List (S109)) (a1_3 : Int) (a1_4 : Int) (a1_5 : Int) (a1_6 : Int) (a1_7 : Int) (l1_8 : List (S115)) (a1_9 : Int) (a2 : Int) (a3 : Int) : Option (Bool) := (impl_IsSure.f k a1_0 l1_1 l1_2 a1_3 a1_4 a1_5 a1_6 a1_7 l1_8 a1_9 a2 a3 a0).bind fun t405 => (some t405)
theorem impl_SureWindows_1.mono : ∀ a0 a1 a2 a3 a4 a5 a6 a7 a8 a9 a10 a11 a12 k, LeO (impl_SureWindows_1.f k a0 a1 a2 a3 a4 a5 a6 a7 a8 a9 a10 a11 a12) (impl_SureWindows_1.f (k + 1) a0 a1 a2 a3 a4 a5 a6 a7 a8 a9 a10 a11 a12) := by
 intro a0 a1 a2 a3 a4 a5 a6 a7 a8 a9 a10 a11 a12 k
 unfold impl_SureWindows_1.f
 repeat' first | (with_reducible first | exact impl_IsSure.mono _ _ _ _ _ _ _ _ _ _ _ _ _ _ | exact LeO.refl _ | exact LeO.none _ | refine LeO.ite ?_ ?_ | refine LeO.bind ?_ (fun _ => ?_)) | exact LeO.none _ | refine LeO.ite ?_ ?_ | refine LeO.bind ?_ (fun _ => ?_)
set_option maxHeartbeats 8000000 in
set_option maxRecDepth 100000 in
theorem impl_SureWindows_1.calls (k : Nat) (a0 : Int) (a1_0 : Int) (A1_1 : Option Addr) (c1_1 : Nat) (l1_1 : List (S105)) (A1_2 : Option Addr) (c1_2 : Nat) (l1_2 : List (S109)) (a1_3 : Int) (a1_4 : Int) (a1_5 : Int) (a1_6 : Int) (a1_7 : Int) (A1_8 : Option Addr) (c1_8 : Nat) (l1_8 : List (S115)) (a1_9 : Int) (a2 : Int) (a3 : Int) (r : Bool) (w : World) (B0 : Nat) (hB0 : w.heap[B0]? = some (.cells #[.int .i64 a1_0, .slice A1_1 l1_1.length c1_1, .slice A1_2 l1_2.length c1_2, .int .i64 a1_3, .int .i64 a1_4, .int .i64 a1_5, .int .i64 a1_6, .int .i64 a1_7, .slice A1_8 l1_8.length c1_8, .int .i64 a1_9] 34 (0, 0))) (B1 : Nat) (hB1 : w.heap[B1]? = some (.cells #[.int .i64 a2] 3 (0, 0))) (B2 : Nat) (hB2 : w.heap[B2]? = some (.cells #[.int .i64 a3] 3 (0, 0))) (hr1_1 : Kd.C k105 w A1_1 l1_1.length l1_1) (hc1_1 : l1_1.length ≤ c1_1) (hr1_2 : Kd.C k109 w A1_2 l1_2.length l1_2) (hc1_2 : l1_2.length ≤ c1_2) (hr1_8 : Kd.C k115 w A1_8 l1_8.length l1_8) (hc1_8 : l1_8.length ≤ c1_8) (h : impl_SureWindows_1.f k a0 a1_0 l1_1 l1_2 a1_3 a1_4 a1_5 a1_6 a1_7 l1_8 a1_9 a2 a3 = some r) :
  Calls Try.prog 78 #[.int .i64 a0, .pointer (some ⟨B0, 0, none⟩), .pointer (some ⟨B1, 0, none⟩), .pointer (some ⟨B2, 0, none⟩)] w fun e w' => e = .returned (.bool r) ∧ Below w.heap.size w w' := by
 have hcB0_0 : w.cell? ⟨B0, 0, none⟩ = some (.int .i64 a1_0) := (blk_cell hB0 0).trans rfl
 have hcB0_1 : w.cell? ⟨B0, 1, none⟩ = some (.slice A1_1 l1_1.length c1_1) := (blk_cell hB0 1).trans rfl
 have hcB0_2 : w.cell? ⟨B0, 2, none⟩ = some (.slice A1_2 l1_2.length c1_2) := (blk_cell hB0 2).trans rfl
 have hcB0_3 : w.cell? ⟨B0, 3, none⟩ = some (.int .i64 a1_3) := (blk_cell hB0 3).trans rfl
 have hcB0_4 : w.cell? ⟨B0, 4, none⟩ = some (.int .i64 a1_4) := (blk_cell hB0 4).trans rfl
 have hcB0_5 : w.cell? ⟨B0, 5, none⟩ = some (.int .i64 a1_5) := (blk_cell hB0 5).trans rfl
 have hcB0_6 : w.cell? ⟨B0, 6, none⟩ = some (.int .i64 a1_6) := (blk_cell hB0 6).trans rfl
 have hcB0_7 : w.cell? ⟨B0, 7, none⟩ = some (.int .i64 a1_7) := (blk_cell hB0 7).trans rfl
 have hcB0_8 : w.cell? ⟨B0, 8, none⟩ = some (.slice A1_8 l1_8.length c1_8) := (blk_cell hB0 8).trans rfl
 have hcB0_9 : w.cell? ⟨B0, 9, none⟩ = some (.int .i64 a1_9) := (blk_cell hB0 9).trans rfl
 have hcB1_0 : w.cell? ⟨B1, 0, none⟩ = some (.int .i64 a2) := (blk_cell hB1 0).trans rfl
 have hcB2_0 : w.cell? ⟨B2, 0, none⟩ = some (.int .i64 a3) := (blk_cell hB2 0).trans rfl
 have HR1_1 := Aside0.mk hr1_1
 have HC1_1 := Aside0.mk hc1_1
 clear hr1_1 hc1_1
 have HR1_2 := Aside0.mk hr1_2
 have HC1_2 := Aside0.mk hc1_2
 clear hr1_2 hc1_2
 have HR1_8 := Aside0.mk hr1_8
 have HC1_8 := Aside0.mk hc1_8
 clear hr1_8 hc1_8
 have HB := Aside0.mk (Below.refl w.heap.size w)
 have H := h
 clear h
 unfold impl_SureWindows_1.f at H
 replace H := bs_ H
 obtain ⟨t405, A5, H⟩ := H
 obtain rfl := Option.some.inj H
 go_enter Try.func78, Try.ntmps78
 go_wp2_with (first | ((with_reducible refine gate_callee (f := 70) rfl ?_); refine gl_ 10 Try.func70 (impl_IsSure.calls k a1_0 _ _ l1_1 _ _ l1_2 a1_3 a1_4 a1_5 a1_6 a1_7 _ _ l1_8 a1_9 a2 a3 a0 t405 _ (cq_ HR1_1) HC1_1.out (cq_ HR1_2) HC1_2.out (cq_ HR1_8) HC1_8.out A5.out) ?_; rintro e w6 ⟨rfl, hb⟩; refine ⟨_, rfl, sh1_ (below_step (bl_ HB) hb) ?_⟩; clear HB hb; intro HB))
 go_ret
 exact ⟨er_, bl_ HB⟩


def where_impl_SureWindows_1.f (k : Nat) (y0 y1 : Int) (a1_0 : Int) (l1_1 : List (S105)) (l1_2 : List (S109)) (a1_3 : Int) (a1_4 : Int) (a1_5 : Int) (a1_6 : Int) (a1_7 : Int) (l1_8 : List (S115)) (a1_9 : Int) (a2 : Int) (a3 : Int) : Option (List (S73)) := sw.f (fun k' t' => impl_SureWindows_1.f k' t' a1_0 l1_1 l1_2 a1_3 a1_4 a1_5 a1_6 a1_7 l1_8 a1_9 a2 a3) k y0 y1
theorem where_impl_SureWindows_1.mono : ∀ y0 y1 a1_0 l1_1 l1_2 a1_3 a1_4 a1_5 a1_6 a1_7 l1_8 a1_9 a2 a3 k, LeO (where_impl_SureWindows_1.f k y0 y1 a1_0 l1_1 l1_2 a1_3 a1_4 a1_5 a1_6 a1_7 l1_8 a1_9 a2 a3) (where_impl_SureWindows_1.f (k + 1) y0 y1 a1_0 l1_1 l1_2 a1_3 a1_4 a1_5 a1_6 a1_7 l1_8 a1_9 a2 a3) := fun y0 y1 a1_0 l1_1 l1_2 a1_3 a1_4 a1_5 a1_6 a1_7 l1_8 a1_9 a2 a3 k => sw.mono _ (fun t' k' => by exact impl_SureWindows_1.mono _ _ _ _ _ _ _ _ _ _ _ _ _ _) y0 y1 k
theorem where_impl_SureWindows_1.calls (k : Nat) (y0 y1 : Int) (a1_0 : Int) (A1_1 : Option Addr) (c1_1 : Nat) (l1_1 : List (S105)) (A1_2 : Option Addr) (c1_2 : Nat) (l1_2 : List (S109)) (a1_3 : Int) (a1_4 : Int) (a1_5 : Int) (a1_6 : Int) (a1_7 : Int) (A1_8 : Option Addr) (c1_8 : Nat) (l1_8 : List (S115)) (a1_9 : Int) (a2 : Int) (a3 : Int) (r : List (S73)) (w : World) (B0 : Nat) (hB0 : w.heap[B0]? = some (.cells #[.int .i64 a1_0, .slice A1_1 l1_1.length c1_1, .slice A1_2 l1_2.length c1_2, .int .i64 a1_3, .int .i64 a1_4, .int .i64 a1_5, .int .i64 a1_6, .int .i64 a1_7, .slice A1_8 l1_8.length c1_8, .int .i64 a1_9] 34 (0, 0))) (B1 : Nat) (hB1 : w.heap[B1]? = some (.cells #[.int .i64 a2] 3 (0, 0))) (B2 : Nat) (hB2 : w.heap[B2]? = some (.cells #[.int .i64 a3] 3 (0, 0))) (hr1_1 : Kd.C k105 w A1_1 l1_1.length l1_1) (hc1_1 : l1_1.length ≤ c1_1) (hr1_2 : Kd.C k109 w A1_2 l1_2.length l1_2) (hc1_2 : l1_2.length ≤ c1_2) (hr1_8 : Kd.C k115 w A1_8 l1_8.length l1_8) (hc1_8 : l1_8.length ≤ c1_8) (h : where_impl_SureWindows_1.f k y0 y1 a1_0 l1_1 l1_2 a1_3 a1_4 a1_5 a1_6 a1_7 l1_8 a1_9 a2 a3 = some r) :
  Calls Try.prog 75 #[.int .i64 y0, .int .i64 y1, .func (.func 78) #[] #[.pointer (some ⟨B0, 0, none⟩), .pointer (some ⟨B1, 0, none⟩), .pointer (some ⟨B2, 0, none⟩)]] w fun e w' => ∃ v0_ : Value, e = .returned (v0_) ∧ Kd.R k73 73 w' w.heap.size (fun _ => True) v0_ r ∧ Below w.heap.size w w' := by
 refine sw.calls (fun k' t' => impl_SureWindows_1.f k' t' a1_0 l1_1 l1_2 a1_3 a1_4 a1_5 a1_6 a1_7 l1_8 a1_9 a2 a3) k y0 y1 r w 78 _ (fun args w => enters_ Try.func78 (by kernel_rfl) rfl args w) (fun k' t b W hq hb => ?_) h
 have hB0' := blk_below hB0 hb
 have hB1' := blk_below hB1 hb
 have hB2' := blk_below hB2 hb
 have hh := impl_SureWindows_1.calls k' t a1_0 A1_1 c1_1 l1_1 A1_2 c1_2 l1_2 a1_3 a1_4 a1_5 a1_6 a1_7 A1_8 c1_8 l1_8 a1_9 a2 a3 b W B0 hB0' B1 hB1' B2 hB2' (Kd.C_below hr1_1 hb) hc1_1 (Kd.C_below hr1_2 hb) hc1_2 (Kd.C_below hr1_8 hb) hc1_8 hq
 exact hh.mono (fun e w' hx => ⟨hx.1, hx.2⟩)

/-! ### impl_SureWindows: function 39 -/
def impl_SureWindows.f (k : Nat) (a0_0 : Int) (l0_1 : List (S105)) (l0_2 : List (S109)) (a0_3 : Int) (a0_4 : Int) (a0_5 : Int) (a0_6 : Int) (a0_7 : Int) (l0_8 : List (S115)) (a0_9 : Int) (a1 : Int) (a2 : Int) (a3 : Int) (a4 : Int) : Option ((List (S73))) := (where_impl_SureWindows_1.f k a3 a4 a0_0 l0_1 l0_2 a0_3 a0_4 a0_5 a0_6 a0_7 l0_8 a0_9 a1 a2).bind fun t406 => (some t406)
theorem impl_SureWindows.mono : ∀ a0 a1 a2 a3 a4 a5 a6 a7 a8 a9 a10 a11 a12 a13 k, LeO (impl_SureWindows.f k a0 a1 a2 a3 a4 a5 a6 a7 a8 a9 a10 a11 a12 a13) (impl_SureWindows.f (k + 1) a0 a1 a2 a3 a4 a5 a6 a7 a8 a9 a10 a11 a12 a13) := by
 intro a0 a1 a2 a3 a4 a5 a6 a7 a8 a9 a10 a11 a12 a13 k
 unfold impl_SureWindows.f
 repeat' first | (with_reducible first | exact where_impl_SureWindows_1.mono _ _ _ _ _ _ _ _ _ _ _ _ _ _ _ | exact LeO.refl _ | exact LeO.none _ | refine LeO.ite ?_ ?_ | refine LeO.bind ?_ (fun _ => ?_)) | exact LeO.none _ | refine LeO.ite ?_ ?_ | refine LeO.bind ?_ (fun _ => ?_)
set_option maxHeartbeats 8000000 in
set_option maxRecDepth 100000 in
theorem impl_SureWindows.calls (k : Nat) (a0_0 : Int) (A0_1 : Option Addr) (c0_1 : Nat) (l0_1 : List (S105)) (A0_2 : Option Addr) (c0_2 : Nat) (l0_2 : List (S109)) (a0_3 : Int) (a0_4 : Int) (a0_5 : Int) (a0_6 : Int) (a0_7 : Int) (A0_8 : Option Addr) (c0_8 : Nat) (l0_8 : List (S115)) (a0_9 : Int) (a1 : Int) (a2 : Int) (a3 : Int) (a4 : Int) (r : List (S73)) (w : World) (hr0_1 : Kd.C k105 w A0_1 l0_1.length l0_1) (hc0_1 : l0_1.length ≤ c0_1) (hr0_2 : Kd.C k109 w A0_2 l0_2.length l0_2) (hc0_2 : l0_2.length ≤ c0_2) (hr0_8 : Kd.C k115 w A0_8 l0_8.length l0_8) (hc0_8 : l0_8.length ≤ c0_8) (h : impl_SureWindows.f k a0_0 l0_1 l0_2 a0_3 a0_4 a0_5 a0_6 a0_7 l0_8 a0_9 a1 a2 a3 a4 = some r) :
  Calls Try.prog 39 #[.agg #[.int .i64 a0_0, .slice A0_1 l0_1.length c0_1, .slice A0_2 l0_2.length c0_2, .int .i64 a0_3, .int .i64 a0_4, .int .i64 a0_5, .int .i64 a0_6, .int .i64 a0_7, .slice A0_8 l0_8.length c0_8, .int .i64 a0_9], .int .i64 a1, .int .i64 a2, .int .i64 a3, .int .i64 a4] w fun e w' => ∃ v0_ : Value, e = .returned (v0_) ∧ Kd.R k73 73 w' w.heap.size (fun _ => True) v0_ r ∧ Below w.heap.size w w' := by
 have HR0_1 := Aside0.mk hr0_1
 have HC0_1 := Aside0.mk hc0_1
 clear hr0_1 hc0_1
 have HR0_2 := Aside0.mk hr0_2
 have HC0_2 := Aside0.mk hc0_2
 clear hr0_2 hc0_2
 have HR0_8 := Aside0.mk hr0_8
 have HC0_8 := Aside0.mk hc0_8
 clear hr0_8 hc0_8
 have HB := Aside0.mk (Below.refl w.heap.size w)
 have H := h
 clear h
 unfold impl_SureWindows.f at H
 replace H := bs_ H
 obtain ⟨t406, A6, H⟩ := H
 obtain rfl := Option.some.inj H
 go_enter Try.func39, Try.ntmps39
 go_wp2_with (first | ((with_reducible refine gd_ 5 ?_); refine bx_ 5 34 #[.int .i64 a0_0, .slice A0_1 l0_1.length c0_1, .slice A0_2 l0_2.length c0_2, .int .i64 a0_3, .int .i64 a0_4, .int .i64 a0_5, .int .i64 a0_6, .int .i64 a0_7, .slice A0_8 l0_8.length c0_8, .int .i64 a0_9] ?_; intro gx5 hg wx5 hbox hb; refine sh1_ (below_step HB.out hb) ?_; clear HB; intro HB; have BK5_ := Aside0.mk hbox; clear hb hg hbox) | ((with_reducible refine gd_ 6 ?_); refine bx_ 6 3 #[.int .i64 a1] ?_; intro gx6 hg wx6 hbox hb; have n0_ := Aside0.mk (below_step HB.out hb); have BKn5_ := Aside0.mk (blk_below BK5_.out hb); clear BK5_; have BK5_ := BKn5_; clear BKn5_; clear HB; have HB := n0_; clear n0_; have BK6_ := Aside0.mk hbox; clear hb hg hbox) | ((with_reducible refine gd_ 7 ?_); refine bx_ 7 3 #[.int .i64 a2] ?_; intro gx7 hg wx7 hbox hb; have n0_ := Aside0.mk (below_step HB.out hb); have BKn5_ := Aside0.mk (blk_below BK5_.out hb); clear BK5_; have BK5_ := BKn5_; clear BKn5_; have BKn6_ := Aside0.mk (blk_below BK6_.out hb); clear BK6_; have BK6_ := BKn6_; clear BKn6_; clear HB; have HB := n0_; clear n0_; have BK7_ := Aside0.mk hbox; clear hb hg hbox) | ((with_reducible refine gate_callee (f := 75) rfl ?_); refine gl_ 14 Try.func75 (where_impl_SureWindows_1.calls k a3 a4 a0_0 _ _ l0_1 _ _ l0_2 a0_3 a0_4 a0_5 a0_6 a0_7 _ _ l0_8 a0_9 a1 a2 t406 _ gx5 BK5_.out gx6 BK6_.out gx7 BK7_.out (ck_ HR0_1 HB) HC0_1.out (ck_ HR0_2 HB) HC0_2.out (ck_ HR0_8 HB) HC0_8.out A6.out) ?_; rintro e w7 ⟨v407, rfl, ho0, hb⟩; refine ⟨_, rfl, sh2_ (Kd.R_lower ho0 (below_size (bl_ HB))) (below_step (bl_ HB) hb) ?_⟩; clear HB hb ho0; intro HO408 HB))
 go_ret
 exact ⟨_, er_, ra_ HO408, bl_ HB⟩

/-! ### impl_IsSpan: function 96 -/
def impl_IsSpan.f (a0_0 : Int) (a0_1 : Int) : Option (Bool) := if a0_0 ≥ 0 then (if a0_1 ≤ 1000 then (some (decide (a0_0 < a0_1))) else (some false)) else (some false)
set_option maxHeartbeats 8000000 in
set_option maxRecDepth 100000 in
theorem impl_IsSpan.calls (a0_0 : Int) (a0_1 : Int) (r : Bool) (w : World) (h : impl_IsSpan.f a0_0 a0_1 = some r) :
  Calls Try.prog 96 #[.agg #[.int .i64 a0_0, .int .i64 a0_1]] w fun e w' => e = .returned (.bool r) ∧ Below w.heap.size w w' := by
 have hu73 := Try.underlying73
 have HB := Aside0.mk (Below.refl w.heap.size w)
 have H := h
 clear h
 unfold impl_IsSpan.f at H
 by_cases c2 : a0_0 ≥ 0
 ·rw [if_pos c2] at H
  have c2b0 : decide (0 ≤ a0_0) = true := decide_eq_true c2
  clear c2
  by_cases c3 : a0_1 ≤ 1000
  ·rw [if_pos c3] at H
   have c3b0 := decide_eq_true c3
   clear c3
   obtain rfl := Option.some.inj H
   go_enter Try.func96, Try.ntmps96
   go_wp2_with (first | ((with_reducible refine gd_ 1 ?_); refine bx_ 1 73 #[.int .i64 a0_0, .int .i64 a0_1] ?_; intro gb409 hg w4 hbox hb; refine sh4_ (below_step (bl_ HB) hb) hbox (ge_ hg (bl_ HB)) (ge_ hg (bl_ HB)) ?_; clear HB hb hbox hg; intro HB BK409 GW409 GE409; have hcz5 := cf2_ BK409))
   go_ret
   exact ⟨er_, bl1_ HB GE409⟩
  ·rw [if_neg c3] at H
   have c3b0 := decide_eq_false c3
   clear c3
   obtain rfl := Option.some.inj H
   go_enter Try.func96, Try.ntmps96
   go_wp2_with (first | ((with_reducible refine gd_ 1 ?_); refine bx_ 1 73 #[.int .i64 a0_0, .int .i64 a0_1] ?_; intro gb409 hg w6 hbox hb; refine sh4_ (below_step (bl_ HB) hb) hbox (ge_ hg (bl_ HB)) (ge_ hg (bl_ HB)) ?_; clear HB hb hbox hg; intro HB BK409 GW409 GE409; have hcz7 := cf2_ BK409))
   go_ret
   exact ⟨er_, bl1_ HB GE409⟩
 ·rw [if_neg c2] at H
  have c2b0 : decide (0 ≤ a0_0) = false := decide_eq_false c2
  clear c2
  obtain rfl := Option.some.inj H
  go_enter Try.func96, Try.ntmps96
  go_wp2_with (first | ((with_reducible refine gd_ 1 ?_); refine bx_ 1 73 #[.int .i64 a0_0, .int .i64 a0_1] ?_; intro gb409 hg w8 hbox hb; refine sh4_ (below_step (bl_ HB) hb) hbox (ge_ hg (bl_ HB)) (ge_ hg (bl_ HB)) ?_; clear HB hb hbox hg; intro HB BK409 GW409 GE409; have hcz9 := cf2_ BK409))
  go_ret
  exact ⟨er_, bl1_ HB GE409⟩

/-! ### impl_ticks: function 85 -/
mutual
def impl_ticks.l0 : Nat → List Bool → List (S73) → Int → Int → Option (List Bool)
 | 0, _, _, _, _ => none
 | k + 1, x3, x8, x9, x10 => if x10 < x9 then (if 0 ≤ x10 then (if x10 < (x8.length : Int) then ((impl_IsSpan.f ((rd_T73 x8 x10).f0) ((rd_T73 x8 x10).f1)).bind fun t415 => (if t415 = true then (impl_ticks.l1 k x3 ((rd_T73 x8 x10).f0) x8 x9 x10 ((rd_T73 x8 x10).f0) ((rd_T73 x8 x10).f1)) else (impl_ticks.l0 k x3 x8 x9 (wrap64 (x10 + 1))))) else (none)) else (none)) else (some x3)
def impl_ticks.l1 : Nat → List Bool → Int → List (S73) → Int → Int → Int → Int → Option (List Bool)
 | 0, _, _, _, _, _, _, _ => none
 | k + 1, x3, x6, x8, x9, x10, x415000, x415001 => if x6 < x415001 then (if 0 ≤ x6 then (if x6 < (x3.length : Int) then (impl_ticks.l1 k (x3.set (x6 : Int).toNat true) (wrap64 (x6 + 1)) x8 x9 x10 x415000 x415001) else (none)) else (none)) else (impl_ticks.l0 k x3 x8 x9 (wrap64 (x10 + 1)))
end
def impl_ticks.f (k : Nat) (l0 : List (S73)) : Option (List Bool) := if 1000 ≤ 281474976710656 then (impl_ticks.l0 k (List.replicate 1000 false) l0 (l0.length : Int) 0) else (none)
theorem impl_ticks.mono_l : ∀ k, (∀ y0 y1 y2 y3, LeO (impl_ticks.l0 k y0 y1 y2 y3) (impl_ticks.l0 (k + 1) y0 y1 y2 y3)) ∧ (∀ y0 y1 y2 y3 y4 y5 y6, LeO (impl_ticks.l1 k y0 y1 y2 y3 y4 y5 y6) (impl_ticks.l1 (k + 1) y0 y1 y2 y3 y4 y5 y6))
 | 0 => ⟨fun _ _ _ _ r h => by simp [impl_ticks.l0] at h, fun _ _ _ _ _ _ _ r h => by simp [impl_ticks.l1] at h⟩
 | k + 1 => by
  obtain ⟨ih0, ih1⟩ := impl_ticks.mono_l k
  refine ⟨?_, ?_⟩
  ·intro y0 y1 y2 y3
   unfold impl_ticks.l0
   repeat' first | (with_reducible first | exact ih0 _ _ _ _ | exact ih1 _ _ _ _ _ _ _ | exact LeO.refl _ | exact LeO.none _ | refine LeO.ite ?_ ?_ | refine LeO.bind ?_ (fun _ => ?_)) | exact LeO.none _ | refine LeO.ite ?_ ?_ | refine LeO.bind ?_ (fun _ => ?_)
  ·intro y0 y1 y2 y3 y4 y5 y6
   unfold impl_ticks.l1
   repeat' first | (with_reducible first | exact ih0 _ _ _ _ | exact ih1 _ _ _ _ _ _ _ | exact LeO.refl _ | exact LeO.none _ | refine LeO.ite ?_ ?_ | refine LeO.bind ?_ (fun _ => ?_)) | exact LeO.none _ | refine LeO.ite ?_ ?_ | refine LeO.bind ?_ (fun _ => ?_)
theorem impl_ticks.mono : ∀ a0 k, LeO (impl_ticks.f k a0) (impl_ticks.f (k + 1) a0) := by
 intro a0 k
 obtain ⟨ih0, ih1⟩ := impl_ticks.mono_l k
 unfold impl_ticks.f
 repeat' first | (with_reducible first | exact ih0 _ _ _ _ | exact ih1 _ _ _ _ _ _ _ | exact LeO.refl _ | exact LeO.none _ | refine LeO.ite ?_ ?_ | refine LeO.bind ?_ (fun _ => ?_)) | exact LeO.none _ | refine LeO.ite ?_ ?_ | refine LeO.bind ?_ (fun _ => ?_)
set_option maxHeartbeats 8000000 in
set_option maxRecDepth 100000 in
theorem impl_ticks.calls (k : Nat) (A0 : Option Addr) (c0 : Nat) (l0 : List (S73)) (r : List Bool) (w : World) (hr0 : Kd.C k73 w A0 l0.length l0) (hc0 : l0.length ≤ c0) (h : impl_ticks.f k l0 = some r) :
  Calls Try.prog 85 #[.slice A0 l0.length c0] w fun e w' => ∃ v0_ : Value, e = .returned (v0_) ∧ Kd.R Kd.bool 4 w' w.heap.size (fun _ => True) v0_ r ∧ Below w.heap.size w w' := by
 have hu73 := Try.underlying73
 have HR0 := Aside0.mk hr0
 have HC0 := Aside0.mk hc0
 clear hr0 hc0
 have HB := Aside0.mk (Below.refl w.heap.size w)
 have H := h
 clear h
 unfold impl_ticks.f at H
 replace H := ifn_ H
 obtain ⟨c2, H⟩ := H
 have c2b0 := eq_true c2
 have c2b1 := decide_eq_true c2
 clear c2
 replace H : ∃ y_ : List Bool, Aside0 (y_ = (List.replicate 1000 false)) ∧ (impl_ticks.l0 k y_ l0 (l0.length : Int) 0) = some r := ⟨_, ⟨rfl⟩, yh_ H⟩
 obtain ⟨y410, Ny410, H⟩ := H
 have H' := Aside0.mk H
 clear H
 go_enter Try.func85, Try.ntmps85
 go_wp2_with (first | ((with_reducible refine gate_dst (N := 7) rfl ?_); refine Kd.R_make Kd.bool _ 4 rfl (N := 7) rfl 120 _ _ rfl 1000 rfl rfl Try.underlying120 (.bool false) 1 info4 rfl (by decide) (by omega) false (ok := fun _ => True) (okp := fun _ => True) rfl (fun _ hk => hk) trivial (by omega) (by omega) (Below.refl _ _) (Nat.le_refl _) ?_; intro v411 w3 ho4 hb hg_ hnew_; clear hg_ hnew_; (first | rw [← Ny410.out] at ho4 | (simp only [Int.reduceToNat] at ho4; rw [← Ny410.out] at ho4)); refine sh2_ (Kd.R_lower ho4 (below_size (bl_ HB))) (below_step (bl_ HB) hb) ?_; clear HB hb ho4; intro HO412 HB))
 go_loopg [10] k (fun kq v10 w' => ∃ (x3_1 : List Bool) (x10_1 : Int), v10 = .int .i64 x10_1 ∧ Aside0 (impl_ticks.l0 kq x3_1 l0 (l0.length : Int) x10_1 = some r) ∧ Aside0 (kq ≤ k) ∧ Aside0 (Kd.R Kd.bool 4 w' w.heap.size (fun _ => True) v411 x3_1) ∧ Aside0 (Below w.heap.size w w'))
 case atStart => exact ⟨(y410), (0), (by first | rfl | (simp; done) | (simp [*]; done)), H', ⟨Nat.le_refl _⟩, ⟨ra_ HO412⟩, ⟨bl_ HB⟩⟩
 case round =>
  clear H'
  try clear c2
  try clear c2b0
  try clear c2b1
  try clear p2
  obtain ⟨x3_1, x10_1, rfl, HA, HK1, HO_3, HB⟩ := hrel
  cases gk with
  | zero => exact absurd HA.out (by simp [impl_ticks.l0])
  | succ k1 =>
   have H := HA.out
   clear HA
   simp only [impl_ticks.l0] at H
   by_cases c5 : x10_1 < (l0.length : Int)
   ·rw [if_pos c5] at H
    have c5b0 := decide_eq_true c5
    clear c5
    replace H := ifn_ H
    obtain ⟨c6, H⟩ := H
    have c6b0 := decide_eq_true c6
    clear c6
    replace H := ifn_ H
    obtain ⟨c7, H⟩ := H
    have c7b0 := decide_eq_true c7
    clear c7
    replace H := bs_ H
    obtain ⟨t415, A8, H⟩ := H
    by_cases c9 : t415 = true
    ·subst c9
     rw [if_pos rfl] at H
     have H' := Aside0.mk H
     clear H
     have p413 : 0 ≤ (x10_1 : Int) := od_
     have q413 : x10_1 < (l0.length : Int) := od_
     obtain ⟨ad413, e413, hx413_0, hx413_1⟩ := at_T73 HR0.out x10_1 p413 q413
     cases e413
     replace hx413_0 := hbc_ HB hx413_0
     replace hx413_1 := hbc_ HB hx413_1
     replace p413 := eq_true p413
     replace q413 := eq_true q413
     go_wp2_with (first | ((with_reducible refine gd_ 5 ?_); refine bx_ 5 73 #[.int .i64 0, .int .i64 0] ?_; intro gb414 hg w10 hbox hb; refine sh5_ (Kd.R_below (ra_ HO_3) hb) (below_step (bl_ HB) hb) hbox (ge_ hg (bl_ HB)) (ge_ hg (bl_ HB)) ?_; clear HO_3 HB hb hbox hg; intro HO_3 HB BK414 GW414 GE414; have hcz11 := cf2_ BK414) | ((with_reducible refine gate_callee (f := 96) rfl ?_); refine gl_ 15 Try.func96 (impl_IsSpan.calls ((rd_T73 l0 x10_1).f0) ((rd_T73 l0 x10_1).f1) true _ A8.out) ?_; rintro e w12 ⟨rfl, hb⟩; refine ⟨_, rfl, sh3_ (Kd.R_below (by (with_reducible repeat (first | apply Kd.R_alloc | apply Kd.R_drewN | apply Kd.R_drew)); exact (Kd.R_mono (Kd.R_far (p := ⟨gb414, 1, none⟩) (Kd.R_far (p := ⟨gb414, 0, none⟩) (Kd.R_types HO_3.out BK414.out (by decide)) (fun _ hk => hk.2) (.int .i64 ((rd_T73 l0 x10_1).f0))) (fun _ hk => hk.2) (.int .i64 ((rd_T73 l0 x10_1).f1))) (fun _ h_ => h_.1))) hb) (blk_below (g := gb414) (o := .cells #[.int .i64 ((rd_T73 l0 x10_1).f0), .int .i64 ((rd_T73 l0 x10_1).f1)] 73 (0, 0)) (by (with_reducible repeat (first | refine blk_drewN ?_ _ | refine blk_drew ?_ | refine blk_alloc ?_ _)); refine blk_put (cs := #[.int .i64 ((rd_T73 l0 x10_1).f0), .int .i64 0]) ?_ 1 _ rfl; (with_reducible repeat (first | refine blk_drewN ?_ _ | refine blk_drew ?_ | refine blk_alloc ?_ _)); refine blk_put (cs := #[.int .i64 0, .int .i64 0]) ?_ 0 _ rfl; (with_reducible repeat (first | refine blk_drewN ?_ _ | refine blk_drew ?_ | refine blk_alloc ?_ _)); exact BK414.out) hb) (below_step (bl1_ HB GE414) hb) ?_⟩; clear HO_3 BK414 HB hb; intro HO_3 BK414 HB; have hcz13 := cf2_ BK414))
     go_loopg [6] k1 (fun kq v6 w' => ∃ (x3_2 : List Bool) (x6_2 : Int), v6 = .int .i64 x6_2 ∧ Aside0 (impl_ticks.l1 kq x3_2 x6_2 l0 (l0.length : Int) x10_1 ((rd_T73 l0 x10_1).f0) ((rd_T73 l0 x10_1).f1) = some r) ∧ Aside0 (kq ≤ k1) ∧ Aside0 (Kd.R Kd.bool 4 w' w.heap.size (fun _ => True) v411 x3_2) ∧ Aside0 (w'.heap[gb414]? = some (.cells #[.int .i64 ((rd_T73 l0 x10_1).f0), .int .i64 ((rd_T73 l0 x10_1).f1)] 73 (0, 0))) ∧ Aside0 (Below w.heap.size w w'))
     case atStart => exact ⟨(x3_1), ((rd_T73 l0 x10_1).f0), (by first | rfl | (simp; done) | (simp [*]; done)), H', ⟨Nat.le_refl _⟩, ⟨ra_ HO_3⟩, ⟨by (with_reducible repeat (first | refine blk_drewN ?_ _ | refine blk_drew ?_ | refine blk_alloc ?_ _)); exact BK414.out⟩, ⟨bl1_ HB GE414⟩⟩
     case round =>
      clear H'
      try clear c2
      try clear c2b0
      try clear c2b1
      try clear p2
      try clear p4
      try clear q4
      try clear hx4
      try clear c5
      try clear c5b0
      try clear c6
      try clear c6b0
      try clear c7
      try clear c7b0
      try clear c8
      try clear c9
      try clear hcz11
      try clear hcz13
      try clear hx413_0
      try clear hx413_1
      try clear p2
      try clear p413
      try clear q413
      obtain ⟨x3_2, x6_2, rfl, HA, HK2, HO_3, BK414, HB⟩ := hrel
      cases gk with
      | zero => exact absurd HA.out (by simp [impl_ticks.l1])
      | succ k2 =>
       have H := HA.out
       clear HA
       simp only [impl_ticks.l1] at H
       by_cases c14 : x6_2 < ((rd_T73 l0 x10_1).f1)
       ·rw [if_pos c14] at H
        have c14b0 := decide_eq_true c14
        clear c14
        replace H := ifn_ H
        obtain ⟨c15, H⟩ := H
        have c15b0 := decide_eq_true c15
        clear c15
        replace H := ifn_ H
        obtain ⟨c16, H⟩ := H
        have c16b0 := decide_eq_true c16
        clear c16
        replace H : ∃ y_ : List Bool, Aside0 (y_ = (x3_2.set (x6_2 : Int).toNat true)) ∧ (impl_ticks.l1 k2 y_ (wrap64 (x6_2 + 1)) l0 (l0.length : Int) x10_1 ((rd_T73 l0 x10_1).f0) ((rd_T73 l0 x10_1).f1)) = some r := ⟨_, ⟨rfl⟩, yh_ H⟩
        obtain ⟨y416, Ny416, H⟩ := H
        have H' := Aside0.mk H
        clear H
        have hcz18 := cf2_ BK414
        have p17 : 0 ≤ (x6_2 : Int) := od_
        have q17 : (x6_2 : Int) < ((x3_2.length : Int) : Int) := od_
        obtain ⟨go17, co17, eo17, gb17, gl17, cl17, HG17⟩ := Kd.R_form HO_3.out (by omega)
        (first | cases eo17 | (injection eo17 with ea_ en_ ec_; (first | subst ea_ | (injection ea_ with ea_; subst ea_)); subst ec_; clear en_))
        have GB17 := Aside0.mk gb17
        have GG17 := Aside0.mk HG17
        clear gb17 gl17 HG17
        obtain ⟨hx17_0, hf17_0⟩ := Kd.R_celln false HO_3.out (x6_2 : Int) p17 q17
        replace p17 := eq_true p17
        replace q17 := eq_true q17
        have HP19 := Kd.R_putg HO_3.out (x6_2 : Int) true
        go_wp2_with (first | ((with_reducible refine gate_store (t := 4) (p := 26) rfl ?_); refine store_event (t := 4) (p := 26) (v := ?vo_w20) (w1 := (wr.setCell ⟨go17, (x6_2 : Int).toNat, none⟩ (.bool true))) ?hg ?ho ?hn ?hr ?_; (case ho => rfl); (case hg => rfl); (case hn => rfl); (case hr => first | (go_simp; done) | (go_simp; rfl)); intro w20 hw; have hg : wr.grownBy w20 (some go17) := (by rw [hw]; exact HP19.2); have hp_ : Kd.R Kd.bool 4 w20 w.heap.size (fun _ => True) (.slice (some ⟨go17, 0, none⟩) x3_2.length co17) y416 := (by rw [hw, Ny416.out]; exact HP19.1); clear HP19; refine sh3_ hp_ (blk_grown (g := gb414) (o := .cells #[.int .i64 ((rd_T73 l0 x10_1).f0), .int .i64 ((rd_T73 l0 x10_1).f1)] 73 (0, 0)) (bk_ BK414) hg (Kd.R_ne HO_3.out BK414.out (by decide))) ((by rw [hw]; exact below_set (HB.out) GB17.out : Below w.heap.size w w20)) ?_; clear HO_3 BK414 HB; intro HO_3 BK414 HB; clear hg hw hp_))
        go_roundg k2
        case measure => have := HK1.out; have := HK2.out; omega
        case rel => exact ⟨(y416), (wrap64 (x6_2 + 1)), (by first | rfl | (simp; done) | (simp [*]; done)), H', ⟨by have := HK1.out; have := HK2.out; omega⟩, ⟨ra_ HO_3⟩, ⟨by (with_reducible repeat (first | refine blk_drewN ?_ _ | refine blk_drew ?_ | refine blk_alloc ?_ _)); exact BK414.out⟩, ⟨bl1_ HB GE414⟩⟩
       ·rw [if_neg c14] at H
        have c14b0 := decide_eq_false c14
        clear c14
        have H' := Aside0.mk H
        clear H
        have hcz21 := cf2_ BK414
        go_wp2
        go_roundg k2
        case measure => have := HK1.out; have := HK2.out; omega
        case rel => exact ⟨(x3_2), (wrap64 (x10_1 + 1)), (by first | rfl | (simp; done) | (simp [*]; done)), H', ⟨by have := HK1.out; have := HK2.out; omega⟩, ⟨ra_ HO_3⟩, ⟨bl1_ HB GE414⟩⟩
    ·replace c9 := Bool.eq_false_iff.mpr c9
     subst c9
     have H1 : (impl_ticks.l0 k1 x3_1 l0 (l0.length : Int) (wrap64 (x10_1 + 1))) = some r := by rw [if_neg (show ¬ (false = true) by decide)] at H; exact H
     clear H
     have H := H1
     clear H1
     have H' := Aside0.mk H
     clear H
     have p413 : 0 ≤ (x10_1 : Int) := od_
     have q413 : x10_1 < (l0.length : Int) := od_
     obtain ⟨ad413, e413, hx413_0, hx413_1⟩ := at_T73 HR0.out x10_1 p413 q413
     cases e413
     replace hx413_0 := hbc_ HB hx413_0
     replace hx413_1 := hbc_ HB hx413_1
     replace p413 := eq_true p413
     replace q413 := eq_true q413
     go_wp2_with (first | ((with_reducible refine gd_ 5 ?_); refine bx_ 5 73 #[.int .i64 0, .int .i64 0] ?_; intro gb414 hg w22 hbox hb; refine sh5_ (Kd.R_below (ra_ HO_3) hb) (below_step (bl_ HB) hb) hbox (ge_ hg (bl_ HB)) (ge_ hg (bl_ HB)) ?_; clear HO_3 HB hb hbox hg; intro HO_3 HB BK414 GW414 GE414; have hcz23 := cf2_ BK414) | ((with_reducible refine gate_callee (f := 96) rfl ?_); refine gl_ 15 Try.func96 (impl_IsSpan.calls ((rd_T73 l0 x10_1).f0) ((rd_T73 l0 x10_1).f1) false _ A8.out) ?_; rintro e w24 ⟨rfl, hb⟩; refine ⟨_, rfl, sh3_ (Kd.R_below (by (with_reducible repeat (first | apply Kd.R_alloc | apply Kd.R_drewN | apply Kd.R_drew)); exact (Kd.R_mono (Kd.R_far (p := ⟨gb414, 1, none⟩) (Kd.R_far (p := ⟨gb414, 0, none⟩) (Kd.R_types HO_3.out BK414.out (by decide)) (fun _ hk => hk.2) (.int .i64 ((rd_T73 l0 x10_1).f0))) (fun _ hk => hk.2) (.int .i64 ((rd_T73 l0 x10_1).f1))) (fun _ h_ => h_.1))) hb) (blk_below (g := gb414) (o := .cells #[.int .i64 ((rd_T73 l0 x10_1).f0), .int .i64 ((rd_T73 l0 x10_1).f1)] 73 (0, 0)) (by (with_reducible repeat (first | refine blk_drewN ?_ _ | refine blk_drew ?_ | refine blk_alloc ?_ _)); refine blk_put (cs := #[.int .i64 ((rd_T73 l0 x10_1).f0), .int .i64 0]) ?_ 1 _ rfl; (with_reducible repeat (first | refine blk_drewN ?_ _ | refine blk_drew ?_ | refine blk_alloc ?_ _)); refine blk_put (cs := #[.int .i64 0, .int .i64 0]) ?_ 0 _ rfl; (with_reducible repeat (first | refine blk_drewN ?_ _ | refine blk_drew ?_ | refine blk_alloc ?_ _)); exact BK414.out) hb) (below_step (bl1_ HB GE414) hb) ?_⟩; clear HO_3 BK414 HB hb; intro HO_3 BK414 HB))
     go_roundg k1
     case measure => have := HK1.out; omega
     case rel => exact ⟨(x3_1), (wrap64 (x10_1 + 1)), (by first | rfl | (simp; done) | (simp [*]; done)), H', ⟨by have := HK1.out; omega⟩, ⟨ra_ HO_3⟩, ⟨bl1_ HB GE414⟩⟩
   ·rw [if_neg c5] at H
    have c5b0 : decide (x10_1 < (l0.length : Int)) = false := decide_eq_false c5
    clear c5
    obtain rfl := Option.some.inj H
    go_wp2
    go_ret
    exact ⟨_, er_, ra_ HO_3, bl_ HB⟩

/-! ### impl_JoinSpans_1: function 109 -/
def impl_JoinSpans_1.f (a0 : Int) (l1 : List Bool) : Option (Bool) := if 0 ≤ a0 then (if a0 < (l1.length : Int) then (some (rdOf false l1 a0)) else (none)) else (none)
set_option maxHeartbeats 8000000 in
set_option maxRecDepth 100000 in
theorem impl_JoinSpans_1.calls (a0 : Int) (A1 : Option Addr) (c1 : Nat) (l1 : List Bool) (r : Bool) (w : World) (B0 : Nat) (hB0 : w.heap[B0]? = some (.cells #[.slice A1 l1.length c1] 120 (0, 0))) (hr1 : Kd.C Kd.bool w A1 l1.length l1) (hc1 : l1.length ≤ c1) (h : impl_JoinSpans_1.f a0 l1 = some r) :
  Calls Try.prog 109 #[.int .i64 a0, .pointer (some ⟨B0, 0, none⟩)] w fun e w' => e = .returned (.bool r) ∧ Drawn0 w w' := by
 have hcB0_0 : w.cell? ⟨B0, 0, none⟩ = some (.slice A1 l1.length c1) := (blk_cell hB0 0).trans rfl
 have HR1 := Aside0.mk hr1
 have HC1 := Aside0.mk hc1
 clear hr1 hc1
 have H := h
 clear h
 unfold impl_JoinSpans_1.f at H
 replace H := ifn_ H
 obtain ⟨c3, H⟩ := H
 have c3b0 := decide_eq_true c3
 clear c3
 replace H := ifn_ H
 obtain ⟨c4, H⟩ := H
 have c4b0 := decide_eq_true c4
 clear c4
 obtain rfl := Option.some.inj H
 have p417 : 0 ≤ (a0 : Int) := od_
 have q417 : a0 < (l1.length : Int) := od_
 obtain ⟨ad417, e417, hx417_0⟩ := Kd.at_bool HR1.out a0 p417 q417
 cases e417
 replace p417 := eq_true p417
 replace q417 := eq_true q417
 go_enter Try.func109, Try.ntmps109
 go_wp2
 go_ret
 exact ⟨by first | rfl | (simp; done) | (simp [*]; done), by repeat (first | exact Drawn0.refl _ | apply Drawn0.step)⟩


def where_impl_JoinSpans_1.f (k : Nat) (y0 y1 : Int) (l1 : List Bool) : Option (List (S73)) := sw.f (fun k' t' => impl_JoinSpans_1.f t' l1) k y0 y1
theorem where_impl_JoinSpans_1.mono : ∀ y0 y1 l1 k, LeO (where_impl_JoinSpans_1.f k y0 y1 l1) (where_impl_JoinSpans_1.f (k + 1) y0 y1 l1) := fun y0 y1 l1 k => sw.mono _ (fun _ _ => LeO.refl _) y0 y1 k
theorem where_impl_JoinSpans_1.calls (k : Nat) (y0 y1 : Int) (A1 : Option Addr) (c1 : Nat) (l1 : List Bool) (r : List (S73)) (w : World) (B0 : Nat) (hB0 : w.heap[B0]? = some (.cells #[.slice A1 l1.length c1] 120 (0, 0))) (hr1 : Kd.C Kd.bool w A1 l1.length l1) (hc1 : l1.length ≤ c1) (h : where_impl_JoinSpans_1.f k y0 y1 l1 = some r) :
  Calls Try.prog 75 #[.int .i64 y0, .int .i64 y1, .func (.func 109) #[] #[.pointer (some ⟨B0, 0, none⟩)]] w fun e w' => ∃ v0_ : Value, e = .returned (v0_) ∧ Kd.R k73 73 w' w.heap.size (fun _ => True) v0_ r ∧ Below w.heap.size w w' := by
 refine sw.calls (fun k' t' => impl_JoinSpans_1.f t' l1) k y0 y1 r w 109 _ (fun args w => enters_ Try.func109 (by kernel_rfl) rfl args w) (fun k' t b W hq hb => ?_) h
 have hB0' := blk_below hB0 hb
 have hh := impl_JoinSpans_1.calls t A1 c1 l1 b W B0 hB0' (Kd.C_below hr1 hb) hc1 hq
 exact hh.mono (fun e w' hx => ⟨hx.1, by obtain ⟨n, rfl⟩ := hx.2.out; exact pw_below_drewN (Below.refl _ _) n⟩)

/-! ### impl_JoinSpans: function 94 -/
def impl_JoinSpans.f (k : Nat) (l0 : List (S73)) : Option ((List (S73))) := (impl_ticks.f k l0).bind fun t418 => ((where_impl_JoinSpans_1.f k 0 1000 t418).bind fun t421 => (some t421))
theorem impl_JoinSpans.mono : ∀ a0 k, LeO (impl_JoinSpans.f k a0) (impl_JoinSpans.f (k + 1) a0) := by
 intro a0 k
 unfold impl_JoinSpans.f
 repeat' first | (with_reducible first | exact impl_ticks.mono _ _ | exact where_impl_JoinSpans_1.mono _ _ _ _ | exact LeO.refl _ | exact LeO.none _ | refine LeO.ite ?_ ?_ | refine LeO.bind ?_ (fun _ => ?_)) | exact LeO.none _ | refine LeO.ite ?_ ?_ | refine LeO.bind ?_ (fun _ => ?_)
set_option maxHeartbeats 8000000 in
set_option maxRecDepth 100000 in
theorem impl_JoinSpans.calls (k : Nat) (A0 : Option Addr) (c0 : Nat) (l0 : List (S73)) (r : List (S73)) (w : World) (hr0 : Kd.C k73 w A0 l0.length l0) (hc0 : l0.length ≤ c0) (h : impl_JoinSpans.f k l0 = some r) :
  Calls Try.prog 94 #[.slice A0 l0.length c0] w fun e w' => ∃ v0_ : Value, e = .returned (v0_) ∧ Kd.R k73 73 w' w.heap.size (fun _ => True) v0_ r ∧ Below w.heap.size w w' := by
 have HR0 := Aside0.mk hr0
 have HC0 := Aside0.mk hc0
 clear hr0 hc0
 have HB := Aside0.mk (Below.refl w.heap.size w)
 have H := h
 clear h
 unfold impl_JoinSpans.f at H
 replace H := bs_ H
 obtain ⟨t418, A2, H⟩ := H
 replace H := bs_ H
 obtain ⟨t421, A3, H⟩ := H
 obtain rfl := Option.some.inj H
 go_enter Try.func94, Try.ntmps94
 go_wp2_with (first | ((with_reducible refine gate_callee (f := 85) rfl ?_); refine gl_ 5 Try.func85 (impl_ticks.calls k _ _ l0 t418 _ (cq_ HR0) HC0.out A2.out) ?_; rintro e w4 ⟨v419, rfl, ho0, hb⟩; refine ⟨_, rfl, sh2_ (Kd.R_lower ho0 (below_size (bl_ HB))) (below_step (bl_ HB) hb) ?_⟩; clear HB hb ho0; intro HO420 HB; obtain ⟨Ao5, co5, eo5⟩ := Kd.R_slice HO420.out; subst eo5) | ((with_reducible refine gd_ 3 ?_); refine bx_ 3 120 #[.slice none 0 0] ?_; intro gx3 hg wx3 hbox hb; have hHBy_ := Aside0.mk hb; have GE3_ := Aside0.mk ((by rw [hg]; exact Nat.le_refl _ : w4.heap.size ≤ gx3)); have HBx_ := hHBy_; clear hHBy_; have BK3_ := Aside0.mk hbox; clear hb hg hbox; have hcz3_ := bc_ BK3_ 0 rfl; have hfz3_ := bf_ BK3_ 0) | ((with_reducible refine gate_callee (f := 75) rfl ?_); refine goesL_ (some 7) rfl rfl Try.func75 (by kernel_rfl) rfl #[.int .i64 0, .int .i64 1000, .func (.func 109) #[] #[.pointer (some ⟨gx3, 0, none⟩)]] rfl (by (try simp only [List.map_toArray, List.map_cons, List.map_nil]); first | done | rfl) ?_; have HBz_ := below_set (j := 0) (v := .slice Ao5 t418.length co5) (HBx_.out) GE3_.out; (refine (where_impl_JoinSpans_1.calls k 0 1000 Ao5 co5 t418 t421 _ gx3 (blk_put (cs := #[.slice none 0 0]) (BK3_.out) 0 (.slice Ao5 t418.length co5) rfl) (Kd.C_below (Kd.R_reads' HO420.out).2.2 HBz_) (Kd.R_reads' HO420.out).2.1 A3.out).mono ?_); rintro e wz ⟨vz, rfl, ho0, hb⟩; refine ⟨_, rfl, ?_⟩; have n0_ := Aside0.mk (below_then HB.out (below_size HB.out) HBz_); have HO423 := Aside0.mk (Kd.R_lower ho0 (below_size n0_.out)); have n2_ := Aside0.mk (below_step n0_.out hb); clear HB; have HB := n2_; clear n0_ n2_ hb ho0))
 go_ret
 exact ⟨_, er_, ra_ HO423, bl_ HB⟩

/-! ### impl_TicksOf: function 74 -/
def impl_TicksOf.l0 : Nat → Int → List (S73) → Int → Int → Option (Int)
 | 0, _, _, _, _ => none
 | k + 1, x3, x7, x8, x9 => if x9 < x8 then (if 0 ≤ x9 then (if x9 < (x7.length : Int) then (impl_TicksOf.l0 k (wrap64 (x3 + (wrap64 (((rd_T73 x7 x9).f1) - ((rd_T73 x7 x9).f0))))) x7 x8 (wrap64 (x9 + 1))) else (none)) else (none)) else (some x3)
def impl_TicksOf.f (k : Nat) (l0 : List (S73)) : Option (Int) := (impl_JoinSpans.f k l0).bind fun t424 => (impl_TicksOf.l0 k 0 t424 (t424.length : Int) 0)
theorem impl_TicksOf.mono_l : ∀ k, (∀ y0 y1 y2 y3, LeO (impl_TicksOf.l0 k y0 y1 y2 y3) (impl_TicksOf.l0 (k + 1) y0 y1 y2 y3))
 | 0 => fun _ _ _ _ r h => by simp [impl_TicksOf.l0] at h
 | k + 1 => by
  have ih0 := impl_TicksOf.mono_l k
  ·intro y0 y1 y2 y3
   unfold impl_TicksOf.l0
   repeat' first | (with_reducible first | exact ih0 _ _ _ _ | exact impl_JoinSpans.mono _ _ | exact LeO.refl _ | exact LeO.none _ | refine LeO.ite ?_ ?_ | refine LeO.bind ?_ (fun _ => ?_)) | exact LeO.none _ | refine LeO.ite ?_ ?_ | refine LeO.bind ?_ (fun _ => ?_)
theorem impl_TicksOf.mono : ∀ a0 k, LeO (impl_TicksOf.f k a0) (impl_TicksOf.f (k + 1) a0) := by
 intro a0 k
 have ih0 := impl_TicksOf.mono_l k
 unfold impl_TicksOf.f
 repeat' first | (with_reducible first | exact ih0 _ _ _ _ | exact impl_JoinSpans.mono _ _ | exact LeO.refl _ | exact LeO.none _ | refine LeO.ite ?_ ?_ | refine LeO.bind ?_ (fun _ => ?_)) | exact LeO.none _ | refine LeO.ite ?_ ?_ | refine LeO.bind ?_ (fun _ => ?_)
set_option maxHeartbeats 8000000 in
set_option maxRecDepth 100000 in
theorem impl_TicksOf.calls (k : Nat) (A0 : Option Addr) (c0 : Nat) (l0 : List (S73)) (r : Int) (w : World) (hr0 : Kd.C k73 w A0 l0.length l0) (hc0 : l0.length ≤ c0) (h : impl_TicksOf.f k l0 = some r) :
  Calls Try.prog 74 #[.slice A0 l0.length c0] w fun e w' => e = .returned (.int .i64 r) ∧ Below w.heap.size w w' := by
 have hu73 := Try.underlying73
 have HR0 := Aside0.mk hr0
 have HC0 := Aside0.mk hc0
 clear hr0 hc0
 have HB := Aside0.mk (Below.refl w.heap.size w)
 have H := h
 clear h
 unfold impl_TicksOf.f at H
 replace H := bs_ H
 obtain ⟨t424, A2, H⟩ := H
 have H' := Aside0.mk H
 clear H
 go_enter Try.func74, Try.ntmps74
 go_wp2_with (first | ((with_reducible refine gate_callee (f := 94) rfl ?_); refine gl_ 7 Try.func94 (impl_JoinSpans.calls k _ _ l0 t424 _ (cq_ HR0) HC0.out A2.out) ?_; rintro e w3 ⟨v425, rfl, ho0, hb⟩; refine ⟨_, rfl, sh2_ (Kd.R_lower ho0 (below_size (bl_ HB))) (below_step (bl_ HB) hb) ?_⟩; clear HB hb ho0; intro HO426 HB; obtain ⟨Ao4, co4, eo4⟩ := Kd.R_slice HO426.out; subst eo4))
 go_loopg [3, 9] k (fun kq v3 v9 w' => ∃ (x3_1 : Int) (x9_1 : Int), v3 = .int .i64 x3_1 ∧ v9 = .int .i64 x9_1 ∧ Aside0 (impl_TicksOf.l0 kq x3_1 t424 (t424.length : Int) x9_1 = some r) ∧ Aside0 (kq ≤ k) ∧ Aside0 (Kd.R k73 73 w' w.heap.size (fun _ => True) (.slice Ao4 t424.length co4) t424) ∧ Aside0 (Below w.heap.size w w'))
 case atStart => exact ⟨(0), (0), (by first | rfl | (simp; done) | (simp [*]; done)), (by first | rfl | (simp; done) | (simp [*]; done)), H', ⟨Nat.le_refl _⟩, ⟨ra_ HO426⟩, ⟨bl_ HB⟩⟩
 case round =>
  clear H'
  try clear p2
  obtain ⟨x3_1, x9_1, rfl, rfl, HA, HK1, HO_7, HB⟩ := hrel
  cases gk with
  | zero => exact absurd HA.out (by simp [impl_TicksOf.l0])
  | succ k1 =>
   have H := HA.out
   clear HA
   simp only [impl_TicksOf.l0] at H
   by_cases c5 : x9_1 < (t424.length : Int)
   ·rw [if_pos c5] at H
    have c5b0 := decide_eq_true c5
    clear c5
    replace H := ifn_ H
    obtain ⟨c6, H⟩ := H
    have c6b0 := decide_eq_true c6
    clear c6
    replace H := ifn_ H
    obtain ⟨c7, H⟩ := H
    have c7b0 := decide_eq_true c7
    clear c7
    have H' := Aside0.mk H
    clear H
    have p427 : 0 ≤ (x9_1 : Int) := od_
    have q427 : x9_1 < (t424.length : Int) := od_
    obtain ⟨ad427, e427, hx427_0, hx427_1⟩ := at_T73 (Kd.R_reads' HO_7.out).2.2 x9_1 p427 q427
    cases e427
    replace p427 := eq_true p427
    replace q427 := eq_true q427
    go_wp2_with (first | ((with_reducible refine gd_ 5 ?_); refine bx_ 5 73 #[.int .i64 0, .int .i64 0] ?_; intro gb428 hg w8 hbox hb; refine sh5_ (Kd.R_below (Kd.R_elderB (ra_ HO_7) gb428 (Nat.le_of_eq hg.symm)) hb) (below_step (bl_ HB) hb) hbox (ge_ hg (bl_ HB)) (ge_ hg (bl_ HB)) ?_; clear HO_7 HB hb hbox hg; intro HO_7 HB BK428 GW428 GE428; have hcz9 := cf2_ BK428))
    go_roundg k1
    case measure => have := HK1.out; omega
    case rel => exact ⟨(wrap64 (x3_1 + (wrap64 (((rd_T73 t424 x9_1).f1) - ((rd_T73 t424 x9_1).f0))))), (wrap64 (x9_1 + 1)), (by first | rfl | (simp; done) | (simp [*]; done)), (by first | rfl | (simp; done) | (simp [*]; done)), H', ⟨by have := HK1.out; omega⟩, ⟨by (with_reducible repeat (first | apply Kd.R_alloc | apply Kd.R_drewN | apply Kd.R_drew)); exact Kd.R_mono (Kd.R_far (p := ⟨gb428, 1, none⟩) (Kd.R_far (p := ⟨gb428, 0, none⟩) (Kd.R_mono HO_7.out (fun k_ hk => (⟨hk, hk.2⟩ : _ ∧ k_ ≠ gb428))) (fun _ hk => hk.2) (.int .i64 ((rd_T73 t424 x9_1).f0))) (fun _ hk => hk.2) (.int .i64 ((rd_T73 t424 x9_1).f1))) (fun _ hk => trivial)⟩, ⟨bl1_ HB GE428⟩⟩
   ·rw [if_neg c5] at H
    have c5b0 := decide_eq_false c5
    clear c5
    obtain rfl := Option.some.inj H
    go_wp2
    go_ret
    exact ⟨er_, bl_ HB⟩

/-! ### impl_SureShare_1: function 76 -/
def impl_SureShare_1.f (a0 : Int) : Option (Bool) := some true
set_option maxHeartbeats 8000000 in
set_option maxRecDepth 100000 in
theorem impl_SureShare_1.calls (a0 : Int) (r : Bool) (w : World) (h : impl_SureShare_1.f a0 = some r) :
  Calls Try.prog 76 #[.int .i64 a0] w fun e w' => e = .returned (.bool r) ∧ Drawn0 w w' := by
 have H := h
 clear h
 unfold impl_SureShare_1.f at H
 obtain rfl := Option.some.inj H
 go_enter Try.func76, Try.ntmps76
 go_wp2
 go_ret
 exact ⟨by first | rfl | (simp; done) | (simp [*]; done), by repeat (first | exact Drawn0.refl _ | apply Drawn0.step)⟩


def where_impl_SureShare_1.f (k : Nat) (y0 y1 : Int) : Option (List (S73)) := sw.f (fun k' t' => impl_SureShare_1.f t') k y0 y1
theorem where_impl_SureShare_1.mono : ∀ y0 y1  k, LeO (where_impl_SureShare_1.f k y0 y1 ) (where_impl_SureShare_1.f (k + 1) y0 y1 ) := fun y0 y1  k => sw.mono _ (fun _ _ => LeO.refl _) y0 y1 k
theorem where_impl_SureShare_1.calls (k : Nat) (y0 y1 : Int) (r : List (S73)) (w : World) (h : where_impl_SureShare_1.f k y0 y1  = some r) :
  Calls Try.prog 75 #[.int .i64 y0, .int .i64 y1, .func (.func 76) #[] #[]] w fun e w' => ∃ v0_ : Value, e = .returned (v0_) ∧ Kd.R k73 73 w' w.heap.size (fun _ => True) v0_ r ∧ Below w.heap.size w w' := by
 refine sw.calls (fun k' t' => impl_SureShare_1.f t') k y0 y1 r w 76 _ (fun args w => enters_ Try.func76 (by kernel_rfl) rfl args w) (fun k' t b W hq hb => ?_) h
 have hh := impl_SureShare_1.calls t b W   hq
 exact hh.mono (fun e w' hx => ⟨hx.1, by obtain ⟨n, rfl⟩ := hx.2.out; exact pw_below_drewN (Below.refl _ _) n⟩)

/-! ### impl_SureShare: function 37 -/
def impl_SureShare.f (k : Nat) (a0_0 : Int) (l0_1 : List (S105)) (l0_2 : List (S109)) (a0_3 : Int) (a0_4 : Int) (a0_5 : Int) (a0_6 : Int) (a0_7 : Int) (l0_8 : List (S115)) (a0_9 : Int) (a1 : Int) (a2 : Int) (a3 : Int) (a4 : Int) : Option (Int × Int) := (impl_SureWindows.f k a0_0 l0_1 l0_2 a0_3 a0_4 a0_5 a0_6 a0_7 l0_8 a0_9 a1 a2 a3 a4).bind fun t430 => ((impl_TicksOf.f k t430).bind fun t433 => ((where_impl_SureShare_1.f k a3 a4).bind fun t434 => ((impl_TicksOf.f k t434).bind fun t437 => (some (t433, t437)))))
theorem impl_SureShare.mono : ∀ a0 a1 a2 a3 a4 a5 a6 a7 a8 a9 a10 a11 a12 a13 k, LeO (impl_SureShare.f k a0 a1 a2 a3 a4 a5 a6 a7 a8 a9 a10 a11 a12 a13) (impl_SureShare.f (k + 1) a0 a1 a2 a3 a4 a5 a6 a7 a8 a9 a10 a11 a12 a13) := by
 intro a0 a1 a2 a3 a4 a5 a6 a7 a8 a9 a10 a11 a12 a13 k
 unfold impl_SureShare.f
 repeat' first | (with_reducible first | exact impl_SureWindows.mono _ _ _ _ _ _ _ _ _ _ _ _ _ _ _ | exact impl_TicksOf.mono _ _ | exact where_impl_SureShare_1.mono _ _ _ | exact LeO.refl _ | exact LeO.none _ | refine LeO.ite ?_ ?_ | refine LeO.bind ?_ (fun _ => ?_)) | exact LeO.none _ | refine LeO.ite ?_ ?_ | refine LeO.bind ?_ (fun _ => ?_)
set_option maxHeartbeats 8000000 in
set_option maxRecDepth 100000 in
theorem impl_SureShare.calls (k : Nat) (a0_0 : Int) (A0_1 : Option Addr) (c0_1 : Nat) (l0_1 : List (S105)) (A0_2 : Option Addr) (c0_2 : Nat) (l0_2 : List (S109)) (a0_3 : Int) (a0_4 : Int) (a0_5 : Int) (a0_6 : Int) (a0_7 : Int) (A0_8 : Option Addr) (c0_8 : Nat) (l0_8 : List (S115)) (a0_9 : Int) (a1 : Int) (a2 : Int) (a3 : Int) (a4 : Int) (r1 : Int) (r2 : Int) (w : World) (hr0_1 : Kd.C k105 w A0_1 l0_1.length l0_1) (hc0_1 : l0_1.length ≤ c0_1) (hr0_2 : Kd.C k109 w A0_2 l0_2.length l0_2) (hc0_2 : l0_2.length ≤ c0_2) (hr0_8 : Kd.C k115 w A0_8 l0_8.length l0_8) (hc0_8 : l0_8.length ≤ c0_8) (h : impl_SureShare.f k a0_0 l0_1 l0_2 a0_3 a0_4 a0_5 a0_6 a0_7 l0_8 a0_9 a1 a2 a3 a4 = some (r1, r2)) :
  Calls Try.prog 37 #[.agg #[.int .i64 a0_0, .slice A0_1 l0_1.length c0_1, .slice A0_2 l0_2.length c0_2, .int .i64 a0_3, .int .i64 a0_4, .int .i64 a0_5, .int .i64 a0_6, .int .i64 a0_7, .slice A0_8 l0_8.length c0_8, .int .i64 a0_9], .int .i64 a1, .int .i64 a2, .int .i64 a3, .int .i64 a4] w fun e w' => e = .returned (.tuple #[.int .i64 r1, .int .i64 r2]) ∧ Below w.heap.size w w' := by
 have hu34 := Try.underlying34
 have HR0_1 := Aside0.mk hr0_1
 have HC0_1 := Aside0.mk hc0_1
 clear hr0_1 hc0_1
 have HR0_2 := Aside0.mk hr0_2
 have HC0_2 := Aside0.mk hc0_2
 clear hr0_2 hc0_2
 have HR0_8 := Aside0.mk hr0_8
 have HC0_8 := Aside0.mk hc0_8
 clear hr0_8 hc0_8
 have HB := Aside0.mk (Below.refl w.heap.size w)
 have H := h
 clear h
 unfold impl_SureShare.f at H
 replace H := bs_ H
 obtain ⟨t430, A6, H⟩ := H
 replace H := bs_ H
 obtain ⟨t433, A7, H⟩ := H
 replace H := bs_ H
 obtain ⟨t434, A8, H⟩ := H
 replace H := bs_ H
 obtain ⟨t437, A9, H⟩ := H
 simp only [Option.some.injEq, Prod.mk.injEq] at H
 obtain ⟨rfl, rfl⟩ := H
 go_enter Try.func37, Try.ntmps37
 go_wp2_with (first | ((with_reducible refine gd_ 5 ?_); refine bx_ 5 34 #[.int .i64 a0_0, .slice A0_1 l0_1.length c0_1, .slice A0_2 l0_2.length c0_2, .int .i64 a0_3, .int .i64 a0_4, .int .i64 a0_5, .int .i64 a0_6, .int .i64 a0_7, .slice A0_8 l0_8.length c0_8, .int .i64 a0_9] ?_; intro gb429 hg w10 hbox hb; refine sh4_ (below_step (bl_ HB) hb) hbox (ge_ hg (bl_ HB)) (ge_ hg (bl_ HB)) ?_; clear HB hb hbox hg; intro HB BK429 GW429 GE429; have hcz11 := cf10_ BK429) | ((with_reducible refine gate_callee (f := 39) rfl ?_); refine gl_ 17 Try.func39 (impl_SureWindows.calls k a0_0 _ _ l0_1 _ _ l0_2 a0_3 a0_4 a0_5 a0_6 a0_7 _ _ l0_8 a0_9 a1 a2 a3 a4 t430 _ (ck_ HR0_1 HB) HC0_1.out (ck_ HR0_2 HB) HC0_2.out (ck_ HR0_8 HB) HC0_8.out A6.out) ?_; rintro e w12 ⟨v431, rfl, ho0, hb⟩; refine ⟨_, rfl, sh3_ (Kd.R_lower ho0 (below_size (bl1_ HB GE429))) (blk_below (bk_ BK429) hb) (below_step (bl1_ HB GE429) hb) ?_⟩; clear BK429 HB hb ho0; intro HO432 BK429 HB; obtain ⟨Ao13, co13, eo13⟩ := Kd.R_slice HO432.out; subst eo13) | ((with_reducible refine gate_callee (f := 74) rfl ?_); refine gl_ 18 Try.func74 (impl_TicksOf.calls k _ _ t430 t433 _ (cr_ HO432) (rl_ HO432) A7.out) ?_; rintro e w14 ⟨rfl, hb⟩; refine ⟨_, rfl, sh3_ (Kd.R_below (ra_ HO432) hb) (blk_below (bk_ BK429) hb) (below_step (bl1_ HB GE429) hb) ?_⟩; clear HO432 BK429 HB hb; intro HO432 BK429 HB) | ((with_reducible refine gate_callee (f := 75) rfl ?_); refine gl_ 21 Try.func75 (where_impl_SureShare_1.calls k a3 a4 t434 _  A8.out) ?_; rintro e w15 ⟨v435, rfl, ho0, hb⟩; refine ⟨_, rfl, sh4_ (Kd.R_elder' (ra_ HO432) (Kd.R_base ho0) hb) (Kd.R_lower (Kd.R_new' ho0 (Kd.R_lt (ra_ HO432))) (below_size (bl1_ HB GE429))) (blk_below (bk_ BK429) hb) (below_step (bl1_ HB GE429) hb) ?_⟩; clear HO432 BK429 HB hb ho0; intro HO432 HO436 BK429 HB; obtain ⟨Ao16, co16, eo16⟩ := Kd.R_slice HO436.out; subst eo16) | ((with_reducible refine gate_callee (f := 74) rfl ?_); refine gl_ 22 Try.func74 (impl_TicksOf.calls k _ _ t434 t437 _ (cr_ HO436) (rl_ HO436) A9.out) ?_; rintro e w17 ⟨rfl, hb⟩; refine ⟨_, rfl, sh4_ (Kd.R_below (ra_ HO432) hb) (Kd.R_below (ra_ HO436) hb) (blk_below (bk_ BK429) hb) (below_step (bl1_ HB GE429) hb) ?_⟩; clear HO432 HO436 BK429 HB hb; intro HO432 HO436 BK429 HB))
 go_ret2
 exact ⟨er_, bl1_ HB GE429⟩

/-! ### laws_FnExactSureShare: function 7 -/
def laws_FnExactSureShare.j0 : Nat → Bool → Int → List (S107) → List (S111) → Int → Int → Int → Int → Int → List (S119) → Int → Int → List (S105) → List (S109) → Int → Int → Int → Int → Int → List (S115) → Int → Option (Bool)
 | 0, _, _, _, _, _, _, _, _, _, _, _, _, _, _, _, _, _, _, _, _, _ => none
 | k + 1, x50, x439000, x439001, x439002, x439003, x439004, x439005, x439006, x439007, x439008, x439009, x475000, x475001, x475002, x475003, x475004, x475005, x475006, x475007, x475008, x475009 => if x50 = true then (some false) else ((laws_toSky.f k x439000 x439001 x439002 x439003 x439004 x439005 x439006 x439007 x439008 x439009).bind fun bt477 => ((laws_eqSky.f k x475000 x475001 x475002 x475003 x475004 x475005 x475006 x475007 x475008 x475009 bt477.1 bt477.2.1 bt477.2.2.1 bt477.2.2.2.1 bt477.2.2.2.2.1 bt477.2.2.2.2.2.1 bt477.2.2.2.2.2.2.1 bt477.2.2.2.2.2.2.2.1 bt477.2.2.2.2.2.2.2.2.1 bt477.2.2.2.2.2.2.2.2.2).bind fun t493 => (if t493 = true then (some true) else (some false))))
def laws_FnExactSureShare.f (k : Nat) (a0_0 : Int) (l0_1 : List (S107)) (l0_2 : List (S111)) (a0_3 : Int) (a0_4 : Int) (a0_5 : Int) (a0_6 : Int) (a0_7 : Int) (l0_8 : List (S119)) (a0_9 : Int) (a1 : Int) (a2 : Int) (a3 : Int) (a4 : Int) : Option (Bool) := (laws_szSky.f a0_0 l0_1 l0_2 a0_3 a0_4 a0_5 a0_6 a0_7 l0_8 a0_9 1048576).bind fun t439 => (if t439 < 0 then (some true) else ((laws_toSky.f k a0_0 l0_1 l0_2 a0_3 a0_4 a0_5 a0_6 a0_7 l0_8 a0_9).bind fun bt440 => ((spec_SureShare.f k bt440.1 bt440.2.1 bt440.2.2.1 bt440.2.2.2.1 bt440.2.2.2.2.1 bt440.2.2.2.2.2.1 bt440.2.2.2.2.2.2.1 bt440.2.2.2.2.2.2.2.1 bt440.2.2.2.2.2.2.2.2.1 bt440.2.2.2.2.2.2.2.2.2 a1 a2 a3 a4).bind fun bt456 => ((laws_toSky.f k a0_0 l0_1 l0_2 a0_3 a0_4 a0_5 a0_6 a0_7 l0_8 a0_9).bind fun bt458 => ((impl_SureShare.f k bt458.1 bt458.2.1 bt458.2.2.1 bt458.2.2.2.1 bt458.2.2.2.2.1 bt458.2.2.2.2.2.1 bt458.2.2.2.2.2.2.1 bt458.2.2.2.2.2.2.2.1 bt458.2.2.2.2.2.2.2.2.1 bt458.2.2.2.2.2.2.2.2.2 a1 a2 a3 a4).bind fun bt475 => (if bt475.1 = bt456.1 then (laws_FnExactSureShare.j0 k (bt475.2 != bt456.2) a0_0 l0_1 l0_2 a0_3 a0_4 a0_5 a0_6 a0_7 l0_8 a0_9 bt458.1 bt458.2.1 bt458.2.2.1 bt458.2.2.2.1 bt458.2.2.2.2.1 bt458.2.2.2.2.2.1 bt458.2.2.2.2.2.2.1 bt458.2.2.2.2.2.2.2.1 bt458.2.2.2.2.2.2.2.2.1 bt458.2.2.2.2.2.2.2.2.2) else (laws_FnExactSureShare.j0 k true a0_0 l0_1 l0_2 a0_3 a0_4 a0_5 a0_6 a0_7 l0_8 a0_9 bt458.1 bt458.2.1 bt458.2.2.1 bt458.2.2.2.1 bt458.2.2.2.2.1 bt458.2.2.2.2.2.1 bt458.2.2.2.2.2.2.1 bt458.2.2.2.2.2.2.2.1 bt458.2.2.2.2.2.2.2.2.1 bt458.2.2.2.2.2.2.2.2.2)))))))
theorem laws_FnExactSureShare.mono_l : ∀ k, (∀ y0 y1 y2 y3 y4 y5 y6 y7 y8 y9 y10 y11 y12 y13 y14 y15 y16 y17 y18 y19 y20, LeO (laws_FnExactSureShare.j0 k y0 y1 y2 y3 y4 y5 y6 y7 y8 y9 y10 y11 y12 y13 y14 y15 y16 y17 y18 y19 y20) (laws_FnExactSureShare.j0 (k + 1) y0 y1 y2 y3 y4 y5 y6 y7 y8 y9 y10 y11 y12 y13 y14 y15 y16 y17 y18 y19 y20))
 | 0 => fun _ _ _ _ _ _ _ _ _ _ _ _ _ _ _ _ _ _ _ _ _ r h => by simp [laws_FnExactSureShare.j0] at h
 | k + 1 => by
  have ih0 := laws_FnExactSureShare.mono_l k
  ·intro y0 y1 y2 y3 y4 y5 y6 y7 y8 y9 y10 y11 y12 y13 y14 y15 y16 y17 y18 y19 y20
   unfold laws_FnExactSureShare.j0
   repeat' first | (with_reducible first | exact ih0 _ _ _ _ _ _ _ _ _ _ _ _ _ _ _ _ _ _ _ _ _ | exact impl_SureShare.mono _ _ _ _ _ _ _ _ _ _ _ _ _ _ _ | exact laws_eqSky.mono _ _ _ _ _ _ _ _ _ _ _ _ _ _ _ _ _ _ _ _ _ | exact laws_toSky.mono _ _ _ _ _ _ _ _ _ _ _ | exact spec_SureShare.mono _ _ _ _ _ _ _ _ _ _ _ _ _ _ _ | exact LeO.refl _ | exact LeO.none _ | refine LeO.ite ?_ ?_ | refine LeO.bind ?_ (fun _ => ?_)) | exact LeO.none _ | refine LeO.ite ?_ ?_ | refine LeO.bind ?_ (fun _ => ?_)
theorem laws_FnExactSureShare.mono : ∀ a0 a1 a2 a3 a4 a5 a6 a7 a8 a9 a10 a11 a12 a13 k, LeO (laws_FnExactSureShare.f k a0 a1 a2 a3 a4 a5 a6 a7 a8 a9 a10 a11 a12 a13) (laws_FnExactSureShare.f (k + 1) a0 a1 a2 a3 a4 a5 a6 a7 a8 a9 a10 a11 a12 a13) := by
 intro a0 a1 a2 a3 a4 a5 a6 a7 a8 a9 a10 a11 a12 a13 k
 have ih0 := laws_FnExactSureShare.mono_l k
 unfold laws_FnExactSureShare.f
 repeat' first | (with_reducible first | exact ih0 _ _ _ _ _ _ _ _ _ _ _ _ _ _ _ _ _ _ _ _ _ | exact impl_SureShare.mono _ _ _ _ _ _ _ _ _ _ _ _ _ _ _ | exact laws_eqSky.mono _ _ _ _ _ _ _ _ _ _ _ _ _ _ _ _ _ _ _ _ _ | exact laws_toSky.mono _ _ _ _ _ _ _ _ _ _ _ | exact spec_SureShare.mono _ _ _ _ _ _ _ _ _ _ _ _ _ _ _ | exact LeO.refl _ | exact LeO.none _ | refine LeO.ite ?_ ?_ | refine LeO.bind ?_ (fun _ => ?_)) | exact LeO.none _ | refine LeO.ite ?_ ?_ | refine LeO.bind ?_ (fun _ => ?_)
set_option maxHeartbeats 8000000 in
set_option maxRecDepth 100000 in
theorem laws_FnExactSureShare.calls (k : Nat) (a0_0 : Int) (A0_1 : Option Addr) (c0_1 : Nat) (l0_1 : List (S107)) (A0_2 : Option Addr) (c0_2 : Nat) (l0_2 : List (S111)) (a0_3 : Int) (a0_4 : Int) (a0_5 : Int) (a0_6 : Int) (a0_7 : Int) (A0_8 : Option Addr) (c0_8 : Nat) (l0_8 : List (S119)) (a0_9 : Int) (a1 : Int) (a2 : Int) (a3 : Int) (a4 : Int) (r : Bool) (w : World) (hr0_1 : Kd.C k107 w A0_1 l0_1.length l0_1) (hc0_1 : l0_1.length ≤ c0_1) (hr0_2 : Kd.C k111 w A0_2 l0_2.length l0_2) (hc0_2 : l0_2.length ≤ c0_2) (hr0_8 : Kd.C k119 w A0_8 l0_8.length l0_8) (hc0_8 : l0_8.length ≤ c0_8) (h : laws_FnExactSureShare.f k a0_0 l0_1 l0_2 a0_3 a0_4 a0_5 a0_6 a0_7 l0_8 a0_9 a1 a2 a3 a4 = some r) (hT_ : r = true := by rfl) :
  Calls Try.prog 7 #[.agg #[.int .i64 a0_0, .slice A0_1 l0_1.length c0_1, .slice A0_2 l0_2.length c0_2, .int .i64 a0_3, .int .i64 a0_4, .int .i64 a0_5, .int .i64 a0_6, .int .i64 a0_7, .slice A0_8 l0_8.length c0_8, .int .i64 a0_9], .int .i64 a1, .int .i64 a2, .int .i64 a3, .int .i64 a4] w fun e w' => e = .returned (.bool r) ∧ Below w.heap.size w w' := by
 have hu26 := Try.underlying26
 have hu34 := Try.underlying34
 have HR0_1 := Aside0.mk hr0_1
 have HC0_1 := Aside0.mk hc0_1
 clear hr0_1 hc0_1
 have HR0_2 := Aside0.mk hr0_2
 have HC0_2 := Aside0.mk hc0_2
 clear hr0_2 hc0_2
 have HR0_8 := Aside0.mk hr0_8
 have HC0_8 := Aside0.mk hc0_8
 clear hr0_8 hc0_8
 have HB := Aside0.mk (Below.refl w.heap.size w)
 subst hT_
 have H := h
 clear h
 unfold laws_FnExactSureShare.f at H
 replace H := bs_ H
 obtain ⟨t439, A6, H⟩ := H
 by_cases c7 : t439 < 0
 ·rw [if_pos c7] at H
  have c7b0 := decide_eq_true c7
  clear c7
  clear H
  go_enter Try.func7, Try.ntmps7
  go_wp2_with (first | ((with_reducible refine gd_ 5 ?_); refine bx_ 5 26 #[.int .i64 a0_0, .slice A0_1 l0_1.length c0_1, .slice A0_2 l0_2.length c0_2, .int .i64 a0_3, .int .i64 a0_4, .int .i64 a0_5, .int .i64 a0_6, .int .i64 a0_7, .slice A0_8 l0_8.length c0_8, .int .i64 a0_9] ?_; intro gb438 hg w8 hbox hb; refine sh4_ (below_step (bl_ HB) hb) hbox (ge_ hg (bl_ HB)) (ge_ hg (bl_ HB)) ?_; clear HB hb hbox hg; intro HB BK438 GW438 GE438; have hcz9 := cf10_ BK438) | ((with_reducible refine gate_callee (f := 9) rfl ?_); refine gl_ 19 Try.func9 (laws_szSky.calls a0_0 _ _ l0_1 _ _ l0_2 a0_3 a0_4 a0_5 a0_6 a0_7 _ _ l0_8 a0_9 1048576 t439 _ (ck_ HR0_1 HB) HC0_1.out (ck_ HR0_2 HB) HC0_2.out (ck_ HR0_8 HB) HC0_8.out A6.out) ?_; rintro e w10 ⟨rfl, hb⟩; refine ⟨_, rfl, sh2_ (blk_below (bk_ BK438) hb) (below_step (bl1_ HB GE438) hb) ?_⟩; clear BK438 HB hb; intro BK438 HB))
  go_ret
  exact ⟨er_, bl1_ HB GE438⟩
 ·rw [if_neg c7] at H
  have c7b0 := decide_eq_false c7
  clear c7
  replace H := bs_ H
  obtain ⟨⟨t440, t441, t444, t447, t448, t449, t450, t451, t452, t455⟩, A11, H⟩ := H
  dsimp only at H
  replace H := bs_ H
  obtain ⟨⟨t456, t457⟩, A12, H⟩ := H
  dsimp only at H
  replace H := bs_ H
  obtain ⟨⟨t458, t459, t462, t465, t466, t467, t468, t469, t470, t473⟩, A13, H⟩ := H
  dsimp only at H
  replace H := bs_ H
  obtain ⟨⟨t475, t476⟩, A14, H⟩ := H
  dsimp only at H
  have HC15 := Aside0.mk H
  clear H
  go_enter Try.func7, Try.ntmps7
  go_upto_region 8 with (first | ((with_reducible refine gd_ 5 ?_); refine bx_ 5 26 #[.int .i64 a0_0, .slice A0_1 l0_1.length c0_1, .slice A0_2 l0_2.length c0_2, .int .i64 a0_3, .int .i64 a0_4, .int .i64 a0_5, .int .i64 a0_6, .int .i64 a0_7, .slice A0_8 l0_8.length c0_8, .int .i64 a0_9] ?_; intro gb438 hg w16 hbox hb; refine sh4_ (below_step (bl_ HB) hb) hbox (ge_ hg (bl_ HB)) (ge_ hg (bl_ HB)) ?_; clear HB hb hbox hg; intro HB BK438 GW438 GE438; have hcz17 := cf10_ BK438) | ((with_reducible refine gate_callee (f := 9) rfl ?_); refine gl_ 19 Try.func9 (laws_szSky.calls a0_0 _ _ l0_1 _ _ l0_2 a0_3 a0_4 a0_5 a0_6 a0_7 _ _ l0_8 a0_9 1048576 t439 _ (ck_ HR0_1 HB) HC0_1.out (ck_ HR0_2 HB) HC0_2.out (ck_ HR0_8 HB) HC0_8.out A6.out) ?_; rintro e w18 ⟨rfl, hb⟩; refine ⟨_, rfl, sh2_ (blk_below (bk_ BK438) hb) (below_step (bl1_ HB GE438) hb) ?_⟩; clear BK438 HB hb; intro BK438 HB; have hcz19 := cf10_ BK438) | ((with_reducible refine gate_callee (f := 11) rfl ?_); refine gl_ 24 Try.func11 (laws_toSky.calls k a0_0 _ _ l0_1 _ _ l0_2 a0_3 a0_4 a0_5 a0_6 a0_7 _ _ l0_8 a0_9 t440 t441 t444 t447 t448 t449 t450 t451 t452 t455 _ (ck_ HR0_1 HB) HC0_1.out (ck_ HR0_2 HB) HC0_2.out (ck_ HR0_8 HB) HC0_8.out A11.out) ?_; rintro e w20 ⟨v442, v445, v453, rfl, ho0, ho1, ho2, hb⟩; refine ⟨_, rfl, sh5_ (Kd.R_lower ho0 (below_size (bl1_ HB GE438))) (Kd.R_lower ho1 (below_size (bl1_ HB GE438))) (Kd.R_lower ho2 (below_size (bl1_ HB GE438))) (blk_below (bk_ BK438) hb) (below_step (bl1_ HB GE438) hb) ?_⟩; clear BK438 HB hb ho0 ho1 ho2; intro HO443 HO446 HO454 BK438 HB; obtain ⟨Ao21, co21, eo21⟩ := Kd.R_slice HO443.out; subst eo21; obtain ⟨Ao22, co22, eo22⟩ := Kd.R_slice HO446.out; subst eo22; obtain ⟨Ao23, co23, eo23⟩ := Kd.R_slice HO454.out; subst eo23) | ((with_reducible refine gate_callee (f := 36) rfl ?_); refine gl_ 29 Try.func36 (spec_SureShare.calls k t440 _ _ t441 _ _ t444 t447 t448 t449 t450 t451 _ _ t452 t455 a1 a2 a3 a4 t456 t457 _ (cr_ HO443) (rl_ HO443) (cr_ HO446) (rl_ HO446) (cr_ HO454) (rl_ HO454) A12.out) ?_; rintro e w24 ⟨rfl, hb⟩; refine ⟨_, rfl, sh5_ (Kd.R_below (ra_ HO443) hb) (Kd.R_below (ra_ HO446) hb) (Kd.R_below (ra_ HO454) hb) (blk_below (bk_ BK438) hb) (below_step (bl1_ HB GE438) hb) ?_⟩; clear HO443 HO446 HO454 BK438 HB hb; intro HO443 HO446 HO454 BK438 HB; have hcz25 := cf10_ BK438) | ((with_reducible refine gate_callee (f := 11) rfl ?_); refine gl_ 33 Try.func11 (laws_toSky.calls k a0_0 _ _ l0_1 _ _ l0_2 a0_3 a0_4 a0_5 a0_6 a0_7 _ _ l0_8 a0_9 t458 t459 t462 t465 t466 t467 t468 t469 t470 t473 _ (ck_ HR0_1 HB) HC0_1.out (ck_ HR0_2 HB) HC0_2.out (ck_ HR0_8 HB) HC0_8.out A13.out) ?_; rintro e w26 ⟨v460, v463, v471, rfl, ho0, ho1, ho2, hb⟩; refine ⟨_, rfl, sh8_ (Kd.R_elder' (ra_ HO443) (Kd.R_base ho0) hb) (Kd.R_elder' (ra_ HO446) (Kd.R_base ho1) hb) (Kd.R_elder' (ra_ HO454) (Kd.R_base ho2) hb) (Kd.R_lower (Kd.R_new' ho0 (Kd.R_lt (ra_ HO443))) (below_size (bl1_ HB GE438))) (Kd.R_lower (Kd.R_new' ho1 (Kd.R_lt (ra_ HO446))) (below_size (bl1_ HB GE438))) (Kd.R_lower (Kd.R_new' ho2 (Kd.R_lt (ra_ HO454))) (below_size (bl1_ HB GE438))) (blk_below (bk_ BK438) hb) (below_step (bl1_ HB GE438) hb) ?_⟩; clear HO443 HO446 HO454 BK438 HB hb ho0 ho1 ho2; intro HO443 HO446 HO454 HO461 HO464 HO472 BK438 HB) | ((with_reducible refine gd_ 14 ?_); refine bx_ 14 34 #[.int .i64 0, .slice none 0 0, .slice none 0 0, .int .i64 0, .int .i64 0, .int .i64 0, .int .i64 0, .int .i64 0, .slice none 0 0, .int .i64 0] ?_; intro gb474 hg w27 hbox hb; refine sh13_ (Kd.R_below (ra_ HO443) hb) (Kd.R_below (ra_ HO446) hb) (Kd.R_below (ra_ HO454) hb) (Kd.R_below (ra_ HO461) hb) (Kd.R_below (ra_ HO464) hb) (Kd.R_below (ra_ HO472) hb) (blk_below (bk_ BK438) hb) (below_step (bl1_ HB GE438) hb) hbox (ge_ hg (bl1_ HB GE438)) (ge_ hg (bl1_ HB GE438)) (nl_ hg (bk_ BK438)) (ng_ hg (bk_ BK438)) ?_; clear HO443 HO446 HO454 HO461 HO464 HO472 BK438 HB hb hbox hg; intro HO443 HO446 HO454 HO461 HO464 HO472 BK438 HB BK474 GW474 GE474 NB438_474 NB474_438; have hnb28 := NB474_438.out; have hnc28 := NB438_474.out; have hcz29 := cf10_ BK474; obtain ⟨Ao30, co30, eo30⟩ := Kd.R_slice HO461.out; subst eo30; obtain ⟨Ao31, co31, eo31⟩ := Kd.R_slice HO464.out; subst eo31; obtain ⟨Ao32, co32, eo32⟩ := Kd.R_slice HO472.out; subst eo32) | ((with_reducible refine gate_callee (f := 37) rfl ?_); refine goesL_ (some 40) rfl rfl Try.func37 (by kernel_rfl) rfl #[.agg #[.int .i64 t458, .slice Ao30 t459.length co30, .slice Ao31 t462.length co31, .int .i64 t465, .int .i64 t466, .int .i64 t467, .int .i64 t468, .int .i64 t469, .slice Ao32 t470.length co32, .int .i64 t473], .int .i64 a1, .int .i64 a2, .int .i64 a3, .int .i64 a4] rfl mp_ ?_; (with_reducible refine (impl_SureShare.calls k t458 _ _ t459 _ _ t462 t465 t466 t467 t468 t469 _ _ t470 t473 a1 a2 a3 a4 t475 t476 _ ?side1 ?side2 ?side3 ?side4 ?side5 ?side6 A14.out).mono ?_); (case side1 => refine (Kd.R_reads' (e := 105) (base := w.heap.size) (ok := fun k_ => (True ∧ some k_ ≠ (.slice Ao21 t441.length co21 : Value).ownBlock)) (n := t459.length) (c := co30) ?_).2.2; exact (by (with_reducible repeat (first | apply Kd.R_alloc | apply Kd.R_drewN | apply Kd.R_drew)); exact (Kd.R_mono (Kd.R_far (p := ⟨gb474, 9, none⟩) (Kd.R_far (p := ⟨gb474, 8, none⟩) (Kd.R_far (p := ⟨gb474, 7, none⟩) (Kd.R_far (p := ⟨gb474, 6, none⟩) (Kd.R_far (p := ⟨gb474, 5, none⟩) (Kd.R_far (p := ⟨gb474, 4, none⟩) (Kd.R_far (p := ⟨gb474, 3, none⟩) (Kd.R_far (p := ⟨gb474, 2, none⟩) (Kd.R_far (p := ⟨gb474, 1, none⟩) (Kd.R_far (p := ⟨gb474, 0, none⟩) (Kd.R_types HO461.out BK474.out (by decide)) (fun _ hk => hk.2) (.int .i64 t458)) (fun _ hk => hk.2) (.slice Ao30 t459.length co30)) (fun _ hk => hk.2) (.slice Ao31 t462.length co31)) (fun _ hk => hk.2) (.int .i64 t465)) (fun _ hk => hk.2) (.int .i64 t466)) (fun _ hk => hk.2) (.int .i64 t467)) (fun _ hk => hk.2) (.int .i64 t468)) (fun _ hk => hk.2) (.int .i64 t469)) (fun _ hk => hk.2) (.slice Ao32 t470.length co32)) (fun _ hk => hk.2) (.int .i64 t473)) (fun _ h_ => h_.1)))); (case side2 => exact (Kd.R_reads' HO461.out).2.1); (case side3 => refine (Kd.R_reads' (e := 109) (base := w.heap.size) (ok := fun k_ => (True ∧ some k_ ≠ (.slice Ao22 t444.length co22 : Value).ownBlock)) (n := t462.length) (c := co31) ?_).2.2; exact (by (with_reducible repeat (first | apply Kd.R_alloc | apply Kd.R_drewN | apply Kd.R_drew)); exact (Kd.R_mono (Kd.R_far (p := ⟨gb474, 9, none⟩) (Kd.R_far (p := ⟨gb474, 8, none⟩) (Kd.R_far (p := ⟨gb474, 7, none⟩) (Kd.R_far (p := ⟨gb474, 6, none⟩) (Kd.R_far (p := ⟨gb474, 5, none⟩) (Kd.R_far (p := ⟨gb474, 4, none⟩) (Kd.R_far (p := ⟨gb474, 3, none⟩) (Kd.R_far (p := ⟨gb474, 2, none⟩) (Kd.R_far (p := ⟨gb474, 1, none⟩) (Kd.R_far (p := ⟨gb474, 0, none⟩) (Kd.R_types HO464.out BK474.out (by decide)) (fun _ hk => hk.2) (.int .i64 t458)) (fun _ hk => hk.2) (.slice Ao30 t459.length co30)) (fun _ hk => hk.2) (.slice Ao31 t462.length co31)) (fun _ hk => hk.2) (.int .i64 t465)) (fun _ hk => hk.2) (.int .i64 t466)) (fun _ hk => hk.2) (.int .i64 t467)) (fun _ hk => hk.2) (.int .i64 t468)) (fun _ hk => hk.2) (.int .i64 t469)) (fun _ hk => hk.2) (.slice Ao32 t470.length co32)) (fun _ hk => hk.2) (.int .i64 t473)) (fun _ h_ => h_.1)))); (case side4 => exact (Kd.R_reads' HO464.out).2.1); (case side5 => refine (Kd.R_reads' (e := 115) (base := w.heap.size) (ok := fun k_ => (True ∧ some k_ ≠ (.slice Ao23 t452.length co23 : Value).ownBlock)) (n := t470.length) (c := co32) ?_).2.2; exact (by (with_reducible repeat (first | apply Kd.R_alloc | apply Kd.R_drewN | apply Kd.R_drew)); exact (Kd.R_mono (Kd.R_far (p := ⟨gb474, 9, none⟩) (Kd.R_far (p := ⟨gb474, 8, none⟩) (Kd.R_far (p := ⟨gb474, 7, none⟩) (Kd.R_far (p := ⟨gb474, 6, none⟩) (Kd.R_far (p := ⟨gb474, 5, none⟩) (Kd.R_far (p := ⟨gb474, 4, none⟩) (Kd.R_far (p := ⟨gb474, 3, none⟩) (Kd.R_far (p := ⟨gb474, 2, none⟩) (Kd.R_far (p := ⟨gb474, 1, none⟩) (Kd.R_far (p := ⟨gb474, 0, none⟩) (Kd.R_types HO472.out BK474.out (by decide)) (fun _ hk => hk.2) (.int .i64 t458)) (fun _ hk => hk.2) (.slice Ao30 t459.length co30)) (fun _ hk => hk.2) (.slice Ao31 t462.length co31)) (fun _ hk => hk.2) (.int .i64 t465)) (fun _ hk => hk.2) (.int .i64 t466)) (fun _ hk => hk.2) (.int .i64 t467)) (fun _ hk => hk.2) (.int .i64 t468)) (fun _ hk => hk.2) (.int .i64 t469)) (fun _ hk => hk.2) (.slice Ao32 t470.length co32)) (fun _ hk => hk.2) (.int .i64 t473)) (fun _ h_ => h_.1)))); (case side6 => exact (Kd.R_reads' HO472.out).2.1); rintro e w33 ⟨rfl, hb⟩; refine ⟨_, rfl, sh9_ (Kd.R_below (by (with_reducible repeat (first | apply Kd.R_alloc | apply Kd.R_drewN | apply Kd.R_drew)); exact (Kd.R_mono (Kd.R_far (p := ⟨gb474, 9, none⟩) (Kd.R_far (p := ⟨gb474, 8, none⟩) (Kd.R_far (p := ⟨gb474, 7, none⟩) (Kd.R_far (p := ⟨gb474, 6, none⟩) (Kd.R_far (p := ⟨gb474, 5, none⟩) (Kd.R_far (p := ⟨gb474, 4, none⟩) (Kd.R_far (p := ⟨gb474, 3, none⟩) (Kd.R_far (p := ⟨gb474, 2, none⟩) (Kd.R_far (p := ⟨gb474, 1, none⟩) (Kd.R_far (p := ⟨gb474, 0, none⟩) (Kd.R_types HO443.out BK474.out (by decide)) (fun _ hk => hk.2) (.int .i64 t458)) (fun _ hk => hk.2) (.slice Ao30 t459.length co30)) (fun _ hk => hk.2) (.slice Ao31 t462.length co31)) (fun _ hk => hk.2) (.int .i64 t465)) (fun _ hk => hk.2) (.int .i64 t466)) (fun _ hk => hk.2) (.int .i64 t467)) (fun _ hk => hk.2) (.int .i64 t468)) (fun _ hk => hk.2) (.int .i64 t469)) (fun _ hk => hk.2) (.slice Ao32 t470.length co32)) (fun _ hk => hk.2) (.int .i64 t473)) (fun _ h_ => h_.1))) hb) (Kd.R_below (by (with_reducible repeat (first | apply Kd.R_alloc | apply Kd.R_drewN | apply Kd.R_drew)); exact (Kd.R_mono (Kd.R_far (p := ⟨gb474, 9, none⟩) (Kd.R_far (p := ⟨gb474, 8, none⟩) (Kd.R_far (p := ⟨gb474, 7, none⟩) (Kd.R_far (p := ⟨gb474, 6, none⟩) (Kd.R_far (p := ⟨gb474, 5, none⟩) (Kd.R_far (p := ⟨gb474, 4, none⟩) (Kd.R_far (p := ⟨gb474, 3, none⟩) (Kd.R_far (p := ⟨gb474, 2, none⟩) (Kd.R_far (p := ⟨gb474, 1, none⟩) (Kd.R_far (p := ⟨gb474, 0, none⟩) (Kd.R_types HO446.out BK474.out (by decide)) (fun _ hk => hk.2) (.int .i64 t458)) (fun _ hk => hk.2) (.slice Ao30 t459.length co30)) (fun _ hk => hk.2) (.slice Ao31 t462.length co31)) (fun _ hk => hk.2) (.int .i64 t465)) (fun _ hk => hk.2) (.int .i64 t466)) (fun _ hk => hk.2) (.int .i64 t467)) (fun _ hk => hk.2) (.int .i64 t468)) (fun _ hk => hk.2) (.int .i64 t469)) (fun _ hk => hk.2) (.slice Ao32 t470.length co32)) (fun _ hk => hk.2) (.int .i64 t473)) (fun _ h_ => h_.1))) hb) (Kd.R_below (by (with_reducible repeat (first | apply Kd.R_alloc | apply Kd.R_drewN | apply Kd.R_drew)); exact (Kd.R_mono (Kd.R_far (p := ⟨gb474, 9, none⟩) (Kd.R_far (p := ⟨gb474, 8, none⟩) (Kd.R_far (p := ⟨gb474, 7, none⟩) (Kd.R_far (p := ⟨gb474, 6, none⟩) (Kd.R_far (p := ⟨gb474, 5, none⟩) (Kd.R_far (p := ⟨gb474, 4, none⟩) (Kd.R_far (p := ⟨gb474, 3, none⟩) (Kd.R_far (p := ⟨gb474, 2, none⟩) (Kd.R_far (p := ⟨gb474, 1, none⟩) (Kd.R_far (p := ⟨gb474, 0, none⟩) (Kd.R_types HO454.out BK474.out (by decide)) (fun _ hk => hk.2) (.int .i64 t458)) (fun _ hk => hk.2) (.slice Ao30 t459.length co30)) (fun _ hk => hk.2) (.slice Ao31 t462.length co31)) (fun _ hk => hk.2) (.int .i64 t465)) (fun _ hk => hk.2) (.int .i64 t466)) (fun _ hk => hk.2) (.int .i64 t467)) (fun _ hk => hk.2) (.int .i64 t468)) (fun _ hk => hk.2) (.int .i64 t469)) (fun _ hk => hk.2) (.slice Ao32 t470.length co32)) (fun _ hk => hk.2) (.int .i64 t473)) (fun _ h_ => h_.1))) hb) (Kd.R_below (by (with_reducible repeat (first | apply Kd.R_alloc | apply Kd.R_drewN | apply Kd.R_drew)); exact (Kd.R_mono (Kd.R_far (p := ⟨gb474, 9, none⟩) (Kd.R_far (p := ⟨gb474, 8, none⟩) (Kd.R_far (p := ⟨gb474, 7, none⟩) (Kd.R_far (p := ⟨gb474, 6, none⟩) (Kd.R_far (p := ⟨gb474, 5, none⟩) (Kd.R_far (p := ⟨gb474, 4, none⟩) (Kd.R_far (p := ⟨gb474, 3, none⟩) (Kd.R_far (p := ⟨gb474, 2, none⟩) (Kd.R_far (p := ⟨gb474, 1, none⟩) (Kd.R_far (p := ⟨gb474, 0, none⟩) (Kd.R_types HO461.out BK474.out (by decide)) (fun _ hk => hk.2) (.int .i64 t458)) (fun _ hk => hk.2) (.slice Ao30 t459.length co30)) (fun _ hk => hk.2) (.slice Ao31 t462.length co31)) (fun _ hk => hk.2) (.int .i64 t465)) (fun _ hk => hk.2) (.int .i64 t466)) (fun _ hk => hk.2) (.int .i64 t467)) (fun _ hk => hk.2) (.int .i64 t468)) (fun _ hk => hk.2) (.int .i64 t469)) (fun _ hk => hk.2) (.slice Ao32 t470.length co32)) (fun _ hk => hk.2) (.int .i64 t473)) (fun _ h_ => h_.1))) hb) (Kd.R_below (by (with_reducible repeat (first | apply Kd.R_alloc | apply Kd.R_drewN | apply Kd.R_drew)); exact (Kd.R_mono (Kd.R_far (p := ⟨gb474, 9, none⟩) (Kd.R_far (p := ⟨gb474, 8, none⟩) (Kd.R_far (p := ⟨gb474, 7, none⟩) (Kd.R_far (p := ⟨gb474, 6, none⟩) (Kd.R_far (p := ⟨gb474, 5, none⟩) (Kd.R_far (p := ⟨gb474, 4, none⟩) (Kd.R_far (p := ⟨gb474, 3, none⟩) (Kd.R_far (p := ⟨gb474, 2, none⟩) (Kd.R_far (p := ⟨gb474, 1, none⟩) (Kd.R_far (p := ⟨gb474, 0, none⟩) (Kd.R_types HO464.out BK474.out (by decide)) (fun _ hk => hk.2) (.int .i64 t458)) (fun _ hk => hk.2) (.slice Ao30 t459.length co30)) (fun _ hk => hk.2) (.slice Ao31 t462.length co31)) (fun _ hk => hk.2) (.int .i64 t465)) (fun _ hk => hk.2) (.int .i64 t466)) (fun _ hk => hk.2) (.int .i64 t467)) (fun _ hk => hk.2) (.int .i64 t468)) (fun _ hk => hk.2) (.int .i64 t469)) (fun _ hk => hk.2) (.slice Ao32 t470.length co32)) (fun _ hk => hk.2) (.int .i64 t473)) (fun _ h_ => h_.1))) hb) (Kd.R_below (by (with_reducible repeat (first | apply Kd.R_alloc | apply Kd.R_drewN | apply Kd.R_drew)); exact (Kd.R_mono (Kd.R_far (p := ⟨gb474, 9, none⟩) (Kd.R_far (p := ⟨gb474, 8, none⟩) (Kd.R_far (p := ⟨gb474, 7, none⟩) (Kd.R_far (p := ⟨gb474, 6, none⟩) (Kd.R_far (p := ⟨gb474, 5, none⟩) (Kd.R_far (p := ⟨gb474, 4, none⟩) (Kd.R_far (p := ⟨gb474, 3, none⟩) (Kd.R_far (p := ⟨gb474, 2, none⟩) (Kd.R_far (p := ⟨gb474, 1, none⟩) (Kd.R_far (p := ⟨gb474, 0, none⟩) (Kd.R_types HO472.out BK474.out (by decide)) (fun _ hk => hk.2) (.int .i64 t458)) (fun _ hk => hk.2) (.slice Ao30 t459.length co30)) (fun _ hk => hk.2) (.slice Ao31 t462.length co31)) (fun _ hk => hk.2) (.int .i64 t465)) (fun _ hk => hk.2) (.int .i64 t466)) (fun _ hk => hk.2) (.int .i64 t467)) (fun _ hk => hk.2) (.int .i64 t468)) (fun _ hk => hk.2) (.int .i64 t469)) (fun _ hk => hk.2) (.slice Ao32 t470.length co32)) (fun _ hk => hk.2) (.int .i64 t473)) (fun _ h_ => h_.1))) hb) (blk_below (g := gb438) (o := .cells #[.int .i64 a0_0, .slice A0_1 l0_1.length c0_1, .slice A0_2 l0_2.length c0_2, .int .i64 a0_3, .int .i64 a0_4, .int .i64 a0_5, .int .i64 a0_6, .int .i64 a0_7, .slice A0_8 l0_8.length c0_8, .int .i64 a0_9] 26 (0, 0)) (by (with_reducible repeat (first | refine blk_drewN ?_ _ | refine blk_drew ?_ | refine blk_alloc ?_ _)); refine blk_far ?_ NB438_474.out _; (with_reducible repeat (first | refine blk_drewN ?_ _ | refine blk_drew ?_ | refine blk_alloc ?_ _)); refine blk_far ?_ NB438_474.out _; (with_reducible repeat (first | refine blk_drewN ?_ _ | refine blk_drew ?_ | refine blk_alloc ?_ _)); refine blk_far ?_ NB438_474.out _; (with_reducible repeat (first | refine blk_drewN ?_ _ | refine blk_drew ?_ | refine blk_alloc ?_ _)); refine blk_far ?_ NB438_474.out _; (with_reducible repeat (first | refine blk_drewN ?_ _ | refine blk_drew ?_ | refine blk_alloc ?_ _)); refine blk_far ?_ NB438_474.out _; (with_reducible repeat (first | refine blk_drewN ?_ _ | refine blk_drew ?_ | refine blk_alloc ?_ _)); refine blk_far ?_ NB438_474.out _; (with_reducible repeat (first | refine blk_drewN ?_ _ | refine blk_drew ?_ | refine blk_alloc ?_ _)); refine blk_far ?_ NB438_474.out _; (with_reducible repeat (first | refine blk_drewN ?_ _ | refine blk_drew ?_ | refine blk_alloc ?_ _)); refine blk_far ?_ NB438_474.out _; (with_reducible repeat (first | refine blk_drewN ?_ _ | refine blk_drew ?_ | refine blk_alloc ?_ _)); refine blk_far ?_ NB438_474.out _; (with_reducible repeat (first | refine blk_drewN ?_ _ | refine blk_drew ?_ | refine blk_alloc ?_ _)); refine blk_far ?_ NB438_474.out _; (with_reducible repeat (first | refine blk_drewN ?_ _ | refine blk_drew ?_ | refine blk_alloc ?_ _)); exact BK438.out) hb) (blk_below (g := gb474) (o := .cells #[.int .i64 t458, .slice Ao30 t459.length co30, .slice Ao31 t462.length co31, .int .i64 t465, .int .i64 t466, .int .i64 t467, .int .i64 t468, .int .i64 t469, .slice Ao32 t470.length co32, .int .i64 t473] 34 (0, 0)) (by (with_reducible repeat (first | refine blk_drewN ?_ _ | refine blk_drew ?_ | refine blk_alloc ?_ _)); refine blk_put (cs := #[.int .i64 t458, .slice Ao30 t459.length co30, .slice Ao31 t462.length co31, .int .i64 t465, .int .i64 t466, .int .i64 t467, .int .i64 t468, .int .i64 t469, .slice Ao32 t470.length co32, .int .i64 0]) ?_ 9 _ rfl; (with_reducible repeat (first | refine blk_drewN ?_ _ | refine blk_drew ?_ | refine blk_alloc ?_ _)); refine blk_put (cs := #[.int .i64 t458, .slice Ao30 t459.length co30, .slice Ao31 t462.length co31, .int .i64 t465, .int .i64 t466, .int .i64 t467, .int .i64 t468, .int .i64 t469, .slice none 0 0, .int .i64 0]) ?_ 8 _ rfl; (with_reducible repeat (first | refine blk_drewN ?_ _ | refine blk_drew ?_ | refine blk_alloc ?_ _)); refine blk_put (cs := #[.int .i64 t458, .slice Ao30 t459.length co30, .slice Ao31 t462.length co31, .int .i64 t465, .int .i64 t466, .int .i64 t467, .int .i64 t468, .int .i64 0, .slice none 0 0, .int .i64 0]) ?_ 7 _ rfl; (with_reducible repeat (first | refine blk_drewN ?_ _ | refine blk_drew ?_ | refine blk_alloc ?_ _)); refine blk_put (cs := #[.int .i64 t458, .slice Ao30 t459.length co30, .slice Ao31 t462.length co31, .int .i64 t465, .int .i64 t466, .int .i64 t467, .int .i64 0, .int .i64 0, .slice none 0 0, .int .i64 0]) ?_ 6 _ rfl; (with_reducible repeat (first | refine blk_drewN ?_ _ | refine blk_drew ?_ | refine blk_alloc ?_ _)); refine blk_put (cs := #[.int .i64 t458, .slice Ao30 t459.length co30, .slice Ao31 t462.length co31, .int .i64 t465, .int .i64 t466, .int .i64 0, .int .i64 0, .int .i64 0, .slice none 0 0, .int .i64 0]) ?_ 5 _ rfl; (with_reducible repeat (first | refine blk_drewN ?_ _ | refine blk_drew ?_ | refine blk_alloc ?_ _)); refine blk_put (cs := #[.int .i64 t458, .slice Ao30 t459.length co30, .slice Ao31 t462.length co31, .int .i64 t465, .int .i64 0, .int .i64 0, .int .i64 0, .int .i64 0, .slice none 0 0, .int .i64 0]) ?_ 4 _ rfl; (with_reducible repeat (first | refine blk_drewN ?_ _ | refine blk_drew ?_ | refine blk_alloc ?_ _)); refine blk_put (cs := #[.int .i64 t458, .slice Ao30 t459.length co30, .slice Ao31 t462.length co31, .int .i64 0, .int .i64 0, .int .i64 0, .int .i64 0, .int .i64 0, .slice none 0 0, .int .i64 0]) ?_ 3 _ rfl; (with_reducible repeat (first | refine blk_drewN ?_ _ | refine blk_drew ?_ | refine blk_alloc ?_ _)); refine blk_put (cs := #[.int .i64 t458, .slice Ao30 t459.length co30, .slice none 0 0, .int .i64 0, .int .i64 0, .int .i64 0, .int .i64 0, .int .i64 0, .slice none 0 0, .int .i64 0]) ?_ 2 _ rfl; (with_reducible repeat (first | refine blk_drewN ?_ _ | refine blk_drew ?_ | refine blk_alloc ?_ _)); refine blk_put (cs := #[.int .i64 t458, .slice none 0 0, .slice none 0 0, .int .i64 0, .int .i64 0, .int .i64 0, .int .i64 0, .int .i64 0, .slice none 0 0, .int .i64 0]) ?_ 1 _ rfl; (with_reducible repeat (first | refine blk_drewN ?_ _ | refine blk_drew ?_ | refine blk_alloc ?_ _)); refine blk_put (cs := #[.int .i64 0, .slice none 0 0, .slice none 0 0, .int .i64 0, .int .i64 0, .int .i64 0, .int .i64 0, .int .i64 0, .slice none 0 0, .int .i64 0]) ?_ 0 _ rfl; (with_reducible repeat (first | refine blk_drewN ?_ _ | refine blk_drew ?_ | refine blk_alloc ?_ _)); exact BK474.out) hb) (below_step (bl2_ HB GE438 GE474) hb) ?_⟩; clear HO443 HO446 HO454 HO461 HO464 HO472 BK438 BK474 HB hb; intro HO443 HO446 HO454 HO461 HO464 HO472 BK438 BK474 HB))
  (try simp only [Act.put, List.setIfInBounds_toArray, List.set_cons_zero, List.set_cons_succ])
  go_cut [50] (fun v50 wc => ∃ (kq : Nat) (x50_14 : Bool), v50 = .bool x50_14 ∧ Aside0 (laws_FnExactSureShare.j0 kq x50_14 a0_0 l0_1 l0_2 a0_3 a0_4 a0_5 a0_6 a0_7 l0_8 a0_9 t458 t459 t462 t465 t466 t467 t468 t469 t470 t473 = some true) ∧ Aside0 (kq ≤ k) ∧ Aside0 (Kd.R k105 105 wc w.heap.size (fun _ => True) (.slice Ao30 t459.length co30) t459) ∧ Aside0 (Kd.R k109 109 wc w.heap.size (fun _ => True) (.slice Ao31 t462.length co31) t462) ∧ Aside0 (Kd.R k115 115 wc w.heap.size (fun _ => True) (.slice Ao32 t470.length co32) t470) ∧ Aside0 (wc.heap[gb438]? = some (.cells #[.int .i64 a0_0, (.slice A0_1 l0_1.length c0_1), (.slice A0_2 l0_2.length c0_2), .int .i64 a0_3, .int .i64 a0_4, .int .i64 a0_5, .int .i64 a0_6, .int .i64 a0_7, (.slice A0_8 l0_8.length c0_8), .int .i64 a0_9] 26 (0, 0))) ∧ Aside0 (wc.heap[gb474]? = some (.cells #[.int .i64 t458, (.slice Ao30 t459.length co30), (.slice Ao31 t462.length co31), .int .i64 t465, .int .i64 t466, .int .i64 t467, .int .i64 t468, .int .i64 t469, (.slice Ao32 t470.length co32), .int .i64 t473] 34 (0, 0))) ∧ Aside0 (Below w.heap.size w wc))
  case first =>
   have H := HC15.out
   clear HC15
   by_cases c34 : t475 = t456
   ·rw [if_pos c34] at H
    obtain ⟨c34b0, c34b1⟩ := bt_ c34
    clear c34
    (first | rw [c34b0] | (simp only [i64_w, i32_w]; rw [c34b0]) | skip)
    have H' := Aside0.mk H
    clear H
    go_wp2
    go_meet
    case rel => exact ⟨_, ((t476 != t457)), (by first | rfl | (simp; done) | (simp [*]; done)), H', ⟨by first | omega | exact Nat.le_refl _⟩, ⟨by (with_reducible repeat (first | apply Kd.R_alloc | apply Kd.R_drewN | apply Kd.R_drew)); exact Kd.R_mono HO461.out (fun _ hk => trivial)⟩, ⟨by (with_reducible repeat (first | apply Kd.R_alloc | apply Kd.R_drewN | apply Kd.R_drew)); exact Kd.R_mono HO464.out (fun _ hk => trivial)⟩, ⟨by (with_reducible repeat (first | apply Kd.R_alloc | apply Kd.R_drewN | apply Kd.R_drew)); exact Kd.R_mono HO472.out (fun _ hk => trivial)⟩, ⟨by (with_reducible repeat (first | refine blk_drewN ?_ _ | refine blk_drew ?_ | refine blk_alloc ?_ _)); exact BK438.out⟩, ⟨by (with_reducible repeat (first | refine blk_drewN ?_ _ | refine blk_drew ?_ | refine blk_alloc ?_ _)); exact BK474.out⟩, ⟨bl2_ HB GE438 GE474⟩⟩
   ·rw [if_neg c34] at H
    obtain ⟨c34b0, c34b1⟩ := bn_ c34
    (first | rw [c34b0] | (simp only [i64_w, i32_w]; rw [c34b0]) | skip)
    have H' := Aside0.mk H
    clear H
    go_wp2
    go_meet
    case rel => exact ⟨_, (true), (by first | rfl | (simp; done) | (simp [*]; done)), H', ⟨by first | omega | exact Nat.le_refl _⟩, ⟨by (with_reducible repeat (first | apply Kd.R_alloc | apply Kd.R_drewN | apply Kd.R_drew)); exact Kd.R_mono HO461.out (fun _ hk => trivial)⟩, ⟨by (with_reducible repeat (first | apply Kd.R_alloc | apply Kd.R_drewN | apply Kd.R_drew)); exact Kd.R_mono HO464.out (fun _ hk => trivial)⟩, ⟨by (with_reducible repeat (first | apply Kd.R_alloc | apply Kd.R_drewN | apply Kd.R_drew)); exact Kd.R_mono HO472.out (fun _ hk => trivial)⟩, ⟨by (with_reducible repeat (first | refine blk_drewN ?_ _ | refine blk_drew ?_ | refine blk_alloc ?_ _)); exact BK438.out⟩, ⟨by (with_reducible repeat (first | refine blk_drewN ?_ _ | refine blk_drew ?_ | refine blk_alloc ?_ _)); exact BK474.out⟩, ⟨bl2_ HB GE438 GE474⟩⟩
  case rest =>
   clear HC15
   try clear c1
   try clear c2
   try clear p2
   try clear c3
   try clear c7
   try clear c7b0
   try clear c9
   try clear c11
   try clear c28
   try clear c34
   try clear c34b0
   try clear c34b1
   try clear hcz17
   try clear hcz19
   try clear hcz25
   try clear hcz29
   try clear hcz9
   obtain ⟨kq, x50_14, rfl, HA, HJ14, HO_475001, HO_475002, HO_475008, BK438, BK474, HB⟩ := hcut
   cases kq with
   | zero => exact absurd HA.out (by simp [laws_FnExactSureShare.j0])
   | succ kj14 =>
    have H := HA.out
    clear HA
    simp only [laws_FnExactSureShare.j0] at H
    by_cases c35 : x50_14 = true
    ·subst c35
     try rw [if_pos rfl] at H
     exact absurd H (by simp)
    ·replace c35 := Bool.eq_false_iff.mpr c35
     subst c35
     have H1 : ((laws_toSky.f kj14 a0_0 l0_1 l0_2 a0_3 a0_4 a0_5 a0_6 a0_7 l0_8 a0_9).bind fun bt477 => ((laws_eqSky.f kj14 t458 t459 t462 t465 t466 t467 t468 t469 t470 t473 bt477.1 bt477.2.1 bt477.2.2.1 bt477.2.2.2.1 bt477.2.2.2.2.1 bt477.2.2.2.2.2.1 bt477.2.2.2.2.2.2.1 bt477.2.2.2.2.2.2.2.1 bt477.2.2.2.2.2.2.2.2.1 bt477.2.2.2.2.2.2.2.2.2).bind fun t493 => (if t493 = true then (some true) else (some false)))) = some true := by first | (rw [if_neg (show ¬ (false = true) by decide)] at H; exact H) | rfl
     clear H
     have H := H1
     clear H1
     replace H := bs_ H
     obtain ⟨⟨t477, t478, t481, t484, t485, t486, t487, t488, t489, t492⟩, A36, H⟩ := H
     dsimp only at H
     replace H := bs_ H
     obtain ⟨t493, A37, H⟩ := H
     by_cases c38 : t493 = true
     ·subst c38
      try rw [if_pos rfl] at H
      clear H
      try go_wp2
      refine sh6_ (Kd.R_drew HO_475001.out) (Kd.R_drew HO_475002.out) (Kd.R_drew HO_475008.out) (blk_drew BK438.out) (blk_drew BK474.out) (below_drew1 HB.out) ?_
      clear HO_475001 HO_475002 HO_475008 BK438 BK474 HB
      intro HO_475001 HO_475002 HO_475008 BK438 BK474 HB
      refine start_ (n := 5) (S := fun w' => w'.cell? ⟨gb474, 0, none⟩ = some (.int .i64 t458) ∧ w'.cell? ⟨gb474, 1, none⟩ = some (.slice Ao30 t459.length co30) ∧ w'.cell? ⟨gb474, 2, none⟩ = some (.slice Ao31 t462.length co31) ∧ w'.cell? ⟨gb474, 3, none⟩ = some (.int .i64 t465) ∧ w'.cell? ⟨gb474, 4, none⟩ = some (.int .i64 t466) ∧ w'.cell? ⟨gb474, 5, none⟩ = some (.int .i64 t467) ∧ w'.cell? ⟨gb474, 6, none⟩ = some (.int .i64 t468) ∧ w'.cell? ⟨gb474, 7, none⟩ = some (.int .i64 t469) ∧ w'.cell? ⟨gb474, 8, none⟩ = some (.slice Ao32 t470.length co32) ∧ w'.cell? ⟨gb474, 9, none⟩ = some (.int .i64 t473) ∧ w'.cell? ⟨gb438, 0, none⟩ = some (.int .i64 a0_0) ∧ w'.cell? ⟨gb438, 1, none⟩ = some (.slice A0_1 l0_1.length c0_1) ∧ w'.cell? ⟨gb438, 2, none⟩ = some (.slice A0_2 l0_2.length c0_2) ∧ w'.cell? ⟨gb438, 3, none⟩ = some (.int .i64 a0_3) ∧ w'.cell? ⟨gb438, 4, none⟩ = some (.int .i64 a0_4) ∧ w'.cell? ⟨gb438, 5, none⟩ = some (.int .i64 a0_5) ∧ w'.cell? ⟨gb438, 6, none⟩ = some (.int .i64 a0_6) ∧ w'.cell? ⟨gb438, 7, none⟩ = some (.int .i64 a0_7) ∧ w'.cell? ⟨gb438, 8, none⟩ = some (.slice A0_8 l0_8.length c0_8) ∧ w'.cell? ⟨gb438, 9, none⟩ = some (.int .i64 a0_9)) (ds := []) #[false, false, false, false, false] (by kernel_rfl) rfl rfl ⟨(bc_ BK474 0 rfl), (bc_ BK474 1 rfl), (bc_ BK474 2 rfl), (bc_ BK474 3 rfl), (bc_ BK474 4 rfl), (bc_ BK474 5 rfl), (bc_ BK474 6 rfl), (bc_ BK474 7 rfl), (bc_ BK474 8 rfl), (bc_ BK474 9 rfl), (bc_ BK438 0 rfl), (bc_ BK438 1 rfl), (bc_ BK438 2 rfl), (bc_ BK438 3 rfl), (bc_ BK438 4 rfl), (bc_ BK438 5 rfl), (bc_ BK438 6 rfl), (bc_ BK438 7 rfl), (bc_ BK438 8 rfl), (bc_ BK438 9 rfl)⟩ (fun hHeld => ?_)
      generalize wc.drew = w39 at HO_475001 HO_475002 HO_475008 BK438 BK474 HB hHeld ⊢
      refine take_ (i := 0) (N := some 51) (v := ?_) (a' := ?_) #[true, false, false, false, false] rfl rfl (by kernel_rfl) (fun _ _ _ h => h) (Or.inl ⟨by rfl, ?_⟩) hHeld ?_ ?_
      rotate_left
      ·rintro w' ⟨s0, s1, s2, s3, s4, s5, s6, s7, s8, s9, s10, s11, s12, s13, s14, s15, s16, s17, s18, s19⟩
       go_simp
       with_reducible rfl
      rotate_left
      ·simp only [Act.put, List.setIfInBounds_toArray, List.set_cons_zero, List.set_cons_succ, i64_w, i32_w]
       rfl
      refine take_ (i := 1) (N := some 52) (v := ?_) (a' := ?_) #[true, true, false, false, false] rfl rfl (by kernel_rfl) (fun _ _ _ h => h) (Or.inl ⟨by rfl, ?_⟩) hHeld ?_ ?_
      rotate_left
      ·rintro w' ⟨s0, s1, s2, s3, s4, s5, s6, s7, s8, s9, s10, s11, s12, s13, s14, s15, s16, s17, s18, s19⟩
       go_simp
       with_reducible rfl
      rotate_left
      ·simp only [Act.put, List.setIfInBounds_toArray, List.set_cons_zero, List.set_cons_succ, i64_w, i32_w]
       rfl
      refine one_ (i := 2) (N := some 53) #[true, true, true, false, false] rfl rfl (by kernel_rfl) (by decide) (fun K hK => ?_)
      refine goes_ Try.func11 (by kernel_rfl) rfl #[.agg #[.int .i64 a0_0, .slice A0_1 l0_1.length c0_1, .slice A0_2 l0_2.length c0_2, .int .i64 a0_3, .int .i64 a0_4, .int .i64 a0_5, .int .i64 a0_6, .int .i64 a0_7, .slice A0_8 l0_8.length c0_8, .int .i64 a0_9]] (by rfl) rfl rfl mp_ ?_
      with_reducible refine (laws_toSky.calls kj14 a0_0 _ _ l0_1 _ _ l0_2 a0_3 a0_4 a0_5 a0_6 a0_7 _ _ l0_8 a0_9 t477 t478 t481 t484 t485 t486 t487 t488 t489 t492 _ ?side1 ?side2 ?side3 ?side4 ?side5 ?side6 A36.out).mono ?_
      (case side1 => exact ck_ HR0_1 HB)
      (case side2 => exact HC0_1.out)
      (case side3 => exact ck_ HR0_2 HB)
      (case side4 => exact HC0_2.out)
      (case side5 => exact ck_ HR0_8 HB)
      (case side6 => exact HC0_8.out)
      rintro e w40 ⟨v479, v482, v490, rfl, ho0, ho1, ho2, hb⟩
      refine ⟨_, rfl, sh9_ (Kd.R_elder' (ra_ HO_475001) (Kd.R_base ho0) hb) (Kd.R_elder' (ra_ HO_475002) (Kd.R_base ho1) hb) (Kd.R_elder' (ra_ HO_475008) (Kd.R_base ho2) hb) (Kd.R_lower (Kd.R_new' ho0 (Kd.R_lt (ra_ HO_475001))) (below_size (bl2_ HB GE438 GE474))) (Kd.R_lower (Kd.R_new' ho1 (Kd.R_lt (ra_ HO_475002))) (below_size (bl2_ HB GE438 GE474))) (Kd.R_lower (Kd.R_new' ho2 (Kd.R_lt (ra_ HO_475008))) (below_size (bl2_ HB GE438 GE474))) (blk_below (bk_ BK438) hb) (blk_below (bk_ BK474) hb) (below_step (bl2_ HB GE438 GE474) hb) ?_⟩
      clear HO_475001 HO_475002 HO_475008 BK438 BK474 HB hb ho0 ho1 ho2
      intro HO_475001 HO_475002 HO_475008 HO480 HO483 HO491 BK438 BK474 HB
      obtain ⟨Ao41, co41, eo41⟩ := Kd.R_slice HO480.out
      (first | subst eo41 | (injection eo41 with f1_ f2_ f3_; have f4_ := f1_.symm; have f5_ := f3_.symm; clear f1_ f2_ f3_; subst f4_; subst f5_))
      obtain ⟨Ao42, co42, eo42⟩ := Kd.R_slice HO483.out
      (first | subst eo42 | (injection eo42 with f1_ f2_ f3_; have f4_ := f1_.symm; have f5_ := f3_.symm; clear f1_ f2_ f3_; subst f4_; subst f5_))
      obtain ⟨Ao43, co43, eo43⟩ := Kd.R_slice HO491.out
      (first | subst eo43 | (injection eo43 with f1_ f2_ f3_; have f4_ := f1_.symm; have f5_ := f3_.symm; clear f1_ f2_ f3_; subst f4_; subst f5_))
      refine hK.out _ _ ⟨(bc_ BK474 0 rfl), (bc_ BK474 1 rfl), (bc_ BK474 2 rfl), (bc_ BK474 3 rfl), (bc_ BK474 4 rfl), (bc_ BK474 5 rfl), (bc_ BK474 6 rfl), (bc_ BK474 7 rfl), (bc_ BK474 8 rfl), (bc_ BK474 9 rfl), (bc_ BK438 0 rfl), (bc_ BK438 1 rfl), (bc_ BK438 2 rfl), (bc_ BK438 3 rfl), (bc_ BK438 4 rfl), (bc_ BK438 5 rfl), (bc_ BK438 6 rfl), (bc_ BK438 7 rfl), (bc_ BK438 8 rfl), (bc_ BK438 9 rfl)⟩ (fun hHeld => ?_)
      clear hK K
      refine norm_ (a' := ?_) ?_ ?_
      rotate_left
      ·show Act.put _ (some 53) _ = _
       simp only [Act.put, List.setIfInBounds_toArray, List.set_cons_zero, List.set_cons_succ, i64_w, i32_w]
       rfl
      refine one_ (i := 3) (N := some 54) #[true, true, true, true, false] rfl rfl (by kernel_rfl) (by decide) (fun K hK => ?_)
      refine goes_ Try.func14 (by kernel_rfl) rfl #[.agg #[.int .i64 t458, .slice Ao30 t459.length co30, .slice Ao31 t462.length co31, .int .i64 t465, .int .i64 t466, .int .i64 t467, .int .i64 t468, .int .i64 t469, .slice Ao32 t470.length co32, .int .i64 t473], .agg #[.int .i64 t477, .slice Ao41 t478.length co41, .slice Ao42 t481.length co42, .int .i64 t484, .int .i64 t485, .int .i64 t486, .int .i64 t487, .int .i64 t488, .slice Ao43 t489.length co43, .int .i64 t492]] (by rfl) rfl rfl mp_ ?_
      with_reducible refine (laws_eqSky.calls kj14 t458 _ _ t459 _ _ t462 t465 t466 t467 t468 t469 _ _ t470 t473 t477 _ _ t478 _ _ t481 t484 t485 t486 t487 t488 _ _ t489 t492 true _ ?side1 ?side2 ?side3 ?side4 ?side5 ?side6 ?side7 ?side8 ?side9 ?side10 ?side11 ?side12 A37.out).mono ?_
      (case side1 => repeat (first | exact (Kd.R_reads' HO_475001.out).2.2 | (with_reducible refine Kd.C_alloc ?_ _) | (with_reducible refine Kd.C_drewN ?_ _) | (with_reducible refine Kd.C_drew ?_)))
      (case side2 => exact (Kd.R_reads' HO_475001.out).2.1)
      (case side3 => repeat (first | exact (Kd.R_reads' HO_475002.out).2.2 | (with_reducible refine Kd.C_alloc ?_ _) | (with_reducible refine Kd.C_drewN ?_ _) | (with_reducible refine Kd.C_drew ?_)))
      (case side4 => exact (Kd.R_reads' HO_475002.out).2.1)
      (case side5 => repeat (first | exact (Kd.R_reads' HO_475008.out).2.2 | (with_reducible refine Kd.C_alloc ?_ _) | (with_reducible refine Kd.C_drewN ?_ _) | (with_reducible refine Kd.C_drew ?_)))
      (case side6 => exact (Kd.R_reads' HO_475008.out).2.1)
      (case side7 => repeat (first | exact (Kd.R_reads' HO480.out).2.2 | (with_reducible refine Kd.C_alloc ?_ _) | (with_reducible refine Kd.C_drewN ?_ _) | (with_reducible refine Kd.C_drew ?_)))
      (case side8 => exact (Kd.R_reads' HO480.out).2.1)
      (case side9 => repeat (first | exact (Kd.R_reads' HO483.out).2.2 | (with_reducible refine Kd.C_alloc ?_ _) | (with_reducible refine Kd.C_drewN ?_ _) | (with_reducible refine Kd.C_drew ?_)))
      (case side10 => exact (Kd.R_reads' HO483.out).2.1)
      (case side11 => repeat (first | exact (Kd.R_reads' HO491.out).2.2 | (with_reducible refine Kd.C_alloc ?_ _) | (with_reducible refine Kd.C_drewN ?_ _) | (with_reducible refine Kd.C_drew ?_)))
      (case side12 => exact (Kd.R_reads' HO491.out).2.1)
      rintro e w44 ⟨rfl, hb⟩
      refine ⟨_, rfl, sh9_ (Kd.R_below (ra_ HO_475001) hb) (Kd.R_below (ra_ HO_475002) hb) (Kd.R_below (ra_ HO_475008) hb) (Kd.R_below (ra_ HO480) hb) (Kd.R_below (ra_ HO483) hb) (Kd.R_below (ra_ HO491) hb) (blk_below (bk_ BK438) hb) (blk_below (bk_ BK474) hb) (below_step (bl2_ HB GE438 GE474) hb) ?_⟩
      clear HO_475001 HO_475002 HO_475008 HO480 HO483 HO491 BK438 BK474 HB hb
      intro HO_475001 HO_475002 HO_475008 HO480 HO483 HO491 BK438 BK474 HB
      refine hK.out _ _ ⟨(bc_ BK474 0 rfl), (bc_ BK474 1 rfl), (bc_ BK474 2 rfl), (bc_ BK474 3 rfl), (bc_ BK474 4 rfl), (bc_ BK474 5 rfl), (bc_ BK474 6 rfl), (bc_ BK474 7 rfl), (bc_ BK474 8 rfl), (bc_ BK474 9 rfl), (bc_ BK438 0 rfl), (bc_ BK438 1 rfl), (bc_ BK438 2 rfl), (bc_ BK438 3 rfl), (bc_ BK438 4 rfl), (bc_ BK438 5 rfl), (bc_ BK438 6 rfl), (bc_ BK438 7 rfl), (bc_ BK438 8 rfl), (bc_ BK438 9 rfl)⟩ (fun hHeld => ?_)
      clear hK K
      refine norm_ (a' := ?_) ?_ ?_
      rotate_left
      ·show Act.put _ (some 54) _ = _
       simp only [Act.put, List.setIfInBounds_toArray, List.set_cons_zero, List.set_cons_succ, i64_w, i32_w]
       rfl
      refine pure_ (i := 4) (N := some 55) (v := ?_) (a' := ?_) #[true, true, true, true, true] rfl rfl (by kernel_rfl) (fun _ _ _ h => h) (Or.inl ⟨by rfl, ?_⟩) ?_ ?_
      rotate_left
      ·intro w'
       go_simp
       with_reducible rfl
      rotate_left
      ·simp only [Act.put, List.setIfInBounds_toArray, List.set_cons_zero, List.set_cons_succ, i64_w, i32_w]
       rfl
      refine done_ (by kernel_rfl) ?_
      try go_wp2
      go_ret
      exact ⟨er_, bl2_ HB GE438 GE474⟩
     ·replace c38 := Bool.eq_false_iff.mpr c38
      subst c38
      have H1 : (some false) = some true := by first | (rw [if_neg (show ¬ (false = true) by decide)] at H; exact H) | rfl
      clear H
      have H := H1
      clear H1
      exact absurd H (by simp)

end Go.Proofs.Ytcjfalmhohcifaa.PFnExactSureShare
