-- Written by a program of this session for this claim (the kit's printer with changes).
import Derived.Test.YtcjfalmhohcifaaQFnExactSureWindowsx0
import Derived.Test.YtcjfalmhohcifaaQFnExactSureWindowsx1
import Derived.Test.YtcjfalmhohcifaaQFnExactSureWindowsx2
import Derived.Test.YtcjfalmhohcifaaQFnExactSureWindowsx3
import Derived.Test.YtcjfalmhohcifaaQFnExactSureWindowsx5
import Derived.Test.YtcjfalmhohcifaaQFnExactSureWindowsx8
namespace Go.Proofs.Ytcjfalmhohcifaa.PFnExactSureWindows
open Go.RowKit Go.Proofs.YtcjfalmhohcifaaW.PrintWords Go.Proofs.YtcjfalmhohcifaaW.PrintLast Go.Proofs.YtcjfalmhohcifaaW.PrintMore
attribute [local go_sem] max2_int min2_int max_two min_two max_three min_three max_four min_four   -- for this text's walks alone
set_option linter.unusedVariables false
set_option linter.unusedSimpArgs false

/-! ### impl_IsSure: function 70 -/
def impl_IsSure.f (k : Nat) (a0_0 : Int) (l0_1 : List (S105)) (l0_2 : List (S109)) (a0_3 : Int) (a0_4 : Int) (a0_5 : Int) (a0_6 : Int) (a0_7 : Int) (l0_8 : List (S115)) (a0_9 : Int) (a1 : Int) (a2 : Int) (a3 : Int) : Option (Bool) := (impl_SightAt.f k a0_0 l0_1 l0_2 a0_3 a0_4 a0_5 a0_6 a0_7 l0_8 a0_9 a1 a2 a3).bind fun t400 => (some (t400 == 2))
theorem impl_IsSure.mono : ∀ a0 a1 a2 a3 a4 a5 a6 a7 a8 a9 a10 a11 a12 k, LeO (impl_IsSure.f k a0 a1 a2 a3 a4 a5 a6 a7 a8 a9 a10 a11 a12) (impl_IsSure.f (k + 1) a0 a1 a2 a3 a4 a5 a6 a7 a8 a9 a10 a11 a12) := by
 intro a0 a1 a2 a3 a4 a5 a6 a7 a8 a9 a10 a11 a12 k
 unfold impl_IsSure.f
 repeat' first | (with_reducible first | exact impl_SightAt.mono _ _ _ _ _ _ _ _ _ _ _ _ _ _ | exact LeO.refl _ | exact LeO.none _ | refine LeO.ite ?_ ?_ | refine LeO.bind ?_ (fun _ => ?_)) | exact LeO.none _ | refine LeO.ite ?_ ?_ | refine LeO.bind ?_ (fun _ => ?_)
set_option maxHeartbeats 8000000 in
set_option maxRecDepth 100000 in
theorem impl_IsSure.calls (k : Nat) (a0_0 : Int) (A0_1 : Option Addr) (c0_1 : Nat) (l0_1 : List (S105)) (A0_2 : Option Addr) (c0_2 : Nat) (l0_2 : List (S109)) (a0_3 : Int) (a0_4 : Int) (a0_5 : Int) (a0_6 : Int) (a0_7 : Int) (A0_8 : Option Addr) (c0_8 : Nat) (l0_8 : List (S115)) (a0_9 : Int) (a1 : Int) (a2 : Int) (a3 : Int) (r : Bool) (w : World) (hr0_1 : Kd.C k105 w A0_1 l0_1.length l0_1) (hc0_1 : l0_1.length ≤ c0_1) (hr0_2 : Kd.C k109 w A0_2 l0_2.length l0_2) (hc0_2 : l0_2.length ≤ c0_2) (hr0_8 : Kd.C k115 w A0_8 l0_8.length l0_8) (hc0_8 : l0_8.length ≤ c0_8) (h : impl_IsSure.f k a0_0 l0_1 l0_2 a0_3 a0_4 a0_5 a0_6 a0_7 l0_8 a0_9 a1 a2 a3 = some r) :
  Calls Try.prog 70 #[.agg #[.int .i64 a0_0, .slice A0_1 l0_1.length c0_1, .slice A0_2 l0_2.length c0_2, .int .i64 a0_3, .int .i64 a0_4, .int .i64 a0_5, .int .i64 a0_6, .int .i64 a0_7, .slice A0_8 l0_8.length c0_8, .int .i64 a0_9], .int .i64 a1, .int .i64 a2, .int .i64 a3] w fun e w' => e = .returned (.bool r) ∧ Below w.heap.size w w' := by
 have hu34 := Try.underlying34
 have HR0_1 := Aside0.mk hr0_1
 have HC0_1 := Aside0.mk hc0_1
 clear hr0_1 hc0_1
 have HR0_2 := Aside0.mk hr0_2
 have HC0_2 := Aside0.mk hc0_2
 clear hr0_2 hc0_2
 have HR0_8 := Aside0.mk hr0_8
 have HC0_8 := Aside0.mk hc0_8
 clear hr0_8 hc0_8
 have HB := Aside0.mk (Below.refl w.heap.size w)
 have H := h
 clear h
 unfold impl_IsSure.f at H
 replace H := bs_ H
 obtain ⟨t400, A5, H⟩ := H
 obtain rfl := Option.some.inj H
 go_enter Try.func70, Try.ntmps70
 go_wp2_with (first | (refine bx_ 4 34 #[.int .i64 a0_0, .slice A0_1 l0_1.length c0_1, .slice A0_2 l0_2.length c0_2, .int .i64 a0_3, .int .i64 a0_4, .int .i64 a0_5, .int .i64 a0_6, .int .i64 a0_7, .slice A0_8 l0_8.length c0_8, .int .i64 a0_9] ?_; intro gb399 hg w6 hbox hb; refine sh4_ (below_step (bl_ HB) hb) hbox (ge_ hg (bl_ HB)) (ge_ hg (bl_ HB)) ?_; clear HB hb hbox hg; intro HB BK399 GW399 GE399; have hcz7 := cf10_ BK399) | ((with_reducible refine gate_callee (f := 98) rfl ?_); refine gl_ 13 Try.func98 (impl_SightAt.calls k a0_0 _ _ l0_1 _ _ l0_2 a0_3 a0_4 a0_5 a0_6 a0_7 _ _ l0_8 a0_9 a1 a2 a3 t400 _ (ck_ HR0_1 HB) HC0_1.out (ck_ HR0_2 HB) HC0_2.out (ck_ HR0_8 HB) HC0_8.out A5.out) ?_; rintro e w8 ⟨rfl, hb⟩; refine ⟨_, rfl, sh2_ (blk_below (bk_ BK399) hb) (below_step (bl1_ HB GE399) hb) ?_⟩; clear BK399 HB hb; intro BK399 HB))
 go_ret
 exact ⟨er_, bl1_ HB GE399⟩

/-! ### impl_SureWindows_1: function 78 -/
def impl_SureWindows_1.f (k : Nat) (a0 : Int) (a1_0 : Int) (l1_1 : List (S105)) (l1_2 : List (S109)) (a1_3 : Int) (a1_4 : Int) (a1_5 : Int) (a1_6 : Int) (a1_7 : Int) (l1_8 : List (S115)) (a1_9 : Int) (a2 : Int) (a3 : Int) : Option (Bool) := (impl_IsSure.f k a1_0 l1_1 l1_2 a1_3 a1_4 a1_5 a1_6 a1_7 l1_8 a1_9 a2 a3 a0).bind fun t401 => (some t401)
theorem impl_SureWindows_1.mono : ∀ a0 a1 a2 a3 a4 a5 a6 a7 a8 a9 a10 a11 a12 k, LeO (impl_SureWindows_1.f k a0 a1 a2 a3 a4 a5 a6 a7 a8 a9 a10 a11 a12) (impl_SureWindows_1.f (k + 1) a0 a1 a2 a3 a4 a5 a6 a7 a8 a9 a10 a11 a12) := by
 intro a0 a1 a2 a3 a4 a5 a6 a7 a8 a9 a10 a11 a12 k
 unfold impl_SureWindows_1.f
 repeat' first | (with_reducible first | exact impl_IsSure.mono _ _ _ _ _ _ _ _ _ _ _ _ _ _ | exact LeO.refl _ | exact LeO.none _ | refine LeO.ite ?_ ?_ | refine LeO.bind ?_ (fun _ => ?_)) | exact LeO.none _ | refine LeO.ite ?_ ?_ | refine LeO.bind ?_ (fun _ => ?_)
set_option maxHeartbeats 8000000 in
set_option maxRecDepth 100000 in
theorem impl_SureWindows_1.calls (k : Nat) (a0 : Int) (a1_0 : Int) (A1_1 : Option Addr) (c1_1 : Nat) (l1_1 : List (S105)) (A1_2 : Option Addr) (c1_2 : Nat) (l1_2 : List (S109)) (a1_3 : Int) (a1_4 : Int) (a1_5 : Int) (a1_6 : Int) (a1_7 : Int) (A1_8 : Option Addr) (c1_8 : Nat) (l1_8 : List (S115)) (a1_9 : Int) (a2 : Int) (a3 : Int) (r : Bool) (w : World) (B0 : Nat) (hB0 : w.heap[B0]? = some (.cells #[.int .i64 a1_0, .slice A1_1 l1_1.length c1_1, .slice A1_2 l1_2.length c1_2, .int .i64 a1_3, .int .i64 a1_4, .int .i64 a1_5, .int .i64 a1_6, .int .i64 a1_7, .slice A1_8 l1_8.length c1_8, .int .i64 a1_9] 34 (0, 0))) (B1 : Nat) (hB1 : w.heap[B1]? = some (.cells #[.int .i64 a2] 3 (0, 0))) (B2 : Nat) (hB2 : w.heap[B2]? = some (.cells #[.int .i64 a3] 3 (0, 0))) (hr1_1 : Kd.C k105 w A1_1 l1_1.length l1_1) (hc1_1 : l1_1.length ≤ c1_1) (hr1_2 : Kd.C k109 w A1_2 l1_2.length l1_2) (hc1_2 : l1_2.length ≤ c1_2) (hr1_8 : Kd.C k115 w A1_8 l1_8.length l1_8) (hc1_8 : l1_8.length ≤ c1_8) (h : impl_SureWindows_1.f k a0 a1_0 l1_1 l1_2 a1_3 a1_4 a1_5 a1_6 a1_7 l1_8 a1_9 a2 a3 = some r) :
  Calls Try.prog 78 #[.int .i64 a0, .pointer (some ⟨B0, 0, none⟩), .pointer (some ⟨B1, 0, none⟩), .pointer (some ⟨B2, 0, none⟩)] w fun e w' => e = .returned (.bool r) ∧ Below w.heap.size w w' := by
 have hcB0_0 : w.cell? ⟨B0, 0, none⟩ = some (.int .i64 a1_0) := (blk_cell hB0 0).trans rfl
 have hcB0_1 : w.cell? ⟨B0, 1, none⟩ = some (.slice A1_1 l1_1.length c1_1) := (blk_cell hB0 1).trans rfl
 have hcB0_2 : w.cell? ⟨B0, 2, none⟩ = some (.slice A1_2 l1_2.length c1_2) := (blk_cell hB0 2).trans rfl
 have hcB0_3 : w.cell? ⟨B0, 3, none⟩ = some (.int .i64 a1_3) := (blk_cell hB0 3).trans rfl
 have hcB0_4 : w.cell? ⟨B0, 4, none⟩ = some (.int .i64 a1_4) := (blk_cell hB0 4).trans rfl
 have hcB0_5 : w.cell? ⟨B0, 5, none⟩ = some (.int .i64 a1_5) := (blk_cell hB0 5).trans rfl
 have hcB0_6 : w.cell? ⟨B0, 6, none⟩ = some (.int .i64 a1_6) := (blk_cell hB0 6).trans rfl
 have hcB0_7 : w.cell? ⟨B0, 7, none⟩ = some (.int .i64 a1_7) := (blk_cell hB0 7).trans rfl
 have hcB0_8 : w.cell? ⟨B0, 8, none⟩ = some (.slice A1_8 l1_8.length c1_8) := (blk_cell hB0 8).trans rfl
 have hcB0_9 : w.cell? ⟨B0, 9, none⟩ = some (.int .i64 a1_9) := (blk_cell hB0 9).trans rfl
 have hcB1_0 : w.cell? ⟨B1, 0, none⟩ = some (.int .i64 a2) := (blk_cell hB1 0).trans rfl
 have hcB2_0 : w.cell? ⟨B2, 0, none⟩ = some (.int .i64 a3) := (blk_cell hB2 0).trans rfl
 have HR1_1 := Aside0.mk hr1_1
 have HC1_1 := Aside0.mk hc1_1
 clear hr1_1 hc1_1
 have HR1_2 := Aside0.mk hr1_2
 have HC1_2 := Aside0.mk hc1_2
 clear hr1_2 hc1_2
 have HR1_8 := Aside0.mk hr1_8
 have HC1_8 := Aside0.mk hc1_8
 clear hr1_8 hc1_8
 have HB := Aside0.mk (Below.refl w.heap.size w)
 have H := h
 clear h
 unfold impl_SureWindows_1.f at H
 replace H := bs_ H
 obtain ⟨t401, A5, H⟩ := H
 obtain rfl := Option.some.inj H
 go_enter Try.func78, Try.ntmps78
 go_wp2_with (first | ((with_reducible refine gate_callee (f := 70) rfl ?_); refine gl_ 10 Try.func70 (impl_IsSure.calls k a1_0 _ _ l1_1 _ _ l1_2 a1_3 a1_4 a1_5 a1_6 a1_7 _ _ l1_8 a1_9 a2 a3 a0 t401 _ (cq_ HR1_1) HC1_1.out (cq_ HR1_2) HC1_2.out (cq_ HR1_8) HC1_8.out A5.out) ?_; rintro e w6 ⟨rfl, hb⟩; refine ⟨_, rfl, sh1_ (below_step (bl_ HB) hb) ?_⟩; clear HB hb; intro HB))
 go_ret
 exact ⟨er_, bl_ HB⟩


def where_impl_SureWindows_1.f (k : Nat) (y0 y1 : Int) (a1_0 : Int) (l1_1 : List (S105)) (l1_2 : List (S109)) (a1_3 : Int) (a1_4 : Int) (a1_5 : Int) (a1_6 : Int) (a1_7 : Int) (l1_8 : List (S115)) (a1_9 : Int) (a2 : Int) (a3 : Int) : Option (List (S73)) := sw.f (fun k' t' => impl_SureWindows_1.f k' t' a1_0 l1_1 l1_2 a1_3 a1_4 a1_5 a1_6 a1_7 l1_8 a1_9 a2 a3) k y0 y1
theorem where_impl_SureWindows_1.mono : ∀ y0 y1 a1_0 l1_1 l1_2 a1_3 a1_4 a1_5 a1_6 a1_7 l1_8 a1_9 a2 a3 k, LeO (where_impl_SureWindows_1.f k y0 y1 a1_0 l1_1 l1_2 a1_3 a1_4 a1_5 a1_6 a1_7 l1_8 a1_9 a2 a3) (where_impl_SureWindows_1.f (k + 1) y0 y1 a1_0 l1_1 l1_2 a1_3 a1_4 a1_5 a1_6 a1_7 l1_8 a1_9 a2 a3) := fun y0 y1 a1_0 l1_1 l1_2 a1_3 a1_4 a1_5 a1_6 a1_7 l1_8 a1_9 a2 a3 k => sw.mono _ (fun t' k' => by exact impl_SureWindows_1.mono _ _ _ _ _ _ _ _ _ _ _ _ _ _) y0 y1 k
theorem where_impl_SureWindows_1.calls (k : Nat) (y0 y1 : Int) (a1_0 : Int) (A1_1 : Option Addr) (c1_1 : Nat) (l1_1 : List (S105)) (A1_2 : Option Addr) (c1_2 : Nat) (l1_2 : List (S109)) (a1_3 : Int) (a1_4 : Int) (a1_5 : Int) (a1_6 : Int) (a1_7 : Int) (A1_8 : Option Addr) (c1_8 : Nat) (l1_8 : List (S115)) (a1_9 : Int) (a2 : Int) (a3 : Int) (r : List (S73)) (w : World) (B0 : Nat) (hB0 : w.heap[B0]? = some (.cells #[.int .i64 a1_0, .slice A1_1 l1_1.length c1_1, .slice A1_2 l1_2.length c1_2, .int .i64 a1_3, .int .i64 a1_4, .int .i64 a1_5, .int .i64 a1_6, .int .i64 a1_7, .slice A1_8 l1_8.length c1_8, .int .i64 a1_9] 34 (0, 0))) (B1 : Nat) (hB1 : w.heap[B1]? = some (.cells #[.int .i64 a2] 3 (0, 0))) (B2 : Nat) (hB2 : w.heap[B2]? = some (.cells #[.int .i64 a3] 3 (0, 0))) (hr1_1 : Kd.C k105 w A1_1 l1_1.length l1_1) (hc1_1 : l1_1.length ≤ c1_1) (hr1_2 : Kd.C k109 w A1_2 l1_2.length l1_2) (hc1_2 : l1_2.length ≤ c1_2) (hr1_8 : Kd.C k115 w A1_8 l1_8.length l1_8) (hc1_8 : l1_8.length ≤ c1_8) (h : where_impl_SureWindows_1.f k y0 y1 a1_0 l1_1 l1_2 a1_3 a1_4 a1_5 a1_6 a1_7 l1_8 a1_9 a2 a3 = some r) :
  Calls Try.prog 75 #[.int .i64 y0, .int .i64 y1, .func (.func 78) #[] #[.pointer (some ⟨B0, 0, none⟩), .pointer (some ⟨B1, 0, none⟩), .pointer (some ⟨B2, 0, none⟩)]] w fun e w' => ∃ v0_ : Value, e = .returned (v0_) ∧ Kd.R k73 73 w' w.heap.size (fun _ => True) v0_ r ∧ Below w.heap.size w w' := by
 refine sw.calls (fun k' t' => impl_SureWindows_1.f k' t' a1_0 l1_1 l1_2 a1_3 a1_4 a1_5 a1_6 a1_7 l1_8 a1_9 a2 a3) k y0 y1 r w 78 _ (fun args w => enters_ Try.func78 (by kernel_rfl) rfl args w) (fun k' t b W hq hb => ?_) h
 have hB0' := blk_below hB0 hb
 have hB1' := blk_below hB1 hb
 have hB2' := blk_below hB2 hb
 have hh := impl_SureWindows_1.calls k' t a1_0 A1_1 c1_1 l1_1 A1_2 c1_2 l1_2 a1_3 a1_4 a1_5 a1_6 a1_7 A1_8 c1_8 l1_8 a1_9 a2 a3 b W B0 hB0' B1 hB1' B2 hB2' (Kd.C_below hr1_1 hb) hc1_1 (Kd.C_below hr1_2 hb) hc1_2 (Kd.C_below hr1_8 hb) hc1_8 hq
 exact hh.mono (fun e w' hx => ⟨hx.1, hx.2⟩)

/-! ### impl_SureWindows: function 39 -/
def impl_SureWindows.f (k : Nat) (a0_0 : Int) (l0_1 : List (S105)) (l0_2 : List (S109)) (a0_3 : Int) (a0_4 : Int) (a0_5 : Int) (a0_6 : Int) (a0_7 : Int) (l0_8 : List (S115)) (a0_9 : Int) (a1 : Int) (a2 : Int) (a3 : Int) (a4 : Int) : Option ((List (S73))) := (where_impl_SureWindows_1.f k a3 a4 a0_0 l0_1 l0_2 a0_3 a0_4 a0_5 a0_6 a0_7 l0_8 a0_9 a1 a2).bind fun t402 => (some t402)
theorem impl_SureWindows.mono : ∀ a0 a1 a2 a3 a4 a5 a6 a7 a8 a9 a10 a11 a12 a13 k, LeO (impl_SureWindows.f k a0 a1 a2 a3 a4 a5 a6 a7 a8 a9 a10 a11 a12 a13) (impl_SureWindows.f (k + 1) a0 a1 a2 a3 a4 a5 a6 a7 a8 a9 a10 a11 a12 a13) := by
 intro a0 a1 a2 a3 a4 a5 a6 a7 a8 a9 a10 a11 a12 a13 k
 unfold impl_SureWindows.f
 repeat' first | (with_reducible first | exact where_impl_SureWindows_1.mono _ _ _ _ _ _ _ _ _ _ _ _ _ _ _ | exact LeO.refl _ | exact LeO.none _ | refine LeO.ite ?_ ?_ | refine LeO.bind ?_ (fun _ => ?_)) | exact LeO.none _ | refine LeO.ite ?_ ?_ | refine LeO.bind ?_ (fun _ => ?_)
set_option maxHeartbeats 8000000 in
set_option maxRecDepth 100000 in
theorem impl_SureWindows.calls (k : Nat) (a0_0 : Int) (A0_1 : Option Addr) (c0_1 : Nat) (l0_1 : List (S105)) (A0_2 : Option Addr) (c0_2 : Nat) (l0_2 : List (S109)) (a0_3 : Int) (a0_4 : Int) (a0_5 : Int) (a0_6 : Int) (a0_7 : Int) (A0_8 : Option Addr) (c0_8 : Nat) (l0_8 : List (S115)) (a0_9 : Int) (a1 : Int) (a2 : Int) (a3 : Int) (a4 : Int) (r : List (S73)) (w : World) (hr0_1 : Kd.C k105 w A0_1 l0_1.length l0_1) (hc0_1 : l0_1.length ≤ c0_1) (hr0_2 : Kd.C k109 w A0_2 l0_2.length l0_2) (hc0_2 : l0_2.length ≤ c0_2) (hr0_8 : Kd.C k115 w A0_8 l0_8.length l0_8) (hc0_8 : l0_8.length ≤ c0_8) (h : impl_SureWindows.f k a0_0 l0_1 l0_2 a0_3 a0_4 a0_5 a0_6 a0_7 l0_8 a0_9 a1 a2 a3 a4 = some r) :
  Calls Try.prog 39 #[.agg #[.int .i64 a0_0, .slice A0_1 l0_1.length c0_1, .slice A0_2 l0_2.length c0_2, .int .i64 a0_3, .int .i64 a0_4, .int .i64 a0_5, .int .i64 a0_6, .int .i64 a0_7, .slice A0_8 l0_8.length c0_8, .int .i64 a0_9], .int .i64 a1, .int .i64 a2, .int .i64 a3, .int .i64 a4] w fun e w' => ∃ v0_ : Value, e = .returned (v0_) ∧ Kd.R k73 73 w' w.heap.size (fun _ => True) v0_ r ∧ Below w.heap.size w w' := by
 have HR0_1 := Aside0.mk hr0_1
 have HC0_1 := Aside0.mk hc0_1
 clear hr0_1 hc0_1
 have HR0_2 := Aside0.mk hr0_2
 have HC0_2 := Aside0.mk hc0_2
 clear hr0_2 hc0_2
 have HR0_8 := Aside0.mk hr0_8
 have HC0_8 := Aside0.mk hc0_8
 clear hr0_8 hc0_8
 have HB := Aside0.mk (Below.refl w.heap.size w)
 have H := h
 clear h
 unfold impl_SureWindows.f at H
 replace H := bs_ H
 obtain ⟨t402, A6, H⟩ := H
 obtain rfl := Option.some.inj H
 go_enter Try.func39, Try.ntmps39
 go_wp2_with (first | (refine bx_ 5 34 #[.int .i64 a0_0, .slice A0_1 l0_1.length c0_1, .slice A0_2 l0_2.length c0_2, .int .i64 a0_3, .int .i64 a0_4, .int .i64 a0_5, .int .i64 a0_6, .int .i64 a0_7, .slice A0_8 l0_8.length c0_8, .int .i64 a0_9] ?_; intro gx5 hg wx5 hbox hb; refine sh1_ (below_step HB.out hb) ?_; clear HB; intro HB; have BK5_ := Aside0.mk hbox; clear hb hg hbox) | (refine bx_ 6 3 #[.int .i64 a1] ?_; intro gx6 hg wx6 hbox hb; have n0_ := Aside0.mk (below_step HB.out hb); have BKn5_ := Aside0.mk (blk_below BK5_.out hb); clear BK5_; have BK5_ := BKn5_; clear BKn5_; clear HB; have HB := n0_; clear n0_; have BK6_ := Aside0.mk hbox; clear hb hg hbox) | (refine bx_ 7 3 #[.int .i64 a2] ?_; intro gx7 hg wx7 hbox hb; have n0_ := Aside0.mk (below_step HB.out hb); have BKn5_ := Aside0.mk (blk_below BK5_.out hb); clear BK5_; have BK5_ := BKn5_; clear BKn5_; have BKn6_ := Aside0.mk (blk_below BK6_.out hb); clear BK6_; have BK6_ := BKn6_; clear BKn6_; clear HB; have HB := n0_; clear n0_; have BK7_ := Aside0.mk hbox; clear hb hg hbox) | ((with_reducible refine gate_callee (f := 75) rfl ?_); refine gl_ 14 Try.func75 (where_impl_SureWindows_1.calls k a3 a4 a0_0 _ _ l0_1 _ _ l0_2 a0_3 a0_4 a0_5 a0_6 a0_7 _ _ l0_8 a0_9 a1 a2 t402 _ gx5 BK5_.out gx6 BK6_.out gx7 BK7_.out (ck_ HR0_1 HB) HC0_1.out (ck_ HR0_2 HB) HC0_2.out (ck_ HR0_8 HB) HC0_8.out A6.out) ?_; rintro e w7 ⟨v403, rfl, ho0, hb⟩; refine ⟨_, rfl, sh2_ (Kd.R_lower ho0 (below_size (bl_ HB))) (below_step (bl_ HB) hb) ?_⟩; clear HB hb ho0; intro HO404 HB))
 go_ret
 exact ⟨_, er_, ra_ HO404, bl_ HB⟩

/-! ### laws_FnExactSureWindows: function 8 -/
def laws_FnExactSureWindows.j0 : Nat → Int → Int → Int → Int → List (S73) → List (S73) → Bool → Int → List (S107) → List (S111) → Int → Int → Int → Int → Int → List (S119) → Int → Option (Bool)
 | 0, _, _, _, _, _, _, _, _, _, _, _, _, _, _, _, _, _ => none
 | k + 1, x1, x2, x3, x4, x12, x14, x58, x406000, x406001, x406002, x406003, x406004, x406005, x406006, x406007, x406008, x406009 => if x58 = true then (some false) else ((laws_markSpanS.f k x14 1).bind fun bt469 => ((laws_heldSpanS.f k bt469.2 1).bind fun t471 => (if t471 < 0 then (some false) else (if t471 = bt469.1 then ((laws_toSky.f k x406000 x406001 x406002 x406003 x406004 x406005 x406006 x406007 x406008 x406009).bind fun bt472 => ((impl_SureWindows.f k bt472.1 bt472.2.1 bt472.2.2.1 bt472.2.2.2.1 bt472.2.2.2.2.1 bt472.2.2.2.2.2.1 bt472.2.2.2.2.2.2.1 bt472.2.2.2.2.2.2.2.1 bt472.2.2.2.2.2.2.2.2.1 bt472.2.2.2.2.2.2.2.2.2 x1 x2 x3 x4).bind fun t488 => ((laws_eqSpanS.f k t488 x12).bind fun t491 => (if t491 = true then ((laws_heldSpanS.f k bt469.2 1).bind fun t492 => (if t492 < 0 then (some false) else (if t492 = bt469.1 then (some true) else (some false)))) else (some false))))) else (some false)))))
def laws_FnExactSureWindows.f (k : Nat) (a0_0 : Int) (l0_1 : List (S107)) (l0_2 : List (S111)) (a0_3 : Int) (a0_4 : Int) (a0_5 : Int) (a0_6 : Int) (a0_7 : Int) (l0_8 : List (S119)) (a0_9 : Int) (a1 : Int) (a2 : Int) (a3 : Int) (a4 : Int) : Option (Bool) := (laws_szSky.f a0_0 l0_1 l0_2 a0_3 a0_4 a0_5 a0_6 a0_7 l0_8 a0_9 1048576).bind fun t406 => (if t406 < 0 then (some true) else ((laws_toSky.f k a0_0 l0_1 l0_2 a0_3 a0_4 a0_5 a0_6 a0_7 l0_8 a0_9).bind fun bt407 => ((spec_SureWindows.f k bt407.1 bt407.2.1 bt407.2.2.1 bt407.2.2.2.1 bt407.2.2.2.2.1 bt407.2.2.2.2.2.1 bt407.2.2.2.2.2.2.1 bt407.2.2.2.2.2.2.2.1 bt407.2.2.2.2.2.2.2.2.1 bt407.2.2.2.2.2.2.2.2.2 a1 a2 a3 a4).bind fun t423 => ((laws_toSky.f k a0_0 l0_1 l0_2 a0_3 a0_4 a0_5 a0_6 a0_7 l0_8 a0_9).bind fun bt426 => ((impl_SureWindows.f k bt426.1 bt426.2.1 bt426.2.2.1 bt426.2.2.2.1 bt426.2.2.2.2.1 bt426.2.2.2.2.2.1 bt426.2.2.2.2.2.2.1 bt426.2.2.2.2.2.2.2.1 bt426.2.2.2.2.2.2.2.2.1 bt426.2.2.2.2.2.2.2.2.2 a1 a2 a3 a4).bind fun t443 => ((laws_eqSpanS.f k t443 t423).bind fun t446 => (if t446 = true then ((laws_toSky.f k a0_0 l0_1 l0_2 a0_3 a0_4 a0_5 a0_6 a0_7 l0_8 a0_9).bind fun bt447 => ((laws_eqSky.f k bt426.1 bt426.2.1 bt426.2.2.1 bt426.2.2.2.1 bt426.2.2.2.2.1 bt426.2.2.2.2.2.1 bt426.2.2.2.2.2.2.1 bt426.2.2.2.2.2.2.2.1 bt426.2.2.2.2.2.2.2.2.1 bt426.2.2.2.2.2.2.2.2.2 bt447.1 bt447.2.1 bt447.2.2.1 bt447.2.2.2.1 bt447.2.2.2.2.1 bt447.2.2.2.2.2.1 bt447.2.2.2.2.2.2.1 bt447.2.2.2.2.2.2.2.1 bt447.2.2.2.2.2.2.2.2.1 bt447.2.2.2.2.2.2.2.2.2).bind fun t463 => (if t463 = true then ((laws_markSky.f k bt426.1 bt426.2.1 bt426.2.2.1 bt426.2.2.2.1 bt426.2.2.2.2.1 bt426.2.2.2.2.2.1 bt426.2.2.2.2.2.2.1 bt426.2.2.2.2.2.2.2.1 bt426.2.2.2.2.2.2.2.2.1 bt426.2.2.2.2.2.2.2.2.2 1).bind fun bt464 => (if bt464.1 < 0 then (laws_FnExactSureWindows.j0 k a1 a2 a3 a4 t423 t443 true a0_0 l0_1 l0_2 a0_3 a0_4 a0_5 a0_6 a0_7 l0_8 a0_9) else ((laws_eqSpanS.f k t443 t423).bind fun t468 => (laws_FnExactSureWindows.j0 k a1 a2 a3 a4 t423 t443 (!t468) a0_0 l0_1 l0_2 a0_3 a0_4 a0_5 a0_6 a0_7 l0_8 a0_9)))) else (some false)))) else (some false))))))))
theorem laws_FnExactSureWindows.mono_l : ∀ k, (∀ y0 y1 y2 y3 y4 y5 y6 y7 y8 y9 y10 y11 y12 y13 y14 y15 y16, LeO (laws_FnExactSureWindows.j0 k y0 y1 y2 y3 y4 y5 y6 y7 y8 y9 y10 y11 y12 y13 y14 y15 y16) (laws_FnExactSureWindows.j0 (k + 1) y0 y1 y2 y3 y4 y5 y6 y7 y8 y9 y10 y11 y12 y13 y14 y15 y16))
 | 0 => fun _ _ _ _ _ _ _ _ _ _ _ _ _ _ _ _ _ r h => by simp [laws_FnExactSureWindows.j0] at h
 | k + 1 => by
  have ih0 := laws_FnExactSureWindows.mono_l k
  ·intro y0 y1 y2 y3 y4 y5 y6 y7 y8 y9 y10 y11 y12 y13 y14 y15 y16
   unfold laws_FnExactSureWindows.j0
   repeat' first | (with_reducible first | exact ih0 _ _ _ _ _ _ _ _ _ _ _ _ _ _ _ _ _ | exact impl_SureWindows.mono _ _ _ _ _ _ _ _ _ _ _ _ _ _ _ | exact laws_eqSky.mono _ _ _ _ _ _ _ _ _ _ _ _ _ _ _ _ _ _ _ _ _ | exact laws_eqSpanS.mono _ _ _ | exact laws_heldSpanS.mono _ _ _ | exact laws_markSky.mono _ _ _ _ _ _ _ _ _ _ _ _ | exact laws_markSpanS.mono _ _ _ | exact laws_toSky.mono _ _ _ _ _ _ _ _ _ _ _ | exact spec_SureWindows.mono _ _ _ _ _ _ _ _ _ _ _ _ _ _ _ | exact LeO.refl _ | exact LeO.none _ | refine LeO.ite ?_ ?_ | refine LeO.bind ?_ (fun _ => ?_)) | exact LeO.none _ | refine LeO.ite ?_ ?_ | refine LeO.bind ?_ (fun _ => ?_)
theorem laws_FnExactSureWindows.mono : ∀ a0 a1 a2 a3 a4 a5 a6 a7 a8 a9 a10 a11 a12 a13 k, LeO (laws_FnExactSureWindows.f k a0 a1 a2 a3 a4 a5 a6 a7 a8 a9 a10 a11 a12 a13) (laws_FnExactSureWindows.f (k + 1) a0 a1 a2 a3 a4 a5 a6 a7 a8 a9 a10 a11 a12 a13) := by
 intro a0 a1 a2 a3 a4 a5 a6 a7 a8 a9 a10 a11 a12 a13 k
 have ih0 := laws_FnExactSureWindows.mono_l k
 unfold laws_FnExactSureWindows.f
 repeat' first | (with_reducible first | exact ih0 _ _ _ _ _ _ _ _ _ _ _ _ _ _ _ _ _ | exact impl_SureWindows.mono _ _ _ _ _ _ _ _ _ _ _ _ _ _ _ | exact laws_eqSky.mono _ _ _ _ _ _ _ _ _ _ _ _ _ _ _ _ _ _ _ _ _ | exact laws_eqSpanS.mono _ _ _ | exact laws_heldSpanS.mono _ _ _ | exact laws_markSky.mono _ _ _ _ _ _ _ _ _ _ _ _ | exact laws_markSpanS.mono _ _ _ | exact laws_toSky.mono _ _ _ _ _ _ _ _ _ _ _ | exact spec_SureWindows.mono _ _ _ _ _ _ _ _ _ _ _ _ _ _ _ | exact LeO.refl _ | exact LeO.none _ | refine LeO.ite ?_ ?_ | refine LeO.bind ?_ (fun _ => ?_)) | exact LeO.none _ | refine LeO.ite ?_ ?_ | refine LeO.bind ?_ (fun _ => ?_)
set_option maxHeartbeats 8000000 in
set_option maxRecDepth 100000 in
theorem laws_FnExactSureWindows.calls (k : Nat) (a0_0 : Int) (A0_1 : Option Addr) (c0_1 : Nat) (l0_1 : List (S107)) (A0_2 : Option Addr) (c0_2 : Nat) (l0_2 : List (S111)) (a0_3 : Int) (a0_4 : Int) (a0_5 : Int) (a0_6 : Int) (a0_7 : Int) (A0_8 : Option Addr) (c0_8 : Nat) (l0_8 : List (S119)) (a0_9 : Int) (a1 : Int) (a2 : Int) (a3 : Int) (a4 : Int) (r : Bool) (w : World) (hr0_1 : Kd.C k107 w A0_1 l0_1.length l0_1) (hc0_1 : l0_1.length ≤ c0_1) (hr0_2 : Kd.C k111 w A0_2 l0_2.length l0_2) (hc0_2 : l0_2.length ≤ c0_2) (hr0_8 : Kd.C k119 w A0_8 l0_8.length l0_8) (hc0_8 : l0_8.length ≤ c0_8) (h : laws_FnExactSureWindows.f k a0_0 l0_1 l0_2 a0_3 a0_4 a0_5 a0_6 a0_7 l0_8 a0_9 a1 a2 a3 a4 = some r) (hT_ : r = true := by rfl) :
  Calls Try.prog 8 #[.agg #[.int .i64 a0_0, .slice A0_1 l0_1.length c0_1, .slice A0_2 l0_2.length c0_2, .int .i64 a0_3, .int .i64 a0_4, .int .i64 a0_5, .int .i64 a0_6, .int .i64 a0_7, .slice A0_8 l0_8.length c0_8, .int .i64 a0_9], .int .i64 a1, .int .i64 a2, .int .i64 a3, .int .i64 a4] w fun e w' => e = .returned (.bool r) ∧ Below w.heap.size w w' := by
 have hu26 := Try.underlying26
 have hu34 := Try.underlying34
 have HR0_1 := Aside0.mk hr0_1
 have HC0_1 := Aside0.mk hc0_1
 clear hr0_1 hc0_1
 have HR0_2 := Aside0.mk hr0_2
 have HC0_2 := Aside0.mk hc0_2
 clear hr0_2 hc0_2
 have HR0_8 := Aside0.mk hr0_8
 have HC0_8 := Aside0.mk hc0_8
 clear hr0_8 hc0_8
 have HB := Aside0.mk (Below.refl w.heap.size w)
 subst hT_
 have H := h
 clear h
 unfold laws_FnExactSureWindows.f at H
 replace H := bs_ H
 obtain ⟨t406, A6, H⟩ := H
 by_cases c7 : t406 < 0
 ·rw [if_pos c7] at H
  have c7b0 := decide_eq_true c7
  clear c7
  clear H
  go_enter Try.func8, Try.ntmps8
  go_wp2_with (first | (refine bx_ 5 26 #[.int .i64 a0_0, .slice A0_1 l0_1.length c0_1, .slice A0_2 l0_2.length c0_2, .int .i64 a0_3, .int .i64 a0_4, .int .i64 a0_5, .int .i64 a0_6, .int .i64 a0_7, .slice A0_8 l0_8.length c0_8, .int .i64 a0_9] ?_; intro gb405 hg w8 hbox hb; refine sh4_ (below_step (bl_ HB) hb) hbox (ge_ hg (bl_ HB)) (ge_ hg (bl_ HB)) ?_; clear HB hb hbox hg; intro HB BK405 GW405 GE405; have hcz9 := cf10_ BK405) | ((with_reducible refine gate_callee (f := 9) rfl ?_); refine gl_ 21 Try.func9 (laws_szSky.calls a0_0 _ _ l0_1 _ _ l0_2 a0_3 a0_4 a0_5 a0_6 a0_7 _ _ l0_8 a0_9 1048576 t406 _ (ck_ HR0_1 HB) HC0_1.out (ck_ HR0_2 HB) HC0_2.out (ck_ HR0_8 HB) HC0_8.out A6.out) ?_; rintro e w10 ⟨rfl, hb⟩; refine ⟨_, rfl, sh2_ (blk_below (bk_ BK405) hb) (below_step (bl1_ HB GE405) hb) ?_⟩; clear BK405 HB hb; intro BK405 HB))
  go_ret
  exact ⟨er_, bl1_ HB GE405⟩
 ·rw [if_neg c7] at H
  have c7b0 := decide_eq_false c7
  clear c7
  replace H := bs_ H
  obtain ⟨⟨t407, t408, t411, t414, t415, t416, t417, t418, t419, t422⟩, A11, H⟩ := H
  dsimp only at H
  replace H := bs_ H
  obtain ⟨t423, A12, H⟩ := H
  replace H := bs_ H
  obtain ⟨⟨t426, t427, t430, t433, t434, t435, t436, t437, t438, t441⟩, A13, H⟩ := H
  dsimp only at H
  replace H := bs_ H
  obtain ⟨t443, A14, H⟩ := H
  replace H := bs_ H
  obtain ⟨t446, A15, H⟩ := H
  by_cases c16 : t446 = true
  ·subst c16
   try rw [if_pos rfl] at H
   replace H := bs_ H
   obtain ⟨⟨t447, t448, t451, t454, t455, t456, t457, t458, t459, t462⟩, A17, H⟩ := H
   dsimp only at H
   replace H := bs_ H
   obtain ⟨t463, A18, H⟩ := H
   by_cases c19 : t463 = true
   ·subst c19
    try rw [if_pos rfl] at H
    replace H := bs_ H
    obtain ⟨⟨t464, t465, t466, t467⟩, A20, H⟩ := H
    dsimp only at H
    have HC21 := Aside0.mk H
    clear H
    go_enter Try.func8, Try.ntmps8
    try go_wp2_with (first | (refine bx_ 5 26 #[.int .i64 a0_0, .slice A0_1 l0_1.length c0_1, .slice A0_2 l0_2.length c0_2, .int .i64 a0_3, .int .i64 a0_4, .int .i64 a0_5, .int .i64 a0_6, .int .i64 a0_7, .slice A0_8 l0_8.length c0_8, .int .i64 a0_9] ?_; intro gb405 hg w22 hbox hb; refine sh4_ (below_step (bl_ HB) hb) hbox (ge_ hg (bl_ HB)) (ge_ hg (bl_ HB)) ?_; clear HB hb hbox hg; intro HB BK405 GW405 GE405; have hcz23 := cf10_ BK405) | ((with_reducible refine gate_callee (f := 9) rfl ?_); refine gl_ 21 Try.func9 (laws_szSky.calls a0_0 _ _ l0_1 _ _ l0_2 a0_3 a0_4 a0_5 a0_6 a0_7 _ _ l0_8 a0_9 1048576 t406 _ (ck_ HR0_1 HB) HC0_1.out (ck_ HR0_2 HB) HC0_2.out (ck_ HR0_8 HB) HC0_8.out A6.out) ?_; rintro e w24 ⟨rfl, hb⟩; refine ⟨_, rfl, sh2_ (blk_below (bk_ BK405) hb) (below_step (bl1_ HB GE405) hb) ?_⟩; clear BK405 HB hb; intro BK405 HB; have hcz25 := cf10_ BK405) | ((with_reducible refine gate_callee (f := 11) rfl ?_); refine gl_ 25 Try.func11 (laws_toSky.calls k a0_0 _ _ l0_1 _ _ l0_2 a0_3 a0_4 a0_5 a0_6 a0_7 _ _ l0_8 a0_9 t407 t408 t411 t414 t415 t416 t417 t418 t419 t422 _ (ck_ HR0_1 HB) HC0_1.out (ck_ HR0_2 HB) HC0_2.out (ck_ HR0_8 HB) HC0_8.out A11.out) ?_; rintro e w26 ⟨v409, v412, v420, rfl, ho0, ho1, ho2, hb⟩; refine ⟨_, rfl, sh5_ (Kd.R_lower ho0 (below_size (bl1_ HB GE405))) (Kd.R_lower ho1 (below_size (bl1_ HB GE405))) (Kd.R_lower ho2 (below_size (bl1_ HB GE405))) (blk_below (bk_ BK405) hb) (below_step (bl1_ HB GE405) hb) ?_⟩; clear BK405 HB hb ho0 ho1 ho2; intro HO410 HO413 HO421 BK405 HB; obtain ⟨Ao27, co27, eo27⟩ := Kd.R_slice HO410.out; subst eo27; obtain ⟨Ao28, co28, eo28⟩ := Kd.R_slice HO413.out; subst eo28; obtain ⟨Ao29, co29, eo29⟩ := Kd.R_slice HO421.out; subst eo29) | ((with_reducible refine gate_callee (f := 38) rfl ?_); refine gl_ 30 Try.func38 (spec_SureWindows.calls k t407 _ _ t408 _ _ t411 t414 t415 t416 t417 t418 _ _ t419 t422 a1 a2 a3 a4 t423 _ (cr_ HO410) (rl_ HO410) (cr_ HO413) (rl_ HO413) (cr_ HO421) (rl_ HO421) A12.out) ?_; rintro e w30 ⟨v424, rfl, ho0, hb⟩; refine ⟨_, rfl, sh6_ (Kd.R_below (ra_ HO410) hb) (Kd.R_below (ra_ HO413) hb) (Kd.R_below (ra_ HO421) hb) (Kd.R_lower ho0 (below_size (bl1_ HB GE405))) (blk_below (bk_ BK405) hb) (below_step (bl1_ HB GE405) hb) ?_⟩; clear HO410 HO413 HO421 BK405 HB hb ho0; intro HO410 HO413 HO421 HO425 BK405 HB; have hcz31 := cf10_ BK405) | ((with_reducible refine gate_callee (f := 11) rfl ?_); refine gl_ 32 Try.func11 (laws_toSky.calls k a0_0 _ _ l0_1 _ _ l0_2 a0_3 a0_4 a0_5 a0_6 a0_7 _ _ l0_8 a0_9 t426 t427 t430 t433 t434 t435 t436 t437 t438 t441 _ (ck_ HR0_1 HB) HC0_1.out (ck_ HR0_2 HB) HC0_2.out (ck_ HR0_8 HB) HC0_8.out A13.out) ?_; rintro e w32 ⟨v428, v431, v439, rfl, ho0, ho1, ho2, hb⟩; refine ⟨_, rfl, sh9_ (Kd.R_elder' (ra_ HO410) (Kd.R_base ho0) hb) (Kd.R_elder' (ra_ HO413) (Kd.R_base ho1) hb) (Kd.R_elder' (ra_ HO421) (Kd.R_base ho2) hb) (Kd.R_below (ra_ HO425) hb) (Kd.R_lower (Kd.R_new' ho0 (Kd.R_lt (ra_ HO410))) (below_size (bl1_ HB GE405))) (Kd.R_lower (Kd.R_new' ho1 (Kd.R_lt (ra_ HO413))) (below_size (bl1_ HB GE405))) (Kd.R_lower (Kd.R_new' ho2 (Kd.R_lt (ra_ HO421))) (below_size (bl1_ HB GE405))) (blk_below (bk_ BK405) hb) (below_step (bl1_ HB GE405) hb) ?_⟩; clear HO410 HO413 HO421 HO425 BK405 HB hb ho0 ho1 ho2; intro HO410 HO413 HO421 HO425 HO429 HO432 HO440 BK405 HB) | (refine bx_ 13 34 #[.int .i64 0, .slice none 0 0, .slice none 0 0, .int .i64 0, .int .i64 0, .int .i64 0, .int .i64 0, .int .i64 0, .slice none 0 0, .int .i64 0] ?_; intro gb442 hg w33 hbox hb; refine sh14_ (Kd.R_below (ra_ HO410) hb) (Kd.R_below (ra_ HO413) hb) (Kd.R_below (ra_ HO421) hb) (Kd.R_below (ra_ HO425) hb) (Kd.R_below (ra_ HO429) hb) (Kd.R_below (ra_ HO432) hb) (Kd.R_below (ra_ HO440) hb) (blk_below (bk_ BK405) hb) (below_step (bl1_ HB GE405) hb) hbox (ge_ hg (bl1_ HB GE405)) (ge_ hg (bl1_ HB GE405)) (nl_ hg (bk_ BK405)) (ng_ hg (bk_ BK405)) ?_; clear HO410 HO413 HO421 HO425 HO429 HO432 HO440 BK405 HB hb hbox hg; intro HO410 HO413 HO421 HO425 HO429 HO432 HO440 BK405 HB BK442 GW442 GE442 NB405_442 NB442_405; have hnb34 := NB442_405.out; have hnc34 := NB405_442.out; have hcz35 := cf10_ BK442; obtain ⟨Ao36, co36, eo36⟩ := Kd.R_slice HO429.out; subst eo36; obtain ⟨Ao37, co37, eo37⟩ := Kd.R_slice HO432.out; subst eo37; obtain ⟨Ao38, co38, eo38⟩ := Kd.R_slice HO440.out; subst eo38) | ((with_reducible refine gate_callee (f := 39) rfl ?_); refine goesL_ (some 38) rfl rfl Try.func39 (by kernel_rfl) rfl #[.agg #[.int .i64 t426, .slice Ao36 t427.length co36, .slice Ao37 t430.length co37, .int .i64 t433, .int .i64 t434, .int .i64 t435, .int .i64 t436, .int .i64 t437, .slice Ao38 t438.length co38, .int .i64 t441], .int .i64 a1, .int .i64 a2, .int .i64 a3, .int .i64 a4] rfl mp_ ?_; (with_reducible refine (impl_SureWindows.calls k t426 _ _ t427 _ _ t430 t433 t434 t435 t436 t437 _ _ t438 t441 a1 a2 a3 a4 t443 _ ?side1 ?side2 ?side3 ?side4 ?side5 ?side6 A14.out).mono ?_); (case side1 => refine (Kd.R_reads' (e := 105) (base := w.heap.size) (ok := fun k_ => (True ∧ some k_ ≠ (.slice Ao27 t408.length co27 : Value).ownBlock)) (n := t427.length) (c := co36) ?_).2.2; exact (by (with_reducible repeat (first | apply Kd.R_alloc | apply Kd.R_drewN | apply Kd.R_drew)); exact (Kd.R_mono (Kd.R_far (p := ⟨gb442, 9, none⟩) (Kd.R_far (p := ⟨gb442, 8, none⟩) (Kd.R_far (p := ⟨gb442, 7, none⟩) (Kd.R_far (p := ⟨gb442, 6, none⟩) (Kd.R_far (p := ⟨gb442, 5, none⟩) (Kd.R_far (p := ⟨gb442, 4, none⟩) (Kd.R_far (p := ⟨gb442, 3, none⟩) (Kd.R_far (p := ⟨gb442, 2, none⟩) (Kd.R_far (p := ⟨gb442, 1, none⟩) (Kd.R_far (p := ⟨gb442, 0, none⟩) (Kd.R_types HO429.out BK442.out (by decide)) (fun _ hk => hk.2) (.int .i64 t426)) (fun _ hk => hk.2) (.slice Ao36 t427.length co36)) (fun _ hk => hk.2) (.slice Ao37 t430.length co37)) (fun _ hk => hk.2) (.int .i64 t433)) (fun _ hk => hk.2) (.int .i64 t434)) (fun _ hk => hk.2) (.int .i64 t435)) (fun _ hk => hk.2) (.int .i64 t436)) (fun _ hk => hk.2) (.int .i64 t437)) (fun _ hk => hk.2) (.slice Ao38 t438.length co38)) (fun _ hk => hk.2) (.int .i64 t441)) (fun _ h_ => h_.1)))); (case side2 => exact (Kd.R_reads' HO429.out).2.1); (case side3 => refine (Kd.R_reads' (e := 109) (base := w.heap.size) (ok := fun k_ => (True ∧ some k_ ≠ (.slice Ao28 t411.length co28 : Value).ownBlock)) (n := t430.length) (c := co37) ?_).2.2; exact (by (with_reducible repeat (first | apply Kd.R_alloc | apply Kd.R_drewN | apply Kd.R_drew)); exact (Kd.R_mono (Kd.R_far (p := ⟨gb442, 9, none⟩) (Kd.R_far (p := ⟨gb442, 8, none⟩) (Kd.R_far (p := ⟨gb442, 7, none⟩) (Kd.R_far (p := ⟨gb442, 6, none⟩) (Kd.R_far (p := ⟨gb442, 5, none⟩) (Kd.R_far (p := ⟨gb442, 4, none⟩) (Kd.R_far (p := ⟨gb442, 3, none⟩) (Kd.R_far (p := ⟨gb442, 2, none⟩) (Kd.R_far (p := ⟨gb442, 1, none⟩) (Kd.R_far (p := ⟨gb442, 0, none⟩) (Kd.R_types HO432.out BK442.out (by decide)) (fun _ hk => hk.2) (.int .i64 t426)) (fun _ hk => hk.2) (.slice Ao36 t427.length co36)) (fun _ hk => hk.2) (.slice Ao37 t430.length co37)) (fun _ hk => hk.2) (.int .i64 t433)) (fun _ hk => hk.2) (.int .i64 t434)) (fun _ hk => hk.2) (.int .i64 t435)) (fun _ hk => hk.2) (.int .i64 t436)) (fun _ hk => hk.2) (.int .i64 t437)) (fun _ hk => hk.2) (.slice Ao38 t438.length co38)) (fun _ hk => hk.2) (.int .i64 t441)) (fun _ h_ => h_.1)))); (case side4 => exact (Kd.R_reads' HO432.out).2.1); (case side5 => refine (Kd.R_reads' (e := 115) (base := w.heap.size) (ok := fun k_ => (True ∧ some k_ ≠ (.slice Ao29 t419.length co29 : Value).ownBlock)) (n := t438.length) (c := co38) ?_).2.2; exact (by (with_reducible repeat (first | apply Kd.R_alloc | apply Kd.R_drewN | apply Kd.R_drew)); exact (Kd.R_mono (Kd.R_far (p := ⟨gb442, 9, none⟩) (Kd.R_far (p := ⟨gb442, 8, none⟩) (Kd.R_far (p := ⟨gb442, 7, none⟩) (Kd.R_far (p := ⟨gb442, 6, none⟩) (Kd.R_far (p := ⟨gb442, 5, none⟩) (Kd.R_far (p := ⟨gb442, 4, none⟩) (Kd.R_far (p := ⟨gb442, 3, none⟩) (Kd.R_far (p := ⟨gb442, 2, none⟩) (Kd.R_far (p := ⟨gb442, 1, none⟩) (Kd.R_far (p := ⟨gb442, 0, none⟩) (Kd.R_types HO440.out BK442.out (by decide)) (fun _ hk => hk.2) (.int .i64 t426)) (fun _ hk => hk.2) (.slice Ao36 t427.length co36)) (fun _ hk => hk.2) (.slice Ao37 t430.length co37)) (fun _ hk => hk.2) (.int .i64 t433)) (fun _ hk => hk.2) (.int .i64 t434)) (fun _ hk => hk.2) (.int .i64 t435)) (fun _ hk => hk.2) (.int .i64 t436)) (fun _ hk => hk.2) (.int .i64 t437)) (fun _ hk => hk.2) (.slice Ao38 t438.length co38)) (fun _ hk => hk.2) (.int .i64 t441)) (fun _ h_ => h_.1)))); (case side6 => exact (Kd.R_reads' HO440.out).2.1); rintro e w39 ⟨v444, rfl, ho0, hb⟩; refine ⟨_, rfl, sh11_ (Kd.R_below (by (with_reducible repeat (first | apply Kd.R_alloc | apply Kd.R_drewN | apply Kd.R_drew)); exact (Kd.R_mono (Kd.R_far (p := ⟨gb442, 9, none⟩) (Kd.R_far (p := ⟨gb442, 8, none⟩) (Kd.R_far (p := ⟨gb442, 7, none⟩) (Kd.R_far (p := ⟨gb442, 6, none⟩) (Kd.R_far (p := ⟨gb442, 5, none⟩) (Kd.R_far (p := ⟨gb442, 4, none⟩) (Kd.R_far (p := ⟨gb442, 3, none⟩) (Kd.R_far (p := ⟨gb442, 2, none⟩) (Kd.R_far (p := ⟨gb442, 1, none⟩) (Kd.R_far (p := ⟨gb442, 0, none⟩) (Kd.R_types HO410.out BK442.out (by decide)) (fun _ hk => hk.2) (.int .i64 t426)) (fun _ hk => hk.2) (.slice Ao36 t427.length co36)) (fun _ hk => hk.2) (.slice Ao37 t430.length co37)) (fun _ hk => hk.2) (.int .i64 t433)) (fun _ hk => hk.2) (.int .i64 t434)) (fun _ hk => hk.2) (.int .i64 t435)) (fun _ hk => hk.2) (.int .i64 t436)) (fun _ hk => hk.2) (.int .i64 t437)) (fun _ hk => hk.2) (.slice Ao38 t438.length co38)) (fun _ hk => hk.2) (.int .i64 t441)) (fun _ h_ => h_.1))) hb) (Kd.R_below (by (with_reducible repeat (first | apply Kd.R_alloc | apply Kd.R_drewN | apply Kd.R_drew)); exact (Kd.R_mono (Kd.R_far (p := ⟨gb442, 9, none⟩) (Kd.R_far (p := ⟨gb442, 8, none⟩) (Kd.R_far (p := ⟨gb442, 7, none⟩) (Kd.R_far (p := ⟨gb442, 6, none⟩) (Kd.R_far (p := ⟨gb442, 5, none⟩) (Kd.R_far (p := ⟨gb442, 4, none⟩) (Kd.R_far (p := ⟨gb442, 3, none⟩) (Kd.R_far (p := ⟨gb442, 2, none⟩) (Kd.R_far (p := ⟨gb442, 1, none⟩) (Kd.R_far (p := ⟨gb442, 0, none⟩) (Kd.R_types HO413.out BK442.out (by decide)) (fun _ hk => hk.2) (.int .i64 t426)) (fun _ hk => hk.2) (.slice Ao36 t427.length co36)) (fun _ hk => hk.2) (.slice Ao37 t430.length co37)) (fun _ hk => hk.2) (.int .i64 t433)) (fun _ hk => hk.2) (.int .i64 t434)) (fun _ hk => hk.2) (.int .i64 t435)) (fun _ hk => hk.2) (.int .i64 t436)) (fun _ hk => hk.2) (.int .i64 t437)) (fun _ hk => hk.2) (.slice Ao38 t438.length co38)) (fun _ hk => hk.2) (.int .i64 t441)) (fun _ h_ => h_.1))) hb) (Kd.R_below (by (with_reducible repeat (first | apply Kd.R_alloc | apply Kd.R_drewN | apply Kd.R_drew)); exact (Kd.R_mono (Kd.R_far (p := ⟨gb442, 9, none⟩) (Kd.R_far (p := ⟨gb442, 8, none⟩) (Kd.R_far (p := ⟨gb442, 7, none⟩) (Kd.R_far (p := ⟨gb442, 6, none⟩) (Kd.R_far (p := ⟨gb442, 5, none⟩) (Kd.R_far (p := ⟨gb442, 4, none⟩) (Kd.R_far (p := ⟨gb442, 3, none⟩) (Kd.R_far (p := ⟨gb442, 2, none⟩) (Kd.R_far (p := ⟨gb442, 1, none⟩) (Kd.R_far (p := ⟨gb442, 0, none⟩) (Kd.R_types HO421.out BK442.out (by decide)) (fun _ hk => hk.2) (.int .i64 t426)) (fun _ hk => hk.2) (.slice Ao36 t427.length co36)) (fun _ hk => hk.2) (.slice Ao37 t430.length co37)) (fun _ hk => hk.2) (.int .i64 t433)) (fun _ hk => hk.2) (.int .i64 t434)) (fun _ hk => hk.2) (.int .i64 t435)) (fun _ hk => hk.2) (.int .i64 t436)) (fun _ hk => hk.2) (.int .i64 t437)) (fun _ hk => hk.2) (.slice Ao38 t438.length co38)) (fun _ hk => hk.2) (.int .i64 t441)) (fun _ h_ => h_.1))) hb) (Kd.R_elder' (by (with_reducible repeat (first | apply Kd.R_alloc | apply Kd.R_drewN | apply Kd.R_drew)); exact (Kd.R_mono (Kd.R_far (p := ⟨gb442, 9, none⟩) (Kd.R_far (p := ⟨gb442, 8, none⟩) (Kd.R_far (p := ⟨gb442, 7, none⟩) (Kd.R_far (p := ⟨gb442, 6, none⟩) (Kd.R_far (p := ⟨gb442, 5, none⟩) (Kd.R_far (p := ⟨gb442, 4, none⟩) (Kd.R_far (p := ⟨gb442, 3, none⟩) (Kd.R_far (p := ⟨gb442, 2, none⟩) (Kd.R_far (p := ⟨gb442, 1, none⟩) (Kd.R_far (p := ⟨gb442, 0, none⟩) (Kd.R_types HO425.out BK442.out (by decide)) (fun _ hk => hk.2) (.int .i64 t426)) (fun _ hk => hk.2) (.slice Ao36 t427.length co36)) (fun _ hk => hk.2) (.slice Ao37 t430.length co37)) (fun _ hk => hk.2) (.int .i64 t433)) (fun _ hk => hk.2) (.int .i64 t434)) (fun _ hk => hk.2) (.int .i64 t435)) (fun _ hk => hk.2) (.int .i64 t436)) (fun _ hk => hk.2) (.int .i64 t437)) (fun _ hk => hk.2) (.slice Ao38 t438.length co38)) (fun _ hk => hk.2) (.int .i64 t441)) (fun _ h_ => h_.1))) (Kd.R_base ho0) hb) (Kd.R_below (by (with_reducible repeat (first | apply Kd.R_alloc | apply Kd.R_drewN | apply Kd.R_drew)); exact (Kd.R_mono (Kd.R_far (p := ⟨gb442, 9, none⟩) (Kd.R_far (p := ⟨gb442, 8, none⟩) (Kd.R_far (p := ⟨gb442, 7, none⟩) (Kd.R_far (p := ⟨gb442, 6, none⟩) (Kd.R_far (p := ⟨gb442, 5, none⟩) (Kd.R_far (p := ⟨gb442, 4, none⟩) (Kd.R_far (p := ⟨gb442, 3, none⟩) (Kd.R_far (p := ⟨gb442, 2, none⟩) (Kd.R_far (p := ⟨gb442, 1, none⟩) (Kd.R_far (p := ⟨gb442, 0, none⟩) (Kd.R_types HO429.out BK442.out (by decide)) (fun _ hk => hk.2) (.int .i64 t426)) (fun _ hk => hk.2) (.slice Ao36 t427.length co36)) (fun _ hk => hk.2) (.slice Ao37 t430.length co37)) (fun _ hk => hk.2) (.int .i64 t433)) (fun _ hk => hk.2) (.int .i64 t434)) (fun _ hk => hk.2) (.int .i64 t435)) (fun _ hk => hk.2) (.int .i64 t436)) (fun _ hk => hk.2) (.int .i64 t437)) (fun _ hk => hk.2) (.slice Ao38 t438.length co38)) (fun _ hk => hk.2) (.int .i64 t441)) (fun _ h_ => h_.1))) hb) (Kd.R_below (by (with_reducible repeat (first | apply Kd.R_alloc | apply Kd.R_drewN | apply Kd.R_drew)); exact (Kd.R_mono (Kd.R_far (p := ⟨gb442, 9, none⟩) (Kd.R_far (p := ⟨gb442, 8, none⟩) (Kd.R_far (p := ⟨gb442, 7, none⟩) (Kd.R_far (p := ⟨gb442, 6, none⟩) (Kd.R_far (p := ⟨gb442, 5, none⟩) (Kd.R_far (p := ⟨gb442, 4, none⟩) (Kd.R_far (p := ⟨gb442, 3, none⟩) (Kd.R_far (p := ⟨gb442, 2, none⟩) (Kd.R_far (p := ⟨gb442, 1, none⟩) (Kd.R_far (p := ⟨gb442, 0, none⟩) (Kd.R_types HO432.out BK442.out (by decide)) (fun _ hk => hk.2) (.int .i64 t426)) (fun _ hk => hk.2) (.slice Ao36 t427.length co36)) (fun _ hk => hk.2) (.slice Ao37 t430.length co37)) (fun _ hk => hk.2) (.int .i64 t433)) (fun _ hk => hk.2) (.int .i64 t434)) (fun _ hk => hk.2) (.int .i64 t435)) (fun _ hk => hk.2) (.int .i64 t436)) (fun _ hk => hk.2) (.int .i64 t437)) (fun _ hk => hk.2) (.slice Ao38 t438.length co38)) (fun _ hk => hk.2) (.int .i64 t441)) (fun _ h_ => h_.1))) hb) (Kd.R_below (by (with_reducible repeat (first | apply Kd.R_alloc | apply Kd.R_drewN | apply Kd.R_drew)); exact (Kd.R_mono (Kd.R_far (p := ⟨gb442, 9, none⟩) (Kd.R_far (p := ⟨gb442, 8, none⟩) (Kd.R_far (p := ⟨gb442, 7, none⟩) (Kd.R_far (p := ⟨gb442, 6, none⟩) (Kd.R_far (p := ⟨gb442, 5, none⟩) (Kd.R_far (p := ⟨gb442, 4, none⟩) (Kd.R_far (p := ⟨gb442, 3, none⟩) (Kd.R_far (p := ⟨gb442, 2, none⟩) (Kd.R_far (p := ⟨gb442, 1, none⟩) (Kd.R_far (p := ⟨gb442, 0, none⟩) (Kd.R_types HO440.out BK442.out (by decide)) (fun _ hk => hk.2) (.int .i64 t426)) (fun _ hk => hk.2) (.slice Ao36 t427.length co36)) (fun _ hk => hk.2) (.slice Ao37 t430.length co37)) (fun _ hk => hk.2) (.int .i64 t433)) (fun _ hk => hk.2) (.int .i64 t434)) (fun _ hk => hk.2) (.int .i64 t435)) (fun _ hk => hk.2) (.int .i64 t436)) (fun _ hk => hk.2) (.int .i64 t437)) (fun _ hk => hk.2) (.slice Ao38 t438.length co38)) (fun _ hk => hk.2) (.int .i64 t441)) (fun _ h_ => h_.1))) hb) (Kd.R_lower (Kd.R_new' ho0 (Kd.R_lt (by (with_reducible repeat (first | apply Kd.R_alloc | apply Kd.R_drewN | apply Kd.R_drew)); exact (Kd.R_mono (Kd.R_far (p := ⟨gb442, 9, none⟩) (Kd.R_far (p := ⟨gb442, 8, none⟩) (Kd.R_far (p := ⟨gb442, 7, none⟩) (Kd.R_far (p := ⟨gb442, 6, none⟩) (Kd.R_far (p := ⟨gb442, 5, none⟩) (Kd.R_far (p := ⟨gb442, 4, none⟩) (Kd.R_far (p := ⟨gb442, 3, none⟩) (Kd.R_far (p := ⟨gb442, 2, none⟩) (Kd.R_far (p := ⟨gb442, 1, none⟩) (Kd.R_far (p := ⟨gb442, 0, none⟩) (Kd.R_types HO425.out BK442.out (by decide)) (fun _ hk => hk.2) (.int .i64 t426)) (fun _ hk => hk.2) (.slice Ao36 t427.length co36)) (fun _ hk => hk.2) (.slice Ao37 t430.length co37)) (fun _ hk => hk.2) (.int .i64 t433)) (fun _ hk => hk.2) (.int .i64 t434)) (fun _ hk => hk.2) (.int .i64 t435)) (fun _ hk => hk.2) (.int .i64 t436)) (fun _ hk => hk.2) (.int .i64 t437)) (fun _ hk => hk.2) (.slice Ao38 t438.length co38)) (fun _ hk => hk.2) (.int .i64 t441)) (fun _ h_ => h_.1))))) (below_size (bl2_ HB GE405 GE442))) (blk_below (g := gb405) (o := .cells #[.int .i64 a0_0, .slice A0_1 l0_1.length c0_1, .slice A0_2 l0_2.length c0_2, .int .i64 a0_3, .int .i64 a0_4, .int .i64 a0_5, .int .i64 a0_6, .int .i64 a0_7, .slice A0_8 l0_8.length c0_8, .int .i64 a0_9] 26 (0, 0)) (by (with_reducible repeat (first | refine blk_drewN ?_ _ | refine blk_drew ?_ | refine blk_alloc ?_ _)); refine blk_far ?_ NB405_442.out _; (with_reducible repeat (first | refine blk_drewN ?_ _ | refine blk_drew ?_ | refine blk_alloc ?_ _)); refine blk_far ?_ NB405_442.out _; (with_reducible repeat (first | refine blk_drewN ?_ _ | refine blk_drew ?_ | refine blk_alloc ?_ _)); refine blk_far ?_ NB405_442.out _; (with_reducible repeat (first | refine blk_drewN ?_ _ | refine blk_drew ?_ | refine blk_alloc ?_ _)); refine blk_far ?_ NB405_442.out _; (with_reducible repeat (first | refine blk_drewN ?_ _ | refine blk_drew ?_ | refine blk_alloc ?_ _)); refine blk_far ?_ NB405_442.out _; (with_reducible repeat (first | refine blk_drewN ?_ _ | refine blk_drew ?_ | refine blk_alloc ?_ _)); refine blk_far ?_ NB405_442.out _; (with_reducible repeat (first | refine blk_drewN ?_ _ | refine blk_drew ?_ | refine blk_alloc ?_ _)); refine blk_far ?_ NB405_442.out _; (with_reducible repeat (first | refine blk_drewN ?_ _ | refine blk_drew ?_ | refine blk_alloc ?_ _)); refine blk_far ?_ NB405_442.out _; (with_reducible repeat (first | refine blk_drewN ?_ _ | refine blk_drew ?_ | refine blk_alloc ?_ _)); refine blk_far ?_ NB405_442.out _; (with_reducible repeat (first | refine blk_drewN ?_ _ | refine blk_drew ?_ | refine blk_alloc ?_ _)); refine blk_far ?_ NB405_442.out _; (with_reducible repeat (first | refine blk_drewN ?_ _ | refine blk_drew ?_ | refine blk_alloc ?_ _)); exact BK405.out) hb) (blk_below (g := gb442) (o := .cells #[.int .i64 t426, .slice Ao36 t427.length co36, .slice Ao37 t430.length co37, .int .i64 t433, .int .i64 t434, .int .i64 t435, .int .i64 t436, .int .i64 t437, .slice Ao38 t438.length co38, .int .i64 t441] 34 (0, 0)) (by (with_reducible repeat (first | refine blk_drewN ?_ _ | refine blk_drew ?_ | refine blk_alloc ?_ _)); refine blk_put (cs := #[.int .i64 t426, .slice Ao36 t427.length co36, .slice Ao37 t430.length co37, .int .i64 t433, .int .i64 t434, .int .i64 t435, .int .i64 t436, .int .i64 t437, .slice Ao38 t438.length co38, .int .i64 0]) ?_ 9 _ rfl; (with_reducible repeat (first | refine blk_drewN ?_ _ | refine blk_drew ?_ | refine blk_alloc ?_ _)); refine blk_put (cs := #[.int .i64 t426, .slice Ao36 t427.length co36, .slice Ao37 t430.length co37, .int .i64 t433, .int .i64 t434, .int .i64 t435, .int .i64 t436, .int .i64 t437, .slice none 0 0, .int .i64 0]) ?_ 8 _ rfl; (with_reducible repeat (first | refine blk_drewN ?_ _ | refine blk_drew ?_ | refine blk_alloc ?_ _)); refine blk_put (cs := #[.int .i64 t426, .slice Ao36 t427.length co36, .slice Ao37 t430.length co37, .int .i64 t433, .int .i64 t434, .int .i64 t435, .int .i64 t436, .int .i64 0, .slice none 0 0, .int .i64 0]) ?_ 7 _ rfl; (with_reducible repeat (first | refine blk_drewN ?_ _ | refine blk_drew ?_ | refine blk_alloc ?_ _)); refine blk_put (cs := #[.int .i64 t426, .slice Ao36 t427.length co36, .slice Ao37 t430.length co37, .int .i64 t433, .int .i64 t434, .int .i64 t435, .int .i64 0, .int .i64 0, .slice none 0 0, .int .i64 0]) ?_ 6 _ rfl; (with_reducible repeat (first | refine blk_drewN ?_ _ | refine blk_drew ?_ | refine blk_alloc ?_ _)); refine blk_put (cs := #[.int .i64 t426, .slice Ao36 t427.length co36, .slice Ao37 t430.length co37, .int .i64 t433, .int .i64 t434, .int .i64 0, .int .i64 0, .int .i64 0, .slice none 0 0, .int .i64 0]) ?_ 5 _ rfl; (with_reducible repeat (first | refine blk_drewN ?_ _ | refine blk_drew ?_ | refine blk_alloc ?_ _)); refine blk_put (cs := #[.int .i64 t426, .slice Ao36 t427.length co36, .slice Ao37 t430.length co37, .int .i64 t433, .int .i64 0, .int .i64 0, .int .i64 0, .int .i64 0, .slice none 0 0, .int .i64 0]) ?_ 4 _ rfl; (with_reducible repeat (first | refine blk_drewN ?_ _ | refine blk_drew ?_ | refine blk_alloc ?_ _)); refine blk_put (cs := #[.int .i64 t426, .slice Ao36 t427.length co36, .slice Ao37 t430.length co37, .int .i64 0, .int .i64 0, .int .i64 0, .int .i64 0, .int .i64 0, .slice none 0 0, .int .i64 0]) ?_ 3 _ rfl; (with_reducible repeat (first | refine blk_drewN ?_ _ | refine blk_drew ?_ | refine blk_alloc ?_ _)); refine blk_put (cs := #[.int .i64 t426, .slice Ao36 t427.length co36, .slice none 0 0, .int .i64 0, .int .i64 0, .int .i64 0, .int .i64 0, .int .i64 0, .slice none 0 0, .int .i64 0]) ?_ 2 _ rfl; (with_reducible repeat (first | refine blk_drewN ?_ _ | refine blk_drew ?_ | refine blk_alloc ?_ _)); refine blk_put (cs := #[.int .i64 t426, .slice none 0 0, .slice none 0 0, .int .i64 0, .int .i64 0, .int .i64 0, .int .i64 0, .int .i64 0, .slice none 0 0, .int .i64 0]) ?_ 1 _ rfl; (with_reducible repeat (first | refine blk_drewN ?_ _ | refine blk_drew ?_ | refine blk_alloc ?_ _)); refine blk_put (cs := #[.int .i64 0, .slice none 0 0, .slice none 0 0, .int .i64 0, .int .i64 0, .int .i64 0, .int .i64 0, .int .i64 0, .slice none 0 0, .int .i64 0]) ?_ 0 _ rfl; (with_reducible repeat (first | refine blk_drewN ?_ _ | refine blk_drew ?_ | refine blk_alloc ?_ _)); exact BK442.out) hb) (below_step (bl2_ HB GE405 GE442) hb) ?_⟩; clear HO410 HO413 HO421 HO425 HO429 HO432 HO440 BK405 BK442 HB hb ho0; intro HO410 HO413 HO421 HO425 HO429 HO432 HO440 HO445 BK405 BK442 HB; obtain ⟨Ao40, co40, eo40⟩ := Kd.R_slice HO445.out; subst eo40; obtain ⟨Ao41, co41, eo41⟩ := Kd.R_slice HO425.out; subst eo41) | ((with_reducible refine gate_callee (f := 13) rfl ?_); refine gl_ 41 Try.func13 (laws_eqSpanS.calls k _ _ t443 _ _ t423 true _ (cr_ HO445) (rl_ HO445) (cr_ HO425) (rl_ HO425) A15.out) ?_; rintro e w42 ⟨rfl, hb⟩; refine ⟨_, rfl, sh11_ (Kd.R_below (ra_ HO410) hb) (Kd.R_below (ra_ HO413) hb) (Kd.R_below (ra_ HO421) hb) (Kd.R_below (ra_ HO425) hb) (Kd.R_below (ra_ HO429) hb) (Kd.R_below (ra_ HO432) hb) (Kd.R_below (ra_ HO440) hb) (Kd.R_below (ra_ HO445) hb) (blk_below (bk_ BK405) hb) (blk_below (bk_ BK442) hb) (below_step (bl2_ HB GE405 GE442) hb) ?_⟩; clear HO410 HO413 HO421 HO425 HO429 HO432 HO440 HO445 BK405 BK442 HB hb; intro HO410 HO413 HO421 HO425 HO429 HO432 HO440 HO445 BK405 BK442 HB))
    refine sh11_ (Kd.R_drew HO410.out) (Kd.R_drew HO413.out) (Kd.R_drew HO421.out) (Kd.R_drew HO425.out) (Kd.R_drew HO429.out) (Kd.R_drew HO432.out) (Kd.R_drew HO440.out) (Kd.R_drew HO445.out) (blk_drew BK405.out) (blk_drew BK442.out) (below_drew1 HB.out) ?_
    clear HO410 HO413 HO421 HO425 HO429 HO432 HO440 HO445 BK405 BK442 HB
    intro HO410 HO413 HO421 HO425 HO429 HO432 HO440 HO445 BK405 BK442 HB
    refine start_ (n := 5) (S := fun w' => w'.cell? ⟨gb442, 0, none⟩ = some (.int .i64 t426) ∧ w'.cell? ⟨gb442, 1, none⟩ = some (.slice Ao36 t427.length co36) ∧ w'.cell? ⟨gb442, 2, none⟩ = some (.slice Ao37 t430.length co37) ∧ w'.cell? ⟨gb442, 3, none⟩ = some (.int .i64 t433) ∧ w'.cell? ⟨gb442, 4, none⟩ = some (.int .i64 t434) ∧ w'.cell? ⟨gb442, 5, none⟩ = some (.int .i64 t435) ∧ w'.cell? ⟨gb442, 6, none⟩ = some (.int .i64 t436) ∧ w'.cell? ⟨gb442, 7, none⟩ = some (.int .i64 t437) ∧ w'.cell? ⟨gb442, 8, none⟩ = some (.slice Ao38 t438.length co38) ∧ w'.cell? ⟨gb442, 9, none⟩ = some (.int .i64 t441) ∧ w'.cell? ⟨gb405, 0, none⟩ = some (.int .i64 a0_0) ∧ w'.cell? ⟨gb405, 1, none⟩ = some (.slice A0_1 l0_1.length c0_1) ∧ w'.cell? ⟨gb405, 2, none⟩ = some (.slice A0_2 l0_2.length c0_2) ∧ w'.cell? ⟨gb405, 3, none⟩ = some (.int .i64 a0_3) ∧ w'.cell? ⟨gb405, 4, none⟩ = some (.int .i64 a0_4) ∧ w'.cell? ⟨gb405, 5, none⟩ = some (.int .i64 a0_5) ∧ w'.cell? ⟨gb405, 6, none⟩ = some (.int .i64 a0_6) ∧ w'.cell? ⟨gb405, 7, none⟩ = some (.int .i64 a0_7) ∧ w'.cell? ⟨gb405, 8, none⟩ = some (.slice A0_8 l0_8.length c0_8) ∧ w'.cell? ⟨gb405, 9, none⟩ = some (.int .i64 a0_9)) (ds := []) #[false, false, false, false, false] (by kernel_rfl) rfl rfl ⟨(bc_ BK442 0 rfl), (bc_ BK442 1 rfl), (bc_ BK442 2 rfl), (bc_ BK442 3 rfl), (bc_ BK442 4 rfl), (bc_ BK442 5 rfl), (bc_ BK442 6 rfl), (bc_ BK442 7 rfl), (bc_ BK442 8 rfl), (bc_ BK442 9 rfl), (bc_ BK405 0 rfl), (bc_ BK405 1 rfl), (bc_ BK405 2 rfl), (bc_ BK405 3 rfl), (bc_ BK405 4 rfl), (bc_ BK405 5 rfl), (bc_ BK405 6 rfl), (bc_ BK405 7 rfl), (bc_ BK405 8 rfl), (bc_ BK405 9 rfl)⟩ (fun hHeld => ?_)
    generalize w42.drew = w43 at HO410 HO413 HO421 HO425 HO429 HO432 HO440 HO445 BK405 BK442 HB hHeld ⊢
    refine take_ (i := 0) (N := some 43) (v := ?_) (a' := ?_) #[true, false, false, false, false] rfl rfl (by kernel_rfl) (fun _ _ _ h => h) (Or.inl ⟨by rfl, ?_⟩) hHeld ?_ ?_
    rotate_left
    ·rintro w' ⟨s0, s1, s2, s3, s4, s5, s6, s7, s8, s9, s10, s11, s12, s13, s14, s15, s16, s17, s18, s19⟩
     go_simp
     with_reducible rfl
    rotate_left
    ·simp only [Act.put, List.setIfInBounds_toArray, List.set_cons_zero, List.set_cons_succ, i64_w, i32_w]
     rfl
    refine take_ (i := 1) (N := some 44) (v := ?_) (a' := ?_) #[true, true, false, false, false] rfl rfl (by kernel_rfl) (fun _ _ _ h => h) (Or.inl ⟨by rfl, ?_⟩) hHeld ?_ ?_
    rotate_left
    ·rintro w' ⟨s0, s1, s2, s3, s4, s5, s6, s7, s8, s9, s10, s11, s12, s13, s14, s15, s16, s17, s18, s19⟩
     go_simp
     with_reducible rfl
    rotate_left
    ·simp only [Act.put, List.setIfInBounds_toArray, List.set_cons_zero, List.set_cons_succ, i64_w, i32_w]
     rfl
    refine one_ (i := 2) (N := some 45) #[true, true, true, false, false] rfl rfl (by kernel_rfl) (by decide) (fun K hK => ?_)
    refine goes_ Try.func11 (by kernel_rfl) rfl #[.agg #[.int .i64 a0_0, .slice A0_1 l0_1.length c0_1, .slice A0_2 l0_2.length c0_2, .int .i64 a0_3, .int .i64 a0_4, .int .i64 a0_5, .int .i64 a0_6, .int .i64 a0_7, .slice A0_8 l0_8.length c0_8, .int .i64 a0_9]] (by rfl) rfl rfl mp_ ?_
    with_reducible refine (laws_toSky.calls k a0_0 _ _ l0_1 _ _ l0_2 a0_3 a0_4 a0_5 a0_6 a0_7 _ _ l0_8 a0_9 t447 t448 t451 t454 t455 t456 t457 t458 t459 t462 _ ?side1 ?side2 ?side3 ?side4 ?side5 ?side6 A17.out).mono ?_
    (case side1 => exact ck_ HR0_1 HB)
    (case side2 => exact HC0_1.out)
    (case side3 => exact ck_ HR0_2 HB)
    (case side4 => exact HC0_2.out)
    (case side5 => exact ck_ HR0_8 HB)
    (case side6 => exact HC0_8.out)
    rintro e w44 ⟨v449, v452, v460, rfl, ho0, ho1, ho2, hb⟩
    refine ⟨_, rfl, sh14_ (Kd.R_elder' (ra_ HO410) (Kd.R_base ho0) hb) (Kd.R_elder' (ra_ HO413) (Kd.R_base ho1) hb) (Kd.R_elder' (ra_ HO421) (Kd.R_base ho2) hb) (Kd.R_below (ra_ HO425) hb) (Kd.R_elder' (ra_ HO429) (Kd.R_base ho0) hb) (Kd.R_elder' (ra_ HO432) (Kd.R_base ho1) hb) (Kd.R_elder' (ra_ HO440) (Kd.R_base ho2) hb) (Kd.R_below (ra_ HO445) hb) (Kd.R_lower (Kd.R_new' (Kd.R_new' ho0 (Kd.R_lt (ra_ HO410))) (Kd.R_lt (ra_ HO429))) (below_size (bl2_ HB GE405 GE442))) (Kd.R_lower (Kd.R_new' (Kd.R_new' ho1 (Kd.R_lt (ra_ HO413))) (Kd.R_lt (ra_ HO432))) (below_size (bl2_ HB GE405 GE442))) (Kd.R_lower (Kd.R_new' (Kd.R_new' ho2 (Kd.R_lt (ra_ HO421))) (Kd.R_lt (ra_ HO440))) (below_size (bl2_ HB GE405 GE442))) (blk_below (bk_ BK405) hb) (blk_below (bk_ BK442) hb) (below_step (bl2_ HB GE405 GE442) hb) ?_⟩
    clear HO410 HO413 HO421 HO425 HO429 HO432 HO440 HO445 BK405 BK442 HB hb ho0 ho1 ho2
    intro HO410 HO413 HO421 HO425 HO429 HO432 HO440 HO445 HO450 HO453 HO461 BK405 BK442 HB
    obtain ⟨Ao45, co45, eo45⟩ := Kd.R_slice HO450.out
    (first | subst eo45 | (injection eo45 with f1_ f2_ f3_; have f4_ := f1_.symm; have f5_ := f3_.symm; clear f1_ f2_ f3_; subst f4_; subst f5_))
    obtain ⟨Ao46, co46, eo46⟩ := Kd.R_slice HO453.out
    (first | subst eo46 | (injection eo46 with f1_ f2_ f3_; have f4_ := f1_.symm; have f5_ := f3_.symm; clear f1_ f2_ f3_; subst f4_; subst f5_))
    obtain ⟨Ao47, co47, eo47⟩ := Kd.R_slice HO461.out
    (first | subst eo47 | (injection eo47 with f1_ f2_ f3_; have f4_ := f1_.symm; have f5_ := f3_.symm; clear f1_ f2_ f3_; subst f4_; subst f5_))
    refine hK.out _ _ ⟨(bc_ BK442 0 rfl), (bc_ BK442 1 rfl), (bc_ BK442 2 rfl), (bc_ BK442 3 rfl), (bc_ BK442 4 rfl), (bc_ BK442 5 rfl), (bc_ BK442 6 rfl), (bc_ BK442 7 rfl), (bc_ BK442 8 rfl), (bc_ BK442 9 rfl), (bc_ BK405 0 rfl), (bc_ BK405 1 rfl), (bc_ BK405 2 rfl), (bc_ BK405 3 rfl), (bc_ BK405 4 rfl), (bc_ BK405 5 rfl), (bc_ BK405 6 rfl), (bc_ BK405 7 rfl), (bc_ BK405 8 rfl), (bc_ BK405 9 rfl)⟩ (fun hHeld => ?_)
    clear hK K
    refine norm_ (a' := ?_) ?_ ?_
    rotate_left
    ·show Act.put _ (some 45) _ = _
     simp only [Act.put, List.setIfInBounds_toArray, List.set_cons_zero, List.set_cons_succ, i64_w, i32_w]
     rfl
    refine one_ (i := 3) (N := some 46) #[true, true, true, true, false] rfl rfl (by kernel_rfl) (by decide) (fun K hK => ?_)
    refine goes_ Try.func14 (by kernel_rfl) rfl #[.agg #[.int .i64 t426, .slice Ao36 t427.length co36, .slice Ao37 t430.length co37, .int .i64 t433, .int .i64 t434, .int .i64 t435, .int .i64 t436, .int .i64 t437, .slice Ao38 t438.length co38, .int .i64 t441], .agg #[.int .i64 t447, .slice Ao45 t448.length co45, .slice Ao46 t451.length co46, .int .i64 t454, .int .i64 t455, .int .i64 t456, .int .i64 t457, .int .i64 t458, .slice Ao47 t459.length co47, .int .i64 t462]] (by rfl) rfl rfl mp_ ?_
    with_reducible refine (laws_eqSky.calls k t426 _ _ t427 _ _ t430 t433 t434 t435 t436 t437 _ _ t438 t441 t447 _ _ t448 _ _ t451 t454 t455 t456 t457 t458 _ _ t459 t462 true _ ?side1 ?side2 ?side3 ?side4 ?side5 ?side6 ?side7 ?side8 ?side9 ?side10 ?side11 ?side12 A18.out).mono ?_
    (case side1 => repeat (first | exact (Kd.R_reads' HO429.out).2.2 | (with_reducible refine Kd.C_alloc ?_ _) | (with_reducible refine Kd.C_drewN ?_ _) | (with_reducible refine Kd.C_drew ?_)))
    (case side2 => exact (Kd.R_reads' HO429.out).2.1)
    (case side3 => repeat (first | exact (Kd.R_reads' HO432.out).2.2 | (with_reducible refine Kd.C_alloc ?_ _) | (with_reducible refine Kd.C_drewN ?_ _) | (with_reducible refine Kd.C_drew ?_)))
    (case side4 => exact (Kd.R_reads' HO432.out).2.1)
    (case side5 => repeat (first | exact (Kd.R_reads' HO440.out).2.2 | (with_reducible refine Kd.C_alloc ?_ _) | (with_reducible refine Kd.C_drewN ?_ _) | (with_reducible refine Kd.C_drew ?_)))
    (case side6 => exact (Kd.R_reads' HO440.out).2.1)
    (case side7 => repeat (first | exact (Kd.R_reads' HO450.out).2.2 | (with_reducible refine Kd.C_alloc ?_ _) | (with_reducible refine Kd.C_drewN ?_ _) | (with_reducible refine Kd.C_drew ?_)))
    (case side8 => exact (Kd.R_reads' HO450.out).2.1)
    (case side9 => repeat (first | exact (Kd.R_reads' HO453.out).2.2 | (with_reducible refine Kd.C_alloc ?_ _) | (with_reducible refine Kd.C_drewN ?_ _) | (with_reducible refine Kd.C_drew ?_)))
    (case side10 => exact (Kd.R_reads' HO453.out).2.1)
    (case side11 => repeat (first | exact (Kd.R_reads' HO461.out).2.2 | (with_reducible refine Kd.C_alloc ?_ _) | (with_reducible refine Kd.C_drewN ?_ _) | (with_reducible refine Kd.C_drew ?_)))
    (case side12 => exact (Kd.R_reads' HO461.out).2.1)
    rintro e w48 ⟨rfl, hb⟩
    refine ⟨_, rfl, sh14_ (Kd.R_below (ra_ HO410) hb) (Kd.R_below (ra_ HO413) hb) (Kd.R_below (ra_ HO421) hb) (Kd.R_below (ra_ HO425) hb) (Kd.R_below (ra_ HO429) hb) (Kd.R_below (ra_ HO432) hb) (Kd.R_below (ra_ HO440) hb) (Kd.R_below (ra_ HO445) hb) (Kd.R_below (ra_ HO450) hb) (Kd.R_below (ra_ HO453) hb) (Kd.R_below (ra_ HO461) hb) (blk_below (bk_ BK405) hb) (blk_below (bk_ BK442) hb) (below_step (bl2_ HB GE405 GE442) hb) ?_⟩
    clear HO410 HO413 HO421 HO425 HO429 HO432 HO440 HO445 HO450 HO453 HO461 BK405 BK442 HB hb
    intro HO410 HO413 HO421 HO425 HO429 HO432 HO440 HO445 HO450 HO453 HO461 BK405 BK442 HB
    refine hK.out _ _ ⟨(bc_ BK442 0 rfl), (bc_ BK442 1 rfl), (bc_ BK442 2 rfl), (bc_ BK442 3 rfl), (bc_ BK442 4 rfl), (bc_ BK442 5 rfl), (bc_ BK442 6 rfl), (bc_ BK442 7 rfl), (bc_ BK442 8 rfl), (bc_ BK442 9 rfl), (bc_ BK405 0 rfl), (bc_ BK405 1 rfl), (bc_ BK405 2 rfl), (bc_ BK405 3 rfl), (bc_ BK405 4 rfl), (bc_ BK405 5 rfl), (bc_ BK405 6 rfl), (bc_ BK405 7 rfl), (bc_ BK405 8 rfl), (bc_ BK405 9 rfl)⟩ (fun hHeld => ?_)
    clear hK K
    refine norm_ (a' := ?_) ?_ ?_
    rotate_left
    ·show Act.put _ (some 46) _ = _
     simp only [Act.put, List.setIfInBounds_toArray, List.set_cons_zero, List.set_cons_succ, i64_w, i32_w]
     rfl
    refine pure_ (i := 4) (N := some 47) (v := ?_) (a' := ?_) #[true, true, true, true, true] rfl rfl (by kernel_rfl) (fun _ _ _ h => h) (Or.inl ⟨by rfl, ?_⟩) ?_ ?_
    rotate_left
    ·intro w'
     go_simp
     with_reducible rfl
    rotate_left
    ·simp only [Act.put, List.setIfInBounds_toArray, List.set_cons_zero, List.set_cons_succ, i64_w, i32_w]
     rfl
    refine done_ (by kernel_rfl) ?_
    have hcz49 := cf10_ BK442
    go_upto_region 14 with (first | ((with_reducible refine gate_callee (f := 15) rfl ?_); refine goesL_ (some 50) rfl rfl Try.func15 (by kernel_rfl) rfl #[.agg #[.int .i64 t426, .slice Ao36 t427.length co36, .slice Ao37 t430.length co37, .int .i64 t433, .int .i64 t434, .int .i64 t435, .int .i64 t436, .int .i64 t437, .slice Ao38 t438.length co38, .int .i64 t441], .int .i64 1] rfl mp_ ?_; (with_reducible refine (laws_markSky.calls k t426 (fun k_ => some k_ = (.slice Ao36 t427.length co36 : Value).ownBlock) (.slice Ao36 t427.length co36) t427 (fun k_ => some k_ = (.slice Ao37 t430.length co37 : Value).ownBlock) (.slice Ao37 t430.length co37) t430 t433 t434 t435 t436 t437 (fun k_ => some k_ = (.slice Ao38 t438.length co38 : Value).ownBlock) (.slice Ao38 t438.length co38) t438 t441 1 t464 t465 t466 t467 w _ ?side1 ?side2 ?side3 ?side4 A20.out).mono ?_); (case side1 => repeat (first | (with_reducible first | exact HB.out | apply below_alloc | apply pw_below_drewN | apply below_drew1 | refine below_set ?_ GE405.out | refine below_set ?_ GE442.out) | exact HB.out)); (case side2 => exact Kd.R_tight rfl HO429.out); (case side3 => exact Kd.R_tight rfl HO432.out); (case side4 => exact Kd.R_tight rfl HO440.out); rintro e w50 ⟨rfl, hy0, hy1, hy2, hb, hkp⟩; refine ⟨_, rfl, sh14_ (blk_kept (bk_ BK405) hkp (fun hs_ => Or.elim hs_ (fun e_ => (fun e_ => (Kd.R_ne HO429.out BK405.out (by decide)) e_) e_) (fun e_ => Or.elim e_ (fun e_ => (fun e_ => (Kd.R_ne HO432.out BK405.out (by decide)) e_) e_) (fun e_ => (fun e_ => (Kd.R_ne HO440.out BK405.out (by decide)) e_) e_)))) (Kd.R_mono (ok' := fun k_ => some k_ ≠ (.slice Ao36 t427.length co36 : Value).ownBlock ∧ some k_ ≠ (.slice Ao45 t448.length co45 : Value).ownBlock) (Kd.R_keptB ((Kd.R_apart' (Kd.R_apart' HO410.out (Kd.R_typed HO432.out) (by decide)) (Kd.R_typed HO440.out) (by decide))) hkp (fun k_ hk_ hs_ => Or.elim hs_ (fun e_ => (hk_.1.1.1.2) e_) (fun e_ => Or.elim e_ (fun e_ => (hk_.1.2) e_) (fun e_ => (hk_.2) e_)))) (fun k_ hk_ => ⟨hk_.1.1.1.1.2, hk_.1.1.1.2⟩)) (Kd.R_mono (ok' := fun k_ => some k_ ≠ (.slice Ao37 t430.length co37 : Value).ownBlock ∧ some k_ ≠ (.slice Ao46 t451.length co46 : Value).ownBlock) (Kd.R_keptB ((Kd.R_apart' (Kd.R_apart' HO413.out (Kd.R_typed HO429.out) (by decide)) (Kd.R_typed HO440.out) (by decide))) hkp (fun k_ hk_ hs_ => Or.elim hs_ (fun e_ => (hk_.1.2) e_) (fun e_ => Or.elim e_ (fun e_ => (hk_.1.1.1.2) e_) (fun e_ => (hk_.2) e_)))) (fun k_ hk_ => ⟨hk_.1.1.1.1.2, hk_.1.1.1.2⟩)) (Kd.R_mono (ok' := fun k_ => some k_ ≠ (.slice Ao38 t438.length co38 : Value).ownBlock ∧ some k_ ≠ (.slice Ao47 t459.length co47 : Value).ownBlock) (Kd.R_keptB ((Kd.R_apart' (Kd.R_apart' HO421.out (Kd.R_typed HO429.out) (by decide)) (Kd.R_typed HO432.out) (by decide))) hkp (fun k_ hk_ hs_ => Or.elim hs_ (fun e_ => (hk_.1.2) e_) (fun e_ => Or.elim e_ (fun e_ => (hk_.2) e_) (fun e_ => (hk_.1.1.1.2) e_)))) (fun k_ hk_ => ⟨hk_.1.1.1.1.2, hk_.1.1.1.2⟩)) (Kd.R_mono (ok' := fun k_ => some k_ ≠ (.slice Ao40 t443.length co40 : Value).ownBlock) (Kd.R_keptB ((Kd.R_apart' (Kd.R_apart' (Kd.R_apart' HO425.out (Kd.R_typed HO429.out) (by decide)) (Kd.R_typed HO432.out) (by decide)) (Kd.R_typed HO440.out) (by decide))) hkp (fun k_ hk_ hs_ => Or.elim hs_ (fun e_ => (hk_.1.1.2) e_) (fun e_ => Or.elim e_ (fun e_ => (hk_.1.2) e_) (fun e_ => (hk_.2) e_)))) (fun k_ hk_ => hk_.1.1.1.1.2)) (Kd.R_reok rfl hy0 (fun k_ e_ => HO429.out.1 k_ e_)) (Kd.R_reok rfl hy1 (fun k_ e_ => HO432.out.1 k_ e_)) (Kd.R_reok rfl hy2 (fun k_ e_ => HO440.out.1 k_ e_)) (blk_kept (bk_ BK442) hkp (fun hs_ => Or.elim hs_ (fun e_ => (fun e_ => (Kd.R_ne HO429.out BK442.out (by decide)) e_) e_) (fun e_ => Or.elim e_ (fun e_ => (fun e_ => (Kd.R_ne HO432.out BK442.out (by decide)) e_) e_) (fun e_ => (fun e_ => (Kd.R_ne HO440.out BK442.out (by decide)) e_) e_)))) (Kd.R_mono (ok' := fun k_ => some k_ ≠ (.slice Ao41 t423.length co41 : Value).ownBlock) (Kd.R_keptB ((Kd.R_apart' (Kd.R_apart' (Kd.R_apart' HO445.out (Kd.R_typed HO429.out) (by decide)) (Kd.R_typed HO432.out) (by decide)) (Kd.R_typed HO440.out) (by decide))) hkp (fun k_ hk_ hs_ => Or.elim hs_ (fun e_ => (hk_.1.1.2) e_) (fun e_ => Or.elim e_ (fun e_ => (hk_.1.2) e_) (fun e_ => (hk_.2) e_)))) (fun k_ hk_ => hk_.1.1.1.1.2)) (Kd.R_mono (ok' := fun k_ => some k_ ≠ (.slice Ao27 t408.length co27 : Value).ownBlock ∧ some k_ ≠ (.slice Ao36 t427.length co36 : Value).ownBlock) (Kd.R_keptB ((Kd.R_apart' (Kd.R_apart' HO450.out (Kd.R_typed HO432.out) (by decide)) (Kd.R_typed HO440.out) (by decide))) hkp (fun k_ hk_ hs_ => Or.elim hs_ (fun e_ => (hk_.1.1.2) e_) (fun e_ => Or.elim e_ (fun e_ => (hk_.1.2) e_) (fun e_ => (hk_.2) e_)))) (fun k_ hk_ => ⟨hk_.1.1.1.1.2, hk_.1.1.1.2⟩)) (Kd.R_mono (ok' := fun k_ => some k_ ≠ (.slice Ao28 t411.length co28 : Value).ownBlock ∧ some k_ ≠ (.slice Ao37 t430.length co37 : Value).ownBlock) (Kd.R_keptB ((Kd.R_apart' (Kd.R_apart' HO453.out (Kd.R_typed HO429.out) (by decide)) (Kd.R_typed HO440.out) (by decide))) hkp (fun k_ hk_ hs_ => Or.elim hs_ (fun e_ => (hk_.1.2) e_) (fun e_ => Or.elim e_ (fun e_ => (hk_.1.1.2) e_) (fun e_ => (hk_.2) e_)))) (fun k_ hk_ => ⟨hk_.1.1.1.1.2, hk_.1.1.1.2⟩)) (Kd.R_mono (ok' := fun k_ => some k_ ≠ (.slice Ao29 t419.length co29 : Value).ownBlock ∧ some k_ ≠ (.slice Ao38 t438.length co38 : Value).ownBlock) (Kd.R_keptB ((Kd.R_apart' (Kd.R_apart' HO461.out (Kd.R_typed HO429.out) (by decide)) (Kd.R_typed HO432.out) (by decide))) hkp (fun k_ hk_ hs_ => Or.elim hs_ (fun e_ => (hk_.1.2) e_) (fun e_ => Or.elim e_ (fun e_ => (hk_.2) e_) (fun e_ => (hk_.1.1.2) e_)))) (fun k_ hk_ => ⟨hk_.1.1.1.1.2, hk_.1.1.1.2⟩)) hb ?_⟩; clear BK405 HO410 HO413 HO421 HO425 HO429 HO432 HO440 BK442 HO445 HO450 HO453 HO461 HB hb hkp hy0 hy1 hy2; intro BK405 HO410 HO413 HO421 HO425 HO429 HO432 HO440 BK442 HO445 HO450 HO453 HO461 HB))
    (try simp only [Act.put, List.setIfInBounds_toArray, List.set_cons_zero, List.set_cons_succ])
    go_cut [58] (fun v58 wc => ∃ (kq : Nat) (x58_20 : Bool), v58 = .bool x58_20 ∧ Aside0 (laws_FnExactSureWindows.j0 kq a1 a2 a3 a4 t423 t443 x58_20 a0_0 l0_1 l0_2 a0_3 a0_4 a0_5 a0_6 a0_7 l0_8 a0_9 = some true) ∧ Aside0 (kq ≤ k) ∧ Aside0 (Kd.R k73 73 wc w.heap.size (fun k_ => some k_ ≠ ((.slice Ao40 t443.length co40) : Value).ownBlock) (.slice Ao41 t423.length co41) t423) ∧ Aside0 (Kd.R k73 73 wc w.heap.size (fun k_ => some k_ ≠ ((.slice Ao41 t423.length co41) : Value).ownBlock) (.slice Ao40 t443.length co40) t443) ∧ Aside0 (Kd.R k105 105 wc w.heap.size (fun _ => True) (.slice Ao36 t427.length co36) t465) ∧ Aside0 (Kd.R k109 109 wc w.heap.size (fun _ => True) (.slice Ao37 t430.length co37) t466) ∧ Aside0 (Kd.R k115 115 wc w.heap.size (fun _ => True) (.slice Ao38 t438.length co38) t467) ∧ Aside0 (wc.heap[gb405]? = some (.cells #[.int .i64 a0_0, (.slice A0_1 l0_1.length c0_1), (.slice A0_2 l0_2.length c0_2), .int .i64 a0_3, .int .i64 a0_4, .int .i64 a0_5, .int .i64 a0_6, .int .i64 a0_7, (.slice A0_8 l0_8.length c0_8), .int .i64 a0_9] 26 (0, 0))) ∧ Aside0 (wc.heap[gb442]? = some (.cells #[.int .i64 t426, (.slice Ao36 t427.length co36), (.slice Ao37 t430.length co37), .int .i64 t433, .int .i64 t434, .int .i64 t435, .int .i64 t436, .int .i64 t437, (.slice Ao38 t438.length co38), .int .i64 t441] 34 (0, 0))) ∧ Aside0 (Below w.heap.size w wc))
    case first =>
     have H := HC21.out
     clear HC21
     by_cases c51 : t464 < 0
     ·rw [if_pos c51] at H
      have c51b0 := decide_eq_true c51
      clear c51
      (first | rw [c51b0] | (simp only [i64_w, i32_w]; rw [c51b0]) | skip)
      have H' := Aside0.mk H
      clear H
      go_wp2
      go_meet
      case rel => exact ⟨_, (true), (by first | rfl | (simp; done) | (simp [*]; done)), H', ⟨by first | omega | exact Nat.le_refl _⟩, ⟨ra_ HO425⟩, ⟨ra_ HO445⟩, ⟨by (with_reducible repeat (first | apply Kd.R_alloc | apply Kd.R_drewN | apply Kd.R_drew)); exact Kd.R_mono HO429.out (fun _ hk => trivial)⟩, ⟨by (with_reducible repeat (first | apply Kd.R_alloc | apply Kd.R_drewN | apply Kd.R_drew)); exact Kd.R_mono HO432.out (fun _ hk => trivial)⟩, ⟨by (with_reducible repeat (first | apply Kd.R_alloc | apply Kd.R_drewN | apply Kd.R_drew)); exact Kd.R_mono HO440.out (fun _ hk => trivial)⟩, ⟨by (with_reducible repeat (first | refine blk_drewN ?_ _ | refine blk_drew ?_ | refine blk_alloc ?_ _)); exact BK405.out⟩, ⟨by (with_reducible repeat (first | refine blk_drewN ?_ _ | refine blk_drew ?_ | refine blk_alloc ?_ _)); exact BK442.out⟩, ⟨bl2_ HB GE405 GE442⟩⟩
     ·rw [if_neg c51] at H
      have c51b0 := decide_eq_false c51
      clear c51
      (first | rw [c51b0] | (simp only [i64_w, i32_w]; rw [c51b0]) | skip)
      replace H := bs_ H
      obtain ⟨t468, A52, H⟩ := H
      have H' := Aside0.mk H
      clear H
      go_wp2_with (first | (go_at_call 13; (with_reducible refine (laws_eqSpanS.calls k _ _ t443 _ _ t423 t468 _ ?side1 ?side2 ?side3 ?side4 A52.out).mono ?_); (case side1 => repeat (first | exact (Kd.R_reads' HO445.out).2.2 | (with_reducible refine Kd.C_alloc ?_ _) | (with_reducible refine Kd.C_drewN ?_ _) | (with_reducible refine Kd.C_drew ?_))); (case side2 => exact (Kd.R_reads' HO445.out).2.1); (case side3 => repeat (first | exact (Kd.R_reads' HO425.out).2.2 | (with_reducible refine Kd.C_alloc ?_ _) | (with_reducible refine Kd.C_drewN ?_ _) | (with_reducible refine Kd.C_drew ?_))); (case side4 => exact (Kd.R_reads' HO425.out).2.1); rintro e w53 ⟨rfl, hb⟩; refine sh14_ (Kd.R_below (ra_ HO410) hb) (Kd.R_below (ra_ HO413) hb) (Kd.R_below (ra_ HO421) hb) (Kd.R_below (ra_ HO425) hb) (Kd.R_below (ra_ HO429) hb) (Kd.R_below (ra_ HO432) hb) (Kd.R_below (ra_ HO440) hb) (Kd.R_below (ra_ HO445) hb) (Kd.R_below (ra_ HO450) hb) (Kd.R_below (ra_ HO453) hb) (Kd.R_below (ra_ HO461) hb) (blk_below (bk_ BK405) hb) (blk_below (bk_ BK442) hb) (below_step (bl2_ HB GE405 GE442) hb) ?_; clear HO410 HO413 HO421 HO425 HO429 HO432 HO440 HO445 HO450 HO453 HO461 BK405 BK442 HB hb; intro HO410 HO413 HO421 HO425 HO429 HO432 HO440 HO445 HO450 HO453 HO461 BK405 BK442 HB))
      go_meet
      case rel => exact ⟨_, (!t468), (by first | rfl | (simp; done) | (simp [*]; done)), H', ⟨by first | omega | exact Nat.le_refl _⟩, ⟨ra_ HO425⟩, ⟨ra_ HO445⟩, ⟨by (with_reducible repeat (first | apply Kd.R_alloc | apply Kd.R_drewN | apply Kd.R_drew)); exact Kd.R_mono HO429.out (fun _ hk => trivial)⟩, ⟨by (with_reducible repeat (first | apply Kd.R_alloc | apply Kd.R_drewN | apply Kd.R_drew)); exact Kd.R_mono HO432.out (fun _ hk => trivial)⟩, ⟨by (with_reducible repeat (first | apply Kd.R_alloc | apply Kd.R_drewN | apply Kd.R_drew)); exact Kd.R_mono HO440.out (fun _ hk => trivial)⟩, ⟨by (with_reducible repeat (first | refine blk_drewN ?_ _ | refine blk_drew ?_ | refine blk_alloc ?_ _)); exact BK405.out⟩, ⟨by (with_reducible repeat (first | refine blk_drewN ?_ _ | refine blk_drew ?_ | refine blk_alloc ?_ _)); exact BK442.out⟩, ⟨bl2_ HB GE405 GE442⟩⟩
    case rest =>
     clear HC21
     try clear c1
     try clear p2
     try clear c3
     try clear c5
     try clear c7
     try clear c7b0
     try clear c8
     try clear c9
     try clear c11
     try clear c13
     try clear c14
     try clear c15
     try clear c16
     try clear c19
     try clear c34
     try clear c38
     try clear c39
     try clear c51
     try clear c51b0
     try clear hcz23
     try clear hcz25
     try clear hcz31
     try clear hcz35
     try clear hcz49
     try clear hcz9
     obtain ⟨kq, x58_20, rfl, HA, HJ20, HO_12, HO_14, HO_443001, HO_443002, HO_443008, BK405, BK442, HB⟩ := hcut
     have hl443001_20 := (Kd.R_reads' HO_443001.out).1
     rw [hl443001_20] at HO_443001
     (try simp only [hl443001_20])
     (try simp only [hl443001_20] at BK405)
     (try simp only [hl443001_20] at BK442)
     (try simp only [hl443001_20] at HO_12)
     (try simp only [hl443001_20] at HO_14)
     (try simp only [hl443001_20] at HO_443002)
     (try simp only [hl443001_20] at HO_443008)
     have hl443002_20 := (Kd.R_reads' HO_443002.out).1
     rw [hl443002_20] at HO_443002
     (try simp only [hl443002_20])
     (try simp only [hl443002_20] at BK405)
     (try simp only [hl443002_20] at BK442)
     (try simp only [hl443002_20] at HO_12)
     (try simp only [hl443002_20] at HO_14)
     (try simp only [hl443002_20] at HO_443001)
     (try simp only [hl443002_20] at HO_443008)
     have hl443008_20 := (Kd.R_reads' HO_443008.out).1
     rw [hl443008_20] at HO_443008
     (try simp only [hl443008_20])
     (try simp only [hl443008_20] at BK405)
     (try simp only [hl443008_20] at BK442)
     (try simp only [hl443008_20] at HO_12)
     (try simp only [hl443008_20] at HO_14)
     (try simp only [hl443008_20] at HO_443001)
     (try simp only [hl443008_20] at HO_443002)
     cases kq with
     | zero => exact absurd HA.out (by simp [laws_FnExactSureWindows.j0])
     | succ kj20 =>
      have H := HA.out
      clear HA
      simp only [laws_FnExactSureWindows.j0] at H
      by_cases c54 : x58_20 = true
      ·subst c54
       try rw [if_pos rfl] at H
       exact absurd H (by simp)
      ·replace c54 := Bool.eq_false_iff.mpr c54
       subst c54
       have H1 : ((laws_markSpanS.f kj20 t443 1).bind fun bt469 => ((laws_heldSpanS.f kj20 bt469.2 1).bind fun t471 => (if t471 < 0 then (some false) else (if t471 = bt469.1 then ((laws_toSky.f kj20 a0_0 l0_1 l0_2 a0_3 a0_4 a0_5 a0_6 a0_7 l0_8 a0_9).bind fun bt472 => ((impl_SureWindows.f kj20 bt472.1 bt472.2.1 bt472.2.2.1 bt472.2.2.2.1 bt472.2.2.2.2.1 bt472.2.2.2.2.2.1 bt472.2.2.2.2.2.2.1 bt472.2.2.2.2.2.2.2.1 bt472.2.2.2.2.2.2.2.2.1 bt472.2.2.2.2.2.2.2.2.2 a1 a2 a3 a4).bind fun t488 => ((laws_eqSpanS.f kj20 t488 t423).bind fun t491 => (if t491 = true then ((laws_heldSpanS.f kj20 bt469.2 1).bind fun t492 => (if t492 < 0 then (some false) else (if t492 = bt469.1 then (some true) else (some false)))) else (some false))))) else (some false))))) = some true := by first | (rw [if_neg (show ¬ (false = true) by decide)] at H; exact H) | rfl
       clear H
       have H := H1
       clear H1
       replace H := bs_ H
       obtain ⟨⟨t469, t470⟩, A55, H⟩ := H
       dsimp only at H
       replace H := bs_ H
       obtain ⟨t471, A56, H⟩ := H
       by_cases c57 : t471 < 0
       ·rw [if_pos c57] at H
        have c57b0 := decide_eq_true c57
        clear c57
        exact absurd H (by simp)
       ·rw [if_neg c57] at H
        have c57b0 := decide_eq_false c57
        clear c57
        by_cases c58 : t471 = t469
        ·rw [if_pos c58] at H
         obtain ⟨c58b0, c58b1⟩ := bt_ c58
         clear c58
         replace H := bs_ H
         obtain ⟨⟨t472, t473, t476, t479, t480, t481, t482, t483, t484, t487⟩, A59, H⟩ := H
         dsimp only at H
         replace H := bs_ H
         obtain ⟨t488, A60, H⟩ := H
         replace H := bs_ H
         obtain ⟨t491, A61, H⟩ := H
         by_cases c62 : t491 = true
         ·subst c62
          try rw [if_pos rfl] at H
          replace H := bs_ H
          obtain ⟨t492, A63, H⟩ := H
          by_cases c64 : t492 < 0
          ·rw [if_pos c64] at H
           have c64b0 := decide_eq_true c64
           clear c64
           exact absurd H (by simp)
          ·rw [if_neg c64] at H
           have c64b0 := decide_eq_false c64
           clear c64
           by_cases c65 : t492 = t469
           ·rw [if_pos c65] at H
            obtain ⟨c65b0, c65b1⟩ := bt_ c65
            clear c65
            clear H
            go_wp2_with (first | ((with_reducible refine gate_callee (f := 16) rfl ?_); refine goesL_ (some 61) rfl rfl Try.func16 (by kernel_rfl) rfl #[.slice Ao40 t443.length co40, .int .i64 1] rfl mp_ ?_; (with_reducible refine (laws_markSpanS.calls kj20 (fun k_ => some k_ = (.slice Ao40 t443.length co40 : Value).ownBlock) (.slice Ao40 t443.length co40) t443 1 t469 t470 w _ ?side1 ?side2 A55.out).mono ?_); (case side1 => repeat (first | (with_reducible first | exact HB.out | apply below_alloc | apply pw_below_drewN | apply below_drew1 | refine below_set ?_ GE405.out | refine below_set ?_ GE442.out) | exact HB.out)); (case side2 => exact Kd.R_tight rfl HO_14.out); rintro e w66 ⟨rfl, hy0, hb, hkp⟩; refine ⟨_, rfl, sh8_ (Kd.R_mono (ok' := fun k_ => some k_ ≠ (.slice Ao40 t443.length co40 : Value).ownBlock) (Kd.R_keptB (HO_12.out) hkp (fun k_ hk_ hs_ => (hk_) hs_)) (fun k_ hk_ => hk_.1)) (Kd.R_reok rfl hy0 (fun k_ e_ => HO_14.out.1 k_ e_)) (Kd.R_mono (ok' := fun k_ => True) (Kd.R_keptB ((Kd.R_apart' HO_443001.out (Kd.R_typed HO_14.out) (by decide))) hkp (fun k_ hk_ hs_ => (hk_.2) hs_)) (fun k_ hk_ => trivial)) (Kd.R_mono (ok' := fun k_ => True) (Kd.R_keptB ((Kd.R_apart' HO_443002.out (Kd.R_typed HO_14.out) (by decide))) hkp (fun k_ hk_ hs_ => (hk_.2) hs_)) (fun k_ hk_ => trivial)) (Kd.R_mono (ok' := fun k_ => True) (Kd.R_keptB ((Kd.R_apart' HO_443008.out (Kd.R_typed HO_14.out) (by decide))) hkp (fun k_ hk_ hs_ => (hk_.2) hs_)) (fun k_ hk_ => trivial)) (blk_kept (bk_ BK405) hkp (fun hs_ => (fun e_ => (Kd.R_ne HO_14.out BK405.out (by decide)) e_) hs_)) (blk_kept (bk_ BK442) hkp (fun hs_ => (fun e_ => (Kd.R_ne HO_14.out BK442.out (by decide)) e_) hs_)) hb ?_⟩; clear HO_12 HO_14 HO_443001 HO_443002 HO_443008 BK405 BK442 HB hb hkp hy0; intro HO_12 HO_14 HO_443001 HO_443002 HO_443008 BK405 BK442 HB) | ((with_reducible refine gate_callee (f := 17) rfl ?_); refine goesL_ (some 64) rfl rfl Try.func17 (by kernel_rfl) rfl #[.slice Ao40 t470.length co40, .int .i64 1] rfl (by (try simp only [List.map_toArray, List.map_cons, List.map_nil]); first | done | (rw [show t470.length = t443.length from (Kd.R_reads' HO_14.out).1.symm] <;> rfl) | rfl | (simp only [List.length_drop, List.length_take]; rfl)) ?_; (with_reducible refine (laws_heldSpanS.calls kj20 _ _ t470 1 t471 _ ?side1 ?side2 A56.out).mono ?_); (case side1 => repeat (first | exact (Kd.R_reads' HO_14.out).2.2 | (with_reducible refine Kd.C_alloc ?_ _) | (with_reducible refine Kd.C_drewN ?_ _) | (with_reducible refine Kd.C_drew ?_))); (case side2 => rw [show t470.length = t443.length from (Kd.R_reads' HO_14.out).1.symm]; exact (Kd.R_reads' HO_14.out).2.1); rintro e w' ⟨rfl, ⟨nd, rfl⟩⟩; refine ⟨_, rfl, ?_⟩; have hnb67 := NB405_442.out; have hnc67 := NB442_405.out; have hcz68 := cf10_ BK405) | ((with_reducible refine gate_callee (f := 11) rfl ?_); refine goesL_ (some 71) rfl rfl Try.func11 (by kernel_rfl) rfl #[.agg #[.int .i64 a0_0, .slice A0_1 l0_1.length c0_1, .slice A0_2 l0_2.length c0_2, .int .i64 a0_3, .int .i64 a0_4, .int .i64 a0_5, .int .i64 a0_6, .int .i64 a0_7, .slice A0_8 l0_8.length c0_8, .int .i64 a0_9]] rfl mp_ ?_; (with_reducible refine (laws_toSky.calls kj20 a0_0 _ _ l0_1 _ _ l0_2 a0_3 a0_4 a0_5 a0_6 a0_7 _ _ l0_8 a0_9 t472 t473 t476 t479 t480 t481 t482 t483 t484 t487 _ ?side1 ?side2 ?side3 ?side4 ?side5 ?side6 A59.out).mono ?_); (case side1 => repeat (first | exact (Kd.C_below HR0_1.out (bl2_ HB GE405 GE442)) | (with_reducible refine Kd.C_alloc ?_ _) | (with_reducible refine Kd.C_drewN ?_ _) | (with_reducible refine Kd.C_drew ?_))); (case side2 => exact HC0_1.out); (case side3 => repeat (first | exact (Kd.C_below HR0_2.out (bl2_ HB GE405 GE442)) | (with_reducible refine Kd.C_alloc ?_ _) | (with_reducible refine Kd.C_drewN ?_ _) | (with_reducible refine Kd.C_drew ?_))); (case side4 => exact HC0_2.out); (case side5 => repeat (first | exact (Kd.C_below HR0_8.out (bl2_ HB GE405 GE442)) | (with_reducible refine Kd.C_alloc ?_ _) | (with_reducible refine Kd.C_drewN ?_ _) | (with_reducible refine Kd.C_drew ?_))); (case side6 => exact HC0_8.out); rintro e w69 ⟨v474, v477, v485, rfl, ho0, ho1, ho2, hb⟩; refine ⟨_, rfl, sh11_ (Kd.R_below (ra_ HO_12) hb) (Kd.R_below (ra_ HO_14) hb) (Kd.R_elder' (ra_ HO_443001) (Kd.R_base ho0) hb) (Kd.R_elder' (ra_ HO_443002) (Kd.R_base ho1) hb) (Kd.R_elder' (ra_ HO_443008) (Kd.R_base ho2) hb) (Kd.R_lower (Kd.R_new' ho0 (Kd.R_lt (ra_ HO_443001))) (below_size (bl2_ HB GE405 GE442))) (Kd.R_lower (Kd.R_new' ho1 (Kd.R_lt (ra_ HO_443002))) (below_size (bl2_ HB GE405 GE442))) (Kd.R_lower (Kd.R_new' ho2 (Kd.R_lt (ra_ HO_443008))) (below_size (bl2_ HB GE405 GE442))) (blk_below (bk_ BK405) hb) (blk_below (bk_ BK442) hb) (below_step (bl2_ HB GE405 GE442) hb) ?_⟩; clear HO_12 HO_14 HO_443001 HO_443002 HO_443008 BK405 BK442 HB hb ho0 ho1 ho2; intro HO_12 HO_14 HO_443001 HO_443002 HO_443008 HO475 HO478 HO486 BK405 BK442 HB; obtain ⟨Ao70, co70, eo70⟩ := Kd.R_slice HO475.out; subst eo70; obtain ⟨Ao71, co71, eo71⟩ := Kd.R_slice HO478.out; subst eo71; obtain ⟨Ao72, co72, eo72⟩ := Kd.R_slice HO486.out; subst eo72) | ((with_reducible refine gate_callee (f := 39) rfl ?_); refine gl_ 76 Try.func39 (impl_SureWindows.calls kj20 t472 _ _ t473 _ _ t476 t479 t480 t481 t482 t483 _ _ t484 t487 a1 a2 a3 a4 t488 _ (cr_ HO475) (rl_ HO475) (cr_ HO478) (rl_ HO478) (cr_ HO486) (rl_ HO486) A60.out) ?_; rintro e w73 ⟨v489, rfl, ho0, hb⟩; refine ⟨_, rfl, sh12_ (Kd.R_elder' (ra_ HO_12) (Kd.R_base ho0) hb) (Kd.R_elder' (ra_ HO_14) (Kd.R_base ho0) hb) (Kd.R_below (ra_ HO_443001) hb) (Kd.R_below (ra_ HO_443002) hb) (Kd.R_below (ra_ HO_443008) hb) (Kd.R_below (ra_ HO475) hb) (Kd.R_below (ra_ HO478) hb) (Kd.R_below (ra_ HO486) hb) (Kd.R_lower (Kd.R_new' (Kd.R_new' ho0 (Kd.R_lt (ra_ HO_12))) (Kd.R_lt (ra_ HO_14))) (below_size (bl2_ HB GE405 GE442))) (blk_below (bk_ BK405) hb) (blk_below (bk_ BK442) hb) (below_step (bl2_ HB GE405 GE442) hb) ?_⟩; clear HO_12 HO_14 HO_443001 HO_443002 HO_443008 HO475 HO478 HO486 BK405 BK442 HB hb ho0; intro HO_12 HO_14 HO_443001 HO_443002 HO_443008 HO475 HO478 HO486 HO490 BK405 BK442 HB; obtain ⟨Ao74, co74, eo74⟩ := Kd.R_slice HO490.out; subst eo74) | ((with_reducible refine gate_callee (f := 13) rfl ?_); refine gl_ 79 Try.func13 (laws_eqSpanS.calls kj20 _ _ t488 _ _ t423 true _ (cr_ HO490) (rl_ HO490) (cr_ HO_12) (rl_ HO_12) A61.out) ?_; rintro e w75 ⟨rfl, hb⟩; refine ⟨_, rfl, sh12_ (Kd.R_below (ra_ HO_12) hb) (Kd.R_below (ra_ HO_14) hb) (Kd.R_below (ra_ HO_443001) hb) (Kd.R_below (ra_ HO_443002) hb) (Kd.R_below (ra_ HO_443008) hb) (Kd.R_below (ra_ HO475) hb) (Kd.R_below (ra_ HO478) hb) (Kd.R_below (ra_ HO486) hb) (Kd.R_below (ra_ HO490) hb) (blk_below (bk_ BK405) hb) (blk_below (bk_ BK442) hb) (below_step (bl2_ HB GE405 GE442) hb) ?_⟩; clear HO_12 HO_14 HO_443001 HO_443002 HO_443008 HO475 HO478 HO486 HO490 BK405 BK442 HB hb; intro HO_12 HO_14 HO_443001 HO_443002 HO_443008 HO475 HO478 HO486 HO490 BK405 BK442 HB) | ((with_reducible refine gate_callee (f := 17) rfl ?_); refine goesL_ (some 83) rfl rfl Try.func17 (by kernel_rfl) rfl #[.slice Ao40 t470.length co40, .int .i64 1] rfl (by (try simp only [List.map_toArray, List.map_cons, List.map_nil]); first | done | (rw [show t470.length = t443.length from (Kd.R_reads' HO_14.out).1.symm] <;> rfl) | rfl | (simp only [List.length_drop, List.length_take]; rfl)) ?_; (with_reducible refine (laws_heldSpanS.calls kj20 _ _ t470 1 t492 _ ?side1 ?side2 A63.out).mono ?_); (case side1 => repeat (first | exact (Kd.R_reads' HO_14.out).2.2 | (with_reducible refine Kd.C_alloc ?_ _) | (with_reducible refine Kd.C_drewN ?_ _) | (with_reducible refine Kd.C_drew ?_))); (case side2 => rw [show t470.length = t443.length from (Kd.R_reads' HO_14.out).1.symm]; exact (Kd.R_reads' HO_14.out).2.1); rintro e w' ⟨rfl, ⟨nd, rfl⟩⟩; refine ⟨_, rfl, ?_⟩))
            go_ret
            exact ⟨er_, bl2_ HB GE405 GE442⟩
           ·rw [if_neg c65] at H
            obtain ⟨c65b0, c65b1⟩ := bn_ c65
            exact absurd H (by simp)
         ·replace c62 := Bool.eq_false_iff.mpr c62
          subst c62
          have H1 : (some false) = some true := by first | (rw [if_neg (show ¬ (false = true) by decide)] at H; exact H) | rfl
          clear H
          have H := H1
          clear H1
          exact absurd H (by simp)
        ·rw [if_neg c58] at H
         obtain ⟨c58b0, c58b1⟩ := bn_ c58
         exact absurd H (by simp)
   ·replace c19 := Bool.eq_false_iff.mpr c19
    subst c19
    have H1 : (some false) = some true := by first | (rw [if_neg (show ¬ (false = true) by decide)] at H; exact H) | rfl
    clear H
    have H := H1
    clear H1
    exact absurd H (by simp)
  ·replace c16 := Bool.eq_false_iff.mpr c16
   subst c16
   have H1 : (some false) = some true := by first | (rw [if_neg (show ¬ (false = true) by decide)] at H; exact H) | rfl
   clear H
   have H := H1
   clear H1
   exact absurd H (by simp)

end Go.Proofs.Ytcjfalmhohcifaa.PFnExactSureWindows
