-- Written by a program of this session for this claim (the kit's printer with changes).
import Derived.Shelf.Spec.SlicesGrow
import Derived.Test.YtcjfalmhohcifaaQFnExactSpeakingSpansx0
import Derived.Test.YtcjfalmhohcifaaQFnExactSpeakingSpansx5
import Derived.Test.YtcjfalmhohcifaaQFnExactSpeakingSpansx8
namespace Go.Proofs.Ytcjfalmhohcifaa.PFnExactSpeakingSpans
open Go.RowKit Go.Proofs.YtcjfalmhohcifaaW.PrintWords Go.Proofs.YtcjfalmhohcifaaW.PrintLast Go.Proofs.YtcjfalmhohcifaaW.PrintMore
attribute [local go_sem] max2_int min2_int max_two min_two max_three min_three max_four min_four   -- for this text's walks alone
set_option linter.unusedVariables false
set_option linter.unusedSimpArgs false

/-! ### impl_IsSure: function 70 -/
def impl_IsSure.f (k : Nat) (a0_0 : Int) (l0_1 : List (S105)) (l0_2 : List (S109)) (a0_3 : Int) (a0_4 : Int) (a0_5 : Int) (a0_6 : Int) (a0_7 : Int) (l0_8 : List (S115)) (a0_9 : Int) (a1 : Int) (a2 : Int) (a3 : Int) : Option (Bool) := (impl_SightAt.f k a0_0 l0_1 l0_2 a0_3 a0_4 a0_5 a0_6 a0_7 l0_8 a0_9 a1 a2 a3).bind fun t411 => (some (t411 == 2))
theorem impl_IsSure.mono : ∀ a0 a1 a2 a3 a4 a5 a6 a7 a8 a9 a10 a11 a12 k, LeO (impl_IsSure.f k a0 a1 a2 a3 a4 a5 a6 a7 a8 a9 a10 a11 a12) (impl_IsSure.f (k + 1) a0 a1 a2 a3 a4 a5 a6 a7 a8 a9 a10 a11 a12) := by
 intro a0 a1 a2 a3 a4 a5 a6 a7 a8 a9 a10 a11 a12 k
 unfold impl_IsSure.f
 repeat' first | (with_reducible first | exact impl_SightAt.mono _ _ _ _ _ _ _ _ _ _ _ _ _ _ | exact LeO.refl _ | exact LeO.none _ | refine LeO.ite ?_ ?_ | refine LeO.bind ?_ (fun _ => ?_)) | exact LeO.none _ | refine LeO.ite ?_ ?_ | refine LeO.bind ?_ (fun _ => ?_)
set_option maxHeartbeats 8000000 in
set_option maxRecDepth 100000 in
theorem impl_IsSure.calls (k : Nat) (a0_0 : Int) (A0_1 : Option Addr) (c0_1 : Nat) (l0_1 : List (S105)) (A0_2 : Option Addr) (c0_2 : Nat) (l0_2 : List (S109)) (a0_3 : Int) (a0_4 : Int) (a0_5 : Int) (a0_6 : Int) (a0_7 : Int) (A0_8 : Option Addr) (c0_8 : Nat) (l0_8 : List (S115)) (a0_9 : Int) (a1 : Int) (a2 : Int) (a3 : Int) (r : Bool) (w : World) (hr0_1 : Kd.C k105 w A0_1 l0_1.length l0_1) (hc0_1 : l0_1.length ≤ c0_1) (hr0_2 : Kd.C k109 w A0_2 l0_2.length l0_2) (hc0_2 : l0_2.length ≤ c0_2) (hr0_8 : Kd.C k115 w A0_8 l0_8.length l0_8) (hc0_8 : l0_8.length ≤ c0_8) (h : impl_IsSure.f k a0_0 l0_1 l0_2 a0_3 a0_4 a0_5 a0_6 a0_7 l0_8 a0_9 a1 a2 a3 = some r) :
  Calls Try.prog 70 #[.agg #[.int .i64 a0_0, .slice A0_1 l0_1.length c0_1, .slice A0_2 l0_2.length c0_2, .int .i64 a0_3, .int .i64 a0_4, .int .i64 a0_5, .int .i64 a0_6, .int .i64 a0_7, .slice A0_8 l0_8.length c0_8, .int .i64 a0_9], .int .i64 a1, .int .i64 a2, .int .i64 a3] w fun e w' => e = .returned (.bool r) ∧ Below w.heap.size w w' := by
 have hu34 := Try.underlying34
 have HR0_1 := Aside0.mk hr0_1
 have HC0_1 := Aside0.mk hc0_1
 clear hr0_1 hc0_1
 have HR0_2 := Aside0.mk hr0_2
 have HC0_2 := Aside0.mk hc0_2
 clear hr0_2 hc0_2
 have HR0_8 := Aside0.mk hr0_8
 have HC0_8 := Aside0.mk hc0_8
 clear hr0_8 hc0_8
 have HB := Aside0.mk (Below.refl w.heap.size w)
 have H := h
 clear h
 unfold impl_IsSure.f at H
 replace H := bs_ H
 obtain ⟨t411, A5, H⟩ := H
 obtain rfl := Option.some.inj H
 go_enter Try.func70, Try.ntmps70
 go_wp2_with (first | ((with_reducible refine gd_ 4 ?_); refine bx_ 4 34 #[.int .i64 a0_0, .slice A0_1 l0_1.length c0_1, .slice A0_2 l0_2.length c0_2, .int .i64 a0_3, .int .i64 a0_4, .int .i64 a0_5, .int .i64 a0_6, .int .i64 a0_7, .slice A0_8 l0_8.length c0_8, .int .i64 a0_9] ?_; intro gb410 hg w6 hbox hb; refine sh3_ (below_step (bl_ HB) hb) hbox (ge_ hg (bl_ HB)) ?_; clear HB hb hbox hg; intro HB BK410 GE410; have hcz7 := cf10_ BK410) | ((with_reducible refine gate_callee (f := 98) rfl ?_); refine gl_ 13 Try.func98 (impl_SightAt.calls k a0_0 _ _ l0_1 _ _ l0_2 a0_3 a0_4 a0_5 a0_6 a0_7 _ _ l0_8 a0_9 a1 a2 a3 t411 _ (ck_ HR0_1 HB) HC0_1.out (ck_ HR0_2 HB) HC0_2.out (ck_ HR0_8 HB) HC0_8.out A5.out) ?_; rintro e w8 ⟨rfl, hb⟩; refine ⟨_, rfl, sh2_ (blk_below (bk_ BK410) hb) (below_step (bl1_ HB GE410) hb) ?_⟩; clear BK410 HB hb; intro BK410 HB))
 go_ret
 exact ⟨er_, bl1_ HB GE410⟩

/-! ### impl_SureWindows_1: function 78 -/
def impl_SureWindows_1.f (k : Nat) (a0 : Int) (a1_0 : Int) (l1_1 : List (S105)) (l1_2 : List (S109)) (a1_3 : Int) (a1_4 : Int) (a1_5 : Int) (a1_6 : Int) (a1_7 : Int) (l1_8 : List (S115)) (a1_9 : Int) (a2 : Int) (a3 : Int) : Option (Bool) := (impl_IsSure.f k a1_0 l1_1 l1_2 a1_3 a1_4 a1_5 a1_6 a1_7 l1_8 a1_9 a2 a3 a0).bind fun t412 => (some t412)
theorem impl_SureWindows_1.mono : ∀ a0 a1 a2 a3 a4 a5 a6 a7 a8 a9 a10 a11 a12 k, LeO (impl_SureWindows_1.f k a0 a1 a2 a3 a4 a5 a6 a7 a8 a9 a10 a11 a12) (impl_SureWindows_1.f (k + 1) a0 a1 a2 a3 a4 a5 a6 a7 a8 a9 a10 a11 a12) := by
 intro a0 a1 a2 a3 a4 a5 a6 a7 a8 a9 a10 a11 a12 k
 unfold impl_SureWindows_1.f
 repeat' first | (with_reducible first | exact impl_IsSure.mono _ _ _ _ _ _ _ _ _ _ _ _ _ _ | exact LeO.refl _ | exact LeO.none _ | refine LeO.ite ?_ ?_ | refine LeO.bind ?_ (fun _ => ?_)) | exact LeO.none _ | refine LeO.ite ?_ ?_ | refine LeO.bind ?_ (fun _ => ?_)
set_option maxHeartbeats 8000000 in
set_option maxRecDepth 100000 in
theorem impl_SureWindows_1.calls (k : Nat) (a0 : Int) (a1_0 : Int) (A1_1 : Option Addr) (c1_1 : Nat) (l1_1 : List (S105)) (A1_2 : Option Addr) (c1_2 : Nat) (l1_2 : List (S109)) (a1_3 : Int) (a1_4 : Int) (a1_5 : Int) (a1_6 : Int) (a1_7 : Int) (A1_8 : Option Addr) (c1_8 : Nat) (l1_8 : List (S115)) (a1_9 : Int) (a2 : Int) (a3 : Int) (r : Bool) (w : World) (B0 : Nat) (hB0 : w.heap[B0]? = some (.cells #[.int .i64 a1_0, .slice A1_1 l1_1.length c1_1, .slice A1_2 l1_2.length c1_2, .int .i64 a1_3, .int .i64 a1_4, .int .i64 a1_5, .int .i64 a1_6, .int .i64 a1_7, .slice A1_8 l1_8.length c1_8, .int .i64 a1_9] 34 (0, 0))) (B1 : Nat) (hB1 : w.heap[B1]? = some (.cells #[.int .i64 a2] 3 (0, 0))) (B2 : Nat) (hB2 : w.heap[B2]? = some (.cells #[.int .i64 a3] 3 (0, 0))) (hr1_1 : Kd.C k105 w A1_1 l1_1.length l1_1) (hc1_1 : l1_1.length ≤ c1_1) (hr1_2 : Kd.C k109 w A1_2 l1_2.length l1_2) (hc1_2 : l1_2.length ≤ c1_2) (hr1_8 : Kd.C k115 w A1_8 l1_8.length l1_8) (hc1_8 : l1_8.length ≤ c1_8) (h : impl_SureWindows_1.f k a0 a1_0 l1_1 l1_2 a1_3 a1_4 a1_5 a1_6 a1_7 l1_8 a1_9 a2 a3 = some r) :
  Calls Try.prog 78 #[.int .i64 a0, .pointer (some ⟨B0, 0, none⟩), .pointer (some ⟨B1, 0, none⟩), .pointer (some ⟨B2, 0, none⟩)] w fun e w' => e = .returned (.bool r) ∧ Below w.heap.size w w' := by
 have hcB0_0 : w.cell? ⟨B0, 0, none⟩ = some (.int .i64 a1_0) := (blk_cell hB0 0).trans rfl
 have hcB0_1 : w.cell? ⟨B0, 1, none⟩ = some (.slice A1_1 l1_1.length c1_1) := (blk_cell hB0 1).trans rfl
 have hcB0_2 : w.cell? ⟨B0, 2, none⟩ = some (.slice A1_2 l1_2.length c1_2) := (blk_cell hB0 2).trans rfl
 have hcB0_3 : w.cell? ⟨B0, 3, none⟩ = some (.int .i64 a1_3) := (blk_cell hB0 3).trans rfl
 have hcB0_4 : w.cell? ⟨B0, 4, none⟩ = some (.int .i64 a1_4) := (blk_cell hB0 4).trans rfl
 have hcB0_5 : w.cell? ⟨B0, 5, none⟩ = some (.int .i64 a1_5) := (blk_cell hB0 5).trans rfl
 have hcB0_6 : w.cell? ⟨B0, 6, none⟩ = some (.int .i64 a1_6) := (blk_cell hB0 6).trans rfl
 have hcB0_7 : w.cell? ⟨B0, 7, none⟩ = some (.int .i64 a1_7) := (blk_cell hB0 7).trans rfl
 have hcB0_8 : w.cell? ⟨B0, 8, none⟩ = some (.slice A1_8 l1_8.length c1_8) := (blk_cell hB0 8).trans rfl
 have hcB0_9 : w.cell? ⟨B0, 9, none⟩ = some (.int .i64 a1_9) := (blk_cell hB0 9).trans rfl
 have hcB1_0 : w.cell? ⟨B1, 0, none⟩ = some (.int .i64 a2) := (blk_cell hB1 0).trans rfl
 have hcB2_0 : w.cell? ⟨B2, 0, none⟩ = some (.int .i64 a3) := (blk_cell hB2 0).trans rfl
 have HR1_1 := Aside0.mk hr1_1
 have HC1_1 := Aside0.mk hc1_1
 clear hr1_1 hc1_1
 have HR1_2 := Aside0.mk hr1_2
 have HC1_2 := Aside0.mk hc1_2
 clear hr1_2 hc1_2
 have HR1_8 := Aside0.mk hr1_8
 have HC1_8 := Aside0.mk hc1_8
 clear hr1_8 hc1_8
 have HB := Aside0.mk (Below.refl w.heap.size w)
 have H := h
 clear h
 unfold impl_SureWindows_1.f at H
 replace H := bs_ H
 obtain ⟨t412, A5, H⟩ := H
 obtain rfl := Option.some.inj H
 go_enter Try.func78, Try.ntmps78
 go_wp2_with (first | ((with_reducible refine gate_callee (f := 70) rfl ?_); refine gl_ 10 Try.func70 (impl_IsSure.calls k a1_0 _ _ l1_1 _ _ l1_2 a1_3 a1_4 a1_5 a1_6 a1_7 _ _ l1_8 a1_9 a2 a3 a0 t412 _ (cq_ HR1_1) HC1_1.out (cq_ HR1_2) HC1_2.out (cq_ HR1_8) HC1_8.out A5.out) ?_; rintro e w6 ⟨rfl, hb⟩; refine ⟨_, rfl, sh1_ (below_step (bl_ HB) hb) ?_⟩; clear HB hb; intro HB))
 go_ret
 exact ⟨er_, bl_ HB⟩


def where_impl_SureWindows_1.f (k : Nat) (y0 y1 : Int) (a1_0 : Int) (l1_1 : List (S105)) (l1_2 : List (S109)) (a1_3 : Int) (a1_4 : Int) (a1_5 : Int) (a1_6 : Int) (a1_7 : Int) (l1_8 : List (S115)) (a1_9 : Int) (a2 : Int) (a3 : Int) : Option (List (S73)) := sw.f (fun k' t' => impl_SureWindows_1.f k' t' a1_0 l1_1 l1_2 a1_3 a1_4 a1_5 a1_6 a1_7 l1_8 a1_9 a2 a3) k y0 y1
theorem where_impl_SureWindows_1.mono : ∀ y0 y1 a1_0 l1_1 l1_2 a1_3 a1_4 a1_5 a1_6 a1_7 l1_8 a1_9 a2 a3 k, LeO (where_impl_SureWindows_1.f k y0 y1 a1_0 l1_1 l1_2 a1_3 a1_4 a1_5 a1_6 a1_7 l1_8 a1_9 a2 a3) (where_impl_SureWindows_1.f (k + 1) y0 y1 a1_0 l1_1 l1_2 a1_3 a1_4 a1_5 a1_6 a1_7 l1_8 a1_9 a2 a3) := fun y0 y1 a1_0 l1_1 l1_2 a1_3 a1_4 a1_5 a1_6 a1_7 l1_8 a1_9 a2 a3 k => sw.mono _ (fun t' k' => by exact impl_SureWindows_1.mono _ _ _ _ _ _ _ _ _ _ _ _ _ _) y0 y1 k
theorem where_impl_SureWindows_1.calls (k : Nat) (y0 y1 : Int) (a1_0 : Int) (A1_1 : Option Addr) (c1_1 : Nat) (l1_1 : List (S105)) (A1_2 : Option Addr) (c1_2 : Nat) (l1_2 : List (S109)) (a1_3 : Int) (a1_4 : Int) (a1_5 : Int) (a1_6 : Int) (a1_7 : Int) (A1_8 : Option Addr) (c1_8 : Nat) (l1_8 : List (S115)) (a1_9 : Int) (a2 : Int) (a3 : Int) (r : List (S73)) (w : World) (B0 : Nat) (hB0 : w.heap[B0]? = some (.cells #[.int .i64 a1_0, .slice A1_1 l1_1.length c1_1, .slice A1_2 l1_2.length c1_2, .int .i64 a1_3, .int .i64 a1_4, .int .i64 a1_5, .int .i64 a1_6, .int .i64 a1_7, .slice A1_8 l1_8.length c1_8, .int .i64 a1_9] 34 (0, 0))) (B1 : Nat) (hB1 : w.heap[B1]? = some (.cells #[.int .i64 a2] 3 (0, 0))) (B2 : Nat) (hB2 : w.heap[B2]? = some (.cells #[.int .i64 a3] 3 (0, 0))) (hr1_1 : Kd.C k105 w A1_1 l1_1.length l1_1) (hc1_1 : l1_1.length ≤ c1_1) (hr1_2 : Kd.C k109 w A1_2 l1_2.length l1_2) (hc1_2 : l1_2.length ≤ c1_2) (hr1_8 : Kd.C k115 w A1_8 l1_8.length l1_8) (hc1_8 : l1_8.length ≤ c1_8) (h : where_impl_SureWindows_1.f k y0 y1 a1_0 l1_1 l1_2 a1_3 a1_4 a1_5 a1_6 a1_7 l1_8 a1_9 a2 a3 = some r) :
  Calls Try.prog 75 #[.int .i64 y0, .int .i64 y1, .func (.func 78) #[] #[.pointer (some ⟨B0, 0, none⟩), .pointer (some ⟨B1, 0, none⟩), .pointer (some ⟨B2, 0, none⟩)]] w fun e w' => ∃ v0_ : Value, e = .returned (v0_) ∧ Kd.R k73 73 w' w.heap.size (fun _ => True) v0_ r ∧ Below w.heap.size w w' := by
 refine sw.calls (fun k' t' => impl_SureWindows_1.f k' t' a1_0 l1_1 l1_2 a1_3 a1_4 a1_5 a1_6 a1_7 l1_8 a1_9 a2 a3) k y0 y1 r w 78 _ (fun args w => enters_ Try.func78 (by kernel_rfl) rfl args w) (fun k' t b W hq hb => ?_) h
 have hB0' := blk_below hB0 hb
 have hB1' := blk_below hB1 hb
 have hB2' := blk_below hB2 hb
 have hh := impl_SureWindows_1.calls k' t a1_0 A1_1 c1_1 l1_1 A1_2 c1_2 l1_2 a1_3 a1_4 a1_5 a1_6 a1_7 A1_8 c1_8 l1_8 a1_9 a2 a3 b W B0 hB0' B1 hB1' B2 hB2' (Kd.C_below hr1_1 hb) hc1_1 (Kd.C_below hr1_2 hb) hc1_2 (Kd.C_below hr1_8 hb) hc1_8 hq
 exact hh.mono (fun e w' hx => ⟨hx.1, hx.2⟩)

/-! ### impl_SureWindows: function 39 -/
def impl_SureWindows.f (k : Nat) (a0_0 : Int) (l0_1 : List (S105)) (l0_2 : List (S109)) (a0_3 : Int) (a0_4 : Int) (a0_5 : Int) (a0_6 : Int) (a0_7 : Int) (l0_8 : List (S115)) (a0_9 : Int) (a1 : Int) (a2 : Int) (a3 : Int) (a4 : Int) : Option ((List (S73))) := (where_impl_SureWindows_1.f k a3 a4 a0_0 l0_1 l0_2 a0_3 a0_4 a0_5 a0_6 a0_7 l0_8 a0_9 a1 a2).bind fun t413 => (some t413)
theorem impl_SureWindows.mono : ∀ a0 a1 a2 a3 a4 a5 a6 a7 a8 a9 a10 a11 a12 a13 k, LeO (impl_SureWindows.f k a0 a1 a2 a3 a4 a5 a6 a7 a8 a9 a10 a11 a12 a13) (impl_SureWindows.f (k + 1) a0 a1 a2 a3 a4 a5 a6 a7 a8 a9 a10 a11 a12 a13) := by
 intro a0 a1 a2 a3 a4 a5 a6 a7 a8 a9 a10 a11 a12 a13 k
 unfold impl_SureWindows.f
 repeat' first | (with_reducible first | exact where_impl_SureWindows_1.mono _ _ _ _ _ _ _ _ _ _ _ _ _ _ _ | exact LeO.refl _ | exact LeO.none _ | refine LeO.ite ?_ ?_ | refine LeO.bind ?_ (fun _ => ?_)) | exact LeO.none _ | refine LeO.ite ?_ ?_ | refine LeO.bind ?_ (fun _ => ?_)
set_option maxHeartbeats 8000000 in
set_option maxRecDepth 100000 in
theorem impl_SureWindows.calls (k : Nat) (a0_0 : Int) (A0_1 : Option Addr) (c0_1 : Nat) (l0_1 : List (S105)) (A0_2 : Option Addr) (c0_2 : Nat) (l0_2 : List (S109)) (a0_3 : Int) (a0_4 : Int) (a0_5 : Int) (a0_6 : Int) (a0_7 : Int) (A0_8 : Option Addr) (c0_8 : Nat) (l0_8 : List (S115)) (a0_9 : Int) (a1 : Int) (a2 : Int) (a3 : Int) (a4 : Int) (r : List (S73)) (w : World) (hr0_1 : Kd.C k105 w A0_1 l0_1.length l0_1) (hc0_1 : l0_1.length ≤ c0_1) (hr0_2 : Kd.C k109 w A0_2 l0_2.length l0_2) (hc0_2 : l0_2.length ≤ c0_2) (hr0_8 : Kd.C k115 w A0_8 l0_8.length l0_8) (hc0_8 : l0_8.length ≤ c0_8) (h : impl_SureWindows.f k a0_0 l0_1 l0_2 a0_3 a0_4 a0_5 a0_6 a0_7 l0_8 a0_9 a1 a2 a3 a4 = some r) :
  Calls Try.prog 39 #[.agg #[.int .i64 a0_0, .slice A0_1 l0_1.length c0_1, .slice A0_2 l0_2.length c0_2, .int .i64 a0_3, .int .i64 a0_4, .int .i64 a0_5, .int .i64 a0_6, .int .i64 a0_7, .slice A0_8 l0_8.length c0_8, .int .i64 a0_9], .int .i64 a1, .int .i64 a2, .int .i64 a3, .int .i64 a4] w fun e w' => ∃ v0_ : Value, e = .returned (v0_) ∧ Kd.R k73 73 w' w.heap.size (fun _ => True) v0_ r ∧ Below w.heap.size w w' := by
 have HR0_1 := Aside0.mk hr0_1
 have HC0_1 := Aside0.mk hc0_1
 clear hr0_1 hc0_1
 have HR0_2 := Aside0.mk hr0_2
 have HC0_2 := Aside0.mk hc0_2
 clear hr0_2 hc0_2
 have HR0_8 := Aside0.mk hr0_8
 have HC0_8 := Aside0.mk hc0_8
 clear hr0_8 hc0_8
 have HB := Aside0.mk (Below.refl w.heap.size w)
 have H := h
 clear h
 unfold impl_SureWindows.f at H
 replace H := bs_ H
 obtain ⟨t413, A6, H⟩ := H
 obtain rfl := Option.some.inj H
 go_enter Try.func39, Try.ntmps39
 go_wp2_with (first | ((with_reducible refine gd_ 5 ?_); refine bx_ 5 34 #[.int .i64 a0_0, .slice A0_1 l0_1.length c0_1, .slice A0_2 l0_2.length c0_2, .int .i64 a0_3, .int .i64 a0_4, .int .i64 a0_5, .int .i64 a0_6, .int .i64 a0_7, .slice A0_8 l0_8.length c0_8, .int .i64 a0_9] ?_; intro gx5 hg wx5 hbox hb; refine sh1_ (below_step HB.out hb) ?_; clear HB; intro HB; have BK5_ := Aside0.mk hbox; clear hb hg hbox) | ((with_reducible refine gd_ 6 ?_); refine bx_ 6 3 #[.int .i64 a1] ?_; intro gx6 hg wx6 hbox hb; have n0_ := Aside0.mk (below_step HB.out hb); have BKn5_ := Aside0.mk (blk_below BK5_.out hb); clear BK5_; have BK5_ := BKn5_; clear BKn5_; clear HB; have HB := n0_; clear n0_; have BK6_ := Aside0.mk hbox; clear hb hg hbox) | ((with_reducible refine gd_ 7 ?_); refine bx_ 7 3 #[.int .i64 a2] ?_; intro gx7 hg wx7 hbox hb; have n0_ := Aside0.mk (below_step HB.out hb); have BKn5_ := Aside0.mk (blk_below BK5_.out hb); clear BK5_; have BK5_ := BKn5_; clear BKn5_; have BKn6_ := Aside0.mk (blk_below BK6_.out hb); clear BK6_; have BK6_ := BKn6_; clear BKn6_; clear HB; have HB := n0_; clear n0_; have BK7_ := Aside0.mk hbox; clear hb hg hbox) | ((with_reducible refine gate_callee (f := 75) rfl ?_); refine gl_ 14 Try.func75 (where_impl_SureWindows_1.calls k a3 a4 a0_0 _ _ l0_1 _ _ l0_2 a0_3 a0_4 a0_5 a0_6 a0_7 _ _ l0_8 a0_9 a1 a2 t413 _ gx5 BK5_.out gx6 BK6_.out gx7 BK7_.out (ck_ HR0_1 HB) HC0_1.out (ck_ HR0_2 HB) HC0_2.out (ck_ HR0_8 HB) HC0_8.out A6.out) ?_; rintro e w7 ⟨v414, rfl, ho0, hb⟩; refine ⟨_, rfl, sh2_ (Kd.R_lower ho0 (below_size (bl_ HB))) (below_step (bl_ HB) hb) ?_⟩; clear HB hb ho0; intro HO415 HB))
 go_ret
 exact ⟨_, er_, ra_ HO415, bl_ HB⟩

/-! ### impl_IsSpan: function 96 -/
def impl_IsSpan.f (a0_0 : Int) (a0_1 : Int) : Option (Bool) := if a0_0 ≥ 0 then (if a0_1 ≤ 1000 then (some (decide (a0_0 < a0_1))) else (some false)) else (some false)
set_option maxHeartbeats 8000000 in
set_option maxRecDepth 100000 in
theorem impl_IsSpan.calls (a0_0 : Int) (a0_1 : Int) (r : Bool) (w : World) (h : impl_IsSpan.f a0_0 a0_1 = some r) :
  Calls Try.prog 96 #[.agg #[.int .i64 a0_0, .int .i64 a0_1]] w fun e w' => e = .returned (.bool r) ∧ Below w.heap.size w w' := by
 have hu73 := Try.underlying73
 have HB := Aside0.mk (Below.refl w.heap.size w)
 have H := h
 clear h
 unfold impl_IsSpan.f at H
 by_cases c2 : a0_0 ≥ 0
 ·rw [if_pos c2] at H
  have c2b0 : decide (0 ≤ a0_0) = true := decide_eq_true c2
  clear c2
  by_cases c3 : a0_1 ≤ 1000
  ·rw [if_pos c3] at H
   have c3b0 := decide_eq_true c3
   clear c3
   obtain rfl := Option.some.inj H
   go_enter Try.func96, Try.ntmps96
   go_wp2_with (first | ((with_reducible refine gd_ 1 ?_); refine bx_ 1 73 #[.int .i64 a0_0, .int .i64 a0_1] ?_; intro gb416 hg w4 hbox hb; refine sh3_ (below_step (bl_ HB) hb) hbox (ge_ hg (bl_ HB)) ?_; clear HB hb hbox hg; intro HB BK416 GE416; have hcz5 := cf2_ BK416))
   go_ret
   exact ⟨er_, bl1_ HB GE416⟩
  ·rw [if_neg c3] at H
   have c3b0 := decide_eq_false c3
   clear c3
   obtain rfl := Option.some.inj H
   go_enter Try.func96, Try.ntmps96
   go_wp2_with (first | ((with_reducible refine gd_ 1 ?_); refine bx_ 1 73 #[.int .i64 a0_0, .int .i64 a0_1] ?_; intro gb416 hg w6 hbox hb; refine sh3_ (below_step (bl_ HB) hb) hbox (ge_ hg (bl_ HB)) ?_; clear HB hb hbox hg; intro HB BK416 GE416; have hcz7 := cf2_ BK416))
   go_ret
   exact ⟨er_, bl1_ HB GE416⟩
 ·rw [if_neg c2] at H
  have c2b0 : decide (0 ≤ a0_0) = false := decide_eq_false c2
  clear c2
  obtain rfl := Option.some.inj H
  go_enter Try.func96, Try.ntmps96
  go_wp2_with (first | ((with_reducible refine gd_ 1 ?_); refine bx_ 1 73 #[.int .i64 a0_0, .int .i64 a0_1] ?_; intro gb416 hg w8 hbox hb; refine sh3_ (below_step (bl_ HB) hb) hbox (ge_ hg (bl_ HB)) ?_; clear HB hb hbox hg; intro HB BK416 GE416; have hcz9 := cf2_ BK416))
  go_ret
  exact ⟨er_, bl1_ HB GE416⟩

/-! ### impl_ticks: function 85 -/
mutual
def impl_ticks.l0 : Nat → List Bool → List (S73) → Int → Int → Option (List Bool)
 | 0, _, _, _, _ => none
 | k + 1, x3, x8, x9, x10 => if x10 < x9 then (if 0 ≤ x10 then (if x10 < (x8.length : Int) then ((impl_IsSpan.f ((rd_T73 x8 x10).f0) ((rd_T73 x8 x10).f1)).bind fun t422 => (if t422 = true then (impl_ticks.l1 k x3 ((rd_T73 x8 x10).f0) x8 x9 x10 ((rd_T73 x8 x10).f0) ((rd_T73 x8 x10).f1)) else (impl_ticks.l0 k x3 x8 x9 (wrap64 (x10 + 1))))) else (none)) else (none)) else (some x3)
def impl_ticks.l1 : Nat → List Bool → Int → List (S73) → Int → Int → Int → Int → Option (List Bool)
 | 0, _, _, _, _, _, _, _ => none
 | k + 1, x3, x6, x8, x9, x10, x422000, x422001 => if x6 < x422001 then (if 0 ≤ x6 then (if x6 < (x3.length : Int) then (impl_ticks.l1 k (x3.set (x6 : Int).toNat true) (wrap64 (x6 + 1)) x8 x9 x10 x422000 x422001) else (none)) else (none)) else (impl_ticks.l0 k x3 x8 x9 (wrap64 (x10 + 1)))
end
def impl_ticks.f (k : Nat) (l0 : List (S73)) : Option (List Bool) := if 1000 ≤ 281474976710656 then (impl_ticks.l0 k (List.replicate 1000 false) l0 (l0.length : Int) 0) else (none)
theorem impl_ticks.mono_l : ∀ k, (∀ y0 y1 y2 y3, LeO (impl_ticks.l0 k y0 y1 y2 y3) (impl_ticks.l0 (k + 1) y0 y1 y2 y3)) ∧ (∀ y0 y1 y2 y3 y4 y5 y6, LeO (impl_ticks.l1 k y0 y1 y2 y3 y4 y5 y6) (impl_ticks.l1 (k + 1) y0 y1 y2 y3 y4 y5 y6))
 | 0 => ⟨fun _ _ _ _ r h => by simp [impl_ticks.l0] at h, fun _ _ _ _ _ _ _ r h => by simp [impl_ticks.l1] at h⟩
 | k + 1 => by
  obtain ⟨ih0, ih1⟩ := impl_ticks.mono_l k
  refine ⟨?_, ?_⟩
  ·intro y0 y1 y2 y3
   unfold impl_ticks.l0
   repeat' first | (with_reducible first | exact ih0 _ _ _ _ | exact ih1 _ _ _ _ _ _ _ | exact LeO.refl _ | exact LeO.none _ | refine LeO.ite ?_ ?_ | refine LeO.bind ?_ (fun _ => ?_)) | exact LeO.none _ | refine LeO.ite ?_ ?_ | refine LeO.bind ?_ (fun _ => ?_)
  ·intro y0 y1 y2 y3 y4 y5 y6
   unfold impl_ticks.l1
   repeat' first | (with_reducible first | exact ih0 _ _ _ _ | exact ih1 _ _ _ _ _ _ _ | exact LeO.refl _ | exact LeO.none _ | refine LeO.ite ?_ ?_ | refine LeO.bind ?_ (fun _ => ?_)) | exact LeO.none _ | refine LeO.ite ?_ ?_ | refine LeO.bind ?_ (fun _ => ?_)
theorem impl_ticks.mono : ∀ a0 k, LeO (impl_ticks.f k a0) (impl_ticks.f (k + 1) a0) := by
 intro a0 k
 obtain ⟨ih0, ih1⟩ := impl_ticks.mono_l k
 unfold impl_ticks.f
 repeat' first | (with_reducible first | exact ih0 _ _ _ _ | exact ih1 _ _ _ _ _ _ _ | exact LeO.refl _ | exact LeO.none _ | refine LeO.ite ?_ ?_ | refine LeO.bind ?_ (fun _ => ?_)) | exact LeO.none _ | refine LeO.ite ?_ ?_ | refine LeO.bind ?_ (fun _ => ?_)
set_option maxHeartbeats 8000000 in
set_option maxRecDepth 100000 in
theorem impl_ticks.calls (k : Nat) (A0 : Option Addr) (c0 : Nat) (l0 : List (S73)) (r : List Bool) (w : World) (hr0 : Kd.C k73 w A0 l0.length l0) (hc0 : l0.length ≤ c0) (h : impl_ticks.f k l0 = some r) :
  Calls Try.prog 85 #[.slice A0 l0.length c0] w fun e w' => ∃ v0_ : Value, e = .returned (v0_) ∧ Kd.R Kd.bool 4 w' w.heap.size (fun _ => True) v0_ r ∧ Below w.heap.size w w' := by
 have hu73 := Try.underlying73
 have HR0 := Aside0.mk hr0
 have HC0 := Aside0.mk hc0
 clear hr0 hc0
 have HB := Aside0.mk (Below.refl w.heap.size w)
 have H := h
 clear h
 unfold impl_ticks.f at H
 replace H := ifn_ H
 obtain ⟨c2, H⟩ := H
 have c2b0 := eq_true c2
 have c2b1 := decide_eq_true c2
 clear c2
 replace H : ∃ y_ : List Bool, Aside0 (y_ = (List.replicate 1000 false)) ∧ (impl_ticks.l0 k y_ l0 (l0.length : Int) 0) = some r := ⟨_, ⟨rfl⟩, yh_ H⟩
 obtain ⟨y417, Ny417, H⟩ := H
 have H' := Aside0.mk H
 clear H
 go_enter Try.func85, Try.ntmps85
 go_wp2_with (first | ((with_reducible refine gate_dst (N := 7) rfl ?_); refine Kd.R_make Kd.bool _ 4 rfl (N := 7) rfl 120 _ _ rfl 1000 rfl rfl Try.underlying120 (.bool false) 1 info4 rfl (by decide) (by omega) false (ok := fun _ => True) (okp := fun _ => True) rfl (fun _ hk => hk) trivial (by omega) (by omega) (Below.refl _ _) (Nat.le_refl _) ?_; intro v418 w3 ho4 hb hg_ hnew_; clear hg_ hnew_; (first | rw [← Ny417.out] at ho4 | (simp only [Int.reduceToNat] at ho4; rw [← Ny417.out] at ho4)); refine sh2_ (Kd.R_lower ho4 (below_size (bl_ HB))) (below_step (bl_ HB) hb) ?_; clear HB hb ho4; intro HO419 HB))
 go_loopg [10] k (fun kq v10 w' => ∃ (x3_1 : List Bool) (x10_1 : Int), v10 = .int .i64 x10_1 ∧ Aside0 (impl_ticks.l0 kq x3_1 l0 (l0.length : Int) x10_1 = some r) ∧ Aside0 (kq ≤ k) ∧ Aside0 (Kd.R Kd.bool 4 w' w.heap.size (fun _ => True) v418 x3_1) ∧ Aside0 (Below w.heap.size w w'))
 case atStart => exact ⟨(y417), (0), (by first | rfl | (simp; done) | (simp [*]; done)), H', ⟨Nat.le_refl _⟩, ⟨ra_ HO419⟩, ⟨bl_ HB⟩⟩
 case round =>
  clear H'
  try clear c2
  try clear c2b0
  try clear c2b1
  try clear p2
  obtain ⟨x3_1, x10_1, rfl, HA, HK1, HO_3, HB⟩ := hrel
  cases gk with
  | zero => exact absurd HA.out (by simp [impl_ticks.l0])
  | succ k1 =>
   have H := HA.out
   clear HA
   simp only [impl_ticks.l0] at H
   by_cases c5 : x10_1 < (l0.length : Int)
   ·rw [if_pos c5] at H
    have c5b0 := decide_eq_true c5
    clear c5
    replace H := ifn_ H
    obtain ⟨c6, H⟩ := H
    have c6b0 := decide_eq_true c6
    clear c6
    replace H := ifn_ H
    obtain ⟨c7, H⟩ := H
    have c7b0 := decide_eq_true c7
    clear c7
    replace H := bs_ H
    obtain ⟨t422, A8, H⟩ := H
    by_cases c9 : t422 = true
    ·subst c9
     rw [if_pos rfl] at H
     have H' := Aside0.mk H
     clear H
     have p420 : 0 ≤ (x10_1 : Int) := od_
     have q420 : x10_1 < (l0.length : Int) := od_
     obtain ⟨ad420, e420, hx420_0, hx420_1⟩ := at_T73 HR0.out x10_1 p420 q420
     cases e420
     replace hx420_0 := hbc_ HB hx420_0
     replace hx420_1 := hbc_ HB hx420_1
     replace p420 := eq_true p420
     replace q420 := eq_true q420
     go_wp2_with (first | ((with_reducible refine gd_ 5 ?_); refine bx_ 5 73 #[.int .i64 0, .int .i64 0] ?_; intro gb421 hg w10 hbox hb; refine sh4_ (Kd.R_below (ra_ HO_3) hb) (below_step (bl_ HB) hb) hbox (ge_ hg (bl_ HB)) ?_; clear HO_3 HB hb hbox hg; intro HO_3 HB BK421 GE421; have hcz11 := cf2_ BK421) | ((with_reducible refine gate_callee (f := 96) rfl ?_); refine gl_ 15 Try.func96 (impl_IsSpan.calls ((rd_T73 l0 x10_1).f0) ((rd_T73 l0 x10_1).f1) true _ A8.out) ?_; rintro e w12 ⟨rfl, hb⟩; refine ⟨_, rfl, sh3_ (Kd.R_below (by (with_reducible repeat (first | apply Kd.R_alloc | apply Kd.R_drewN | apply Kd.R_drew)); exact (Kd.R_mono (Kd.R_far (p := ⟨gb421, 1, none⟩) (Kd.R_far (p := ⟨gb421, 0, none⟩) (Kd.R_types HO_3.out BK421.out (by decide)) (fun _ hk => hk.2) (.int .i64 ((rd_T73 l0 x10_1).f0))) (fun _ hk => hk.2) (.int .i64 ((rd_T73 l0 x10_1).f1))) (fun _ h_ => h_.1))) hb) (blk_below (g := gb421) (o := .cells #[.int .i64 ((rd_T73 l0 x10_1).f0), .int .i64 ((rd_T73 l0 x10_1).f1)] 73 (0, 0)) (bp_ BK421) hb) (below_step (bl1_ HB GE421) hb) ?_⟩; clear HO_3 BK421 HB hb; intro HO_3 BK421 HB; have hcz13 := cf2_ BK421))
     go_loopg [6] k1 (fun kq v6 w' => ∃ (x3_2 : List Bool) (x6_2 : Int), v6 = .int .i64 x6_2 ∧ Aside0 (impl_ticks.l1 kq x3_2 x6_2 l0 (l0.length : Int) x10_1 ((rd_T73 l0 x10_1).f0) ((rd_T73 l0 x10_1).f1) = some r) ∧ Aside0 (kq ≤ k1) ∧ Aside0 (Kd.R Kd.bool 4 w' w.heap.size (fun _ => True) v418 x3_2) ∧ Aside0 (w'.heap[gb421]? = some (.cells #[.int .i64 ((rd_T73 l0 x10_1).f0), .int .i64 ((rd_T73 l0 x10_1).f1)] 73 (0, 0))) ∧ Aside0 (Below w.heap.size w w'))
     case atStart => exact ⟨(x3_1), ((rd_T73 l0 x10_1).f0), (by first | rfl | (simp; done) | (simp [*]; done)), H', ⟨Nat.le_refl _⟩, ⟨ra_ HO_3⟩, ⟨by (with_reducible repeat (first | refine blk_drewN ?_ _ | refine blk_drew ?_ | refine blk_alloc ?_ _)); exact BK421.out⟩, ⟨bl1_ HB GE421⟩⟩
     case round =>
      clear H'
      try clear c2
      try clear c2b0
      try clear c2b1
      try clear p2
      try clear p4
      try clear q4
      try clear hx4
      try clear c5
      try clear c5b0
      try clear c6
      try clear c6b0
      try clear c7
      try clear c7b0
      try clear c8
      try clear c9
      try clear hcz11
      try clear hcz13
      try clear hx420_0
      try clear hx420_1
      try clear p2
      try clear p420
      try clear q420
      obtain ⟨x3_2, x6_2, rfl, HA, HK2, HO_3, BK421, HB⟩ := hrel
      cases gk with
      | zero => exact absurd HA.out (by simp [impl_ticks.l1])
      | succ k2 =>
       have H := HA.out
       clear HA
       simp only [impl_ticks.l1] at H
       by_cases c14 : x6_2 < ((rd_T73 l0 x10_1).f1)
       ·rw [if_pos c14] at H
        have c14b0 := decide_eq_true c14
        clear c14
        replace H := ifn_ H
        obtain ⟨c15, H⟩ := H
        have c15b0 := decide_eq_true c15
        clear c15
        replace H := ifn_ H
        obtain ⟨c16, H⟩ := H
        have c16b0 := decide_eq_true c16
        clear c16
        replace H : ∃ y_ : List Bool, Aside0 (y_ = (x3_2.set (x6_2 : Int).toNat true)) ∧ (impl_ticks.l1 k2 y_ (wrap64 (x6_2 + 1)) l0 (l0.length : Int) x10_1 ((rd_T73 l0 x10_1).f0) ((rd_T73 l0 x10_1).f1)) = some r := ⟨_, ⟨rfl⟩, yh_ H⟩
        obtain ⟨y423, Ny423, H⟩ := H
        have H' := Aside0.mk H
        clear H
        have hcz18 := cf2_ BK421
        have p17 : 0 ≤ (x6_2 : Int) := od_
        have q17 : (x6_2 : Int) < ((x3_2.length : Int) : Int) := od_
        obtain ⟨go17, co17, eo17, gb17, gl17, cl17, HG17⟩ := Kd.R_form HO_3.out (by omega)
        (first | cases eo17 | (injection eo17 with ea_ en_ ec_; (first | subst ea_ | (injection ea_ with ea_; subst ea_)); subst ec_; clear en_))
        have GB17 := Aside0.mk gb17
        have GG17 := Aside0.mk HG17
        clear gb17 gl17 HG17
        obtain ⟨hx17_0, hf17_0⟩ := Kd.R_celln false HO_3.out (x6_2 : Int) p17 q17
        replace p17 := eq_true p17
        replace q17 := eq_true q17
        have HP19 := Kd.R_putg HO_3.out (x6_2 : Int) true
        go_wp2_with (first | ((with_reducible refine gate_store (t := 4) (p := 26) rfl ?_); refine store_event (t := 4) (p := 26) (v := ?vo_w20) (w1 := (wr.setCell ⟨go17, (x6_2 : Int).toNat, none⟩ (.bool true))) ?hg ?ho ?hn ?hr ?_; (case ho => rfl); (case hg => rfl); (case hn => rfl); (case hr => first | (go_simp; done) | (go_simp; rfl)); intro w20 hw; have hg : wr.grownBy w20 (some go17) := (by rw [hw]; exact HP19.2); have hp_ : Kd.R Kd.bool 4 w20 w.heap.size (fun _ => True) (.slice (some ⟨go17, 0, none⟩) x3_2.length co17) y423 := (by rw [hw, Ny423.out]; exact HP19.1); clear HP19; refine sh3_ hp_ (blk_grown (g := gb421) (o := .cells #[.int .i64 ((rd_T73 l0 x10_1).f0), .int .i64 ((rd_T73 l0 x10_1).f1)] 73 (0, 0)) (bk_ BK421) hg (Kd.R_ne HO_3.out BK421.out (by decide))) ((by rw [hw]; exact below_set (HB.out) GB17.out : Below w.heap.size w w20)) ?_; clear HO_3 BK421 HB; intro HO_3 BK421 HB; clear hg hw hp_))
        go_roundg k2
        case measure => have := HK1.out; have := HK2.out; omega
        case rel => exact ⟨(y423), (wrap64 (x6_2 + 1)), (by first | rfl | (simp; done) | (simp [*]; done)), H', ⟨by have := HK1.out; have := HK2.out; omega⟩, ⟨ra_ HO_3⟩, ⟨by (with_reducible repeat (first | refine blk_drewN ?_ _ | refine blk_drew ?_ | refine blk_alloc ?_ _)); exact BK421.out⟩, ⟨bl1_ HB GE421⟩⟩
       ·rw [if_neg c14] at H
        have c14b0 := decide_eq_false c14
        clear c14
        have H' := Aside0.mk H
        clear H
        have hcz21 := cf2_ BK421
        go_wp2
        go_roundg k2
        case measure => have := HK1.out; have := HK2.out; omega
        case rel => exact ⟨(x3_2), (wrap64 (x10_1 + 1)), (by first | rfl | (simp; done) | (simp [*]; done)), H', ⟨by have := HK1.out; have := HK2.out; omega⟩, ⟨ra_ HO_3⟩, ⟨bl1_ HB GE421⟩⟩
    ·replace c9 := Bool.eq_false_iff.mpr c9
     subst c9
     have H1 : (impl_ticks.l0 k1 x3_1 l0 (l0.length : Int) (wrap64 (x10_1 + 1))) = some r := by rw [if_neg (show ¬ (false = true) by decide)] at H; exact H
     clear H
     have H := H1
     clear H1
     have H' := Aside0.mk H
     clear H
     have p420 : 0 ≤ (x10_1 : Int) := od_
     have q420 : x10_1 < (l0.length : Int) := od_
     obtain ⟨ad420, e420, hx420_0, hx420_1⟩ := at_T73 HR0.out x10_1 p420 q420
     cases e420
     replace hx420_0 := hbc_ HB hx420_0
     replace hx420_1 := hbc_ HB hx420_1
     replace p420 := eq_true p420
     replace q420 := eq_true q420
     go_wp2_with (first | ((with_reducible refine gd_ 5 ?_); refine bx_ 5 73 #[.int .i64 0, .int .i64 0] ?_; intro gb421 hg w22 hbox hb; refine sh4_ (Kd.R_below (ra_ HO_3) hb) (below_step (bl_ HB) hb) hbox (ge_ hg (bl_ HB)) ?_; clear HO_3 HB hb hbox hg; intro HO_3 HB BK421 GE421; have hcz23 := cf2_ BK421) | ((with_reducible refine gate_callee (f := 96) rfl ?_); refine gl_ 15 Try.func96 (impl_IsSpan.calls ((rd_T73 l0 x10_1).f0) ((rd_T73 l0 x10_1).f1) false _ A8.out) ?_; rintro e w24 ⟨rfl, hb⟩; refine ⟨_, rfl, sh3_ (Kd.R_below (by (with_reducible repeat (first | apply Kd.R_alloc | apply Kd.R_drewN | apply Kd.R_drew)); exact (Kd.R_mono (Kd.R_far (p := ⟨gb421, 1, none⟩) (Kd.R_far (p := ⟨gb421, 0, none⟩) (Kd.R_types HO_3.out BK421.out (by decide)) (fun _ hk => hk.2) (.int .i64 ((rd_T73 l0 x10_1).f0))) (fun _ hk => hk.2) (.int .i64 ((rd_T73 l0 x10_1).f1))) (fun _ h_ => h_.1))) hb) (blk_below (g := gb421) (o := .cells #[.int .i64 ((rd_T73 l0 x10_1).f0), .int .i64 ((rd_T73 l0 x10_1).f1)] 73 (0, 0)) (bp_ BK421) hb) (below_step (bl1_ HB GE421) hb) ?_⟩; clear HO_3 BK421 HB hb; intro HO_3 BK421 HB))
     go_roundg k1
     case measure => have := HK1.out; omega
     case rel => exact ⟨(x3_1), (wrap64 (x10_1 + 1)), (by first | rfl | (simp; done) | (simp [*]; done)), H', ⟨by have := HK1.out; omega⟩, ⟨ra_ HO_3⟩, ⟨bl1_ HB GE421⟩⟩
   ·rw [if_neg c5] at H
    have c5b0 : decide (x10_1 < (l0.length : Int)) = false := decide_eq_false c5
    clear c5
    obtain rfl := Option.some.inj H
    go_wp2
    go_ret
    exact ⟨_, er_, ra_ HO_3, bl_ HB⟩

/-! ### impl_CutSpans_1: function 86 -/
def impl_CutSpans_1.f (a0 : Int) (l1 : List Bool) (l2 : List Bool) : Option (Bool) := if 0 ≤ a0 then (if a0 < (l1.length : Int) then (if rdOf false l1 a0 = true then (if a0 < (l2.length : Int) then (some (!(rdOf false l2 a0))) else (none)) else (some false)) else (none)) else (none)
set_option maxHeartbeats 8000000 in
set_option maxRecDepth 100000 in
theorem impl_CutSpans_1.calls (a0 : Int) (A1 : Option Addr) (c1 : Nat) (l1 : List Bool) (A2 : Option Addr) (c2 : Nat) (l2 : List Bool) (r : Bool) (w : World) (B0 : Nat) (hB0 : w.heap[B0]? = some (.cells #[.slice A1 l1.length c1] 120 (0, 0))) (B1 : Nat) (hB1 : w.heap[B1]? = some (.cells #[.slice A2 l2.length c2] 120 (0, 0))) (hr1 : Kd.C Kd.bool w A1 l1.length l1) (hc1 : l1.length ≤ c1) (hr2 : Kd.C Kd.bool w A2 l2.length l2) (hc2 : l2.length ≤ c2) (h : impl_CutSpans_1.f a0 l1 l2 = some r) :
  Calls Try.prog 86 #[.int .i64 a0, .pointer (some ⟨B0, 0, none⟩), .pointer (some ⟨B1, 0, none⟩)] w fun e w' => e = .returned (.bool r) ∧ Drawn0 w w' := by
 have hcB0_0 : w.cell? ⟨B0, 0, none⟩ = some (.slice A1 l1.length c1) := (blk_cell hB0 0).trans rfl
 have hcB1_0 : w.cell? ⟨B1, 0, none⟩ = some (.slice A2 l2.length c2) := (blk_cell hB1 0).trans rfl
 have HR1 := Aside0.mk hr1
 have HC1 := Aside0.mk hc1
 clear hr1 hc1
 have HR2 := Aside0.mk hr2
 have HC2 := Aside0.mk hc2
 clear hr2 hc2
 have H := h
 clear h
 unfold impl_CutSpans_1.f at H
 replace H := ifn_ H
 obtain ⟨c4, H⟩ := H
 have c4b0 := decide_eq_true c4
 clear c4
 replace H := ifn_ H
 obtain ⟨c5, H⟩ := H
 have c5b0 := decide_eq_true c5
 clear c5
 obtain ⟨bq6, hbq6⟩ : ∃ b_ : Bool, b_ = (rdOf false l1 a0) := ⟨_, rfl⟩
 replace H : (if bq6 = true then (if a0 < (l2.length : Int) then (some (!(rdOf false l2 a0))) else (none)) else (some false)) = some r := by rw [← hbq6] at H; exact H
 have Nbq6 := Aside0.mk hbq6
 clear hbq6
 by_cases c7 : bq6 = true
 ·subst c7
  rw [if_pos rfl] at H
  replace H := ifn_ H
  obtain ⟨c8, H⟩ := H
  have c8b0 := decide_eq_true c8
  clear c8
  obtain rfl := Option.some.inj H
  have p424 : 0 ≤ (a0 : Int) := od_
  have q424 : a0 < (l1.length : Int) := od_
  obtain ⟨ad424, e424, hx424_0⟩ := Kd.at_bool HR1.out a0 p424 q424
  (try rw [← Nbq6.out] at hx424_0)
  cases e424
  replace p424 := eq_true p424
  replace q424 := eq_true q424
  have p425 : 0 ≤ (a0 : Int) := od_
  have q425 : a0 < (l2.length : Int) := od_
  obtain ⟨ad425, e425, hx425_0⟩ := Kd.at_bool HR2.out a0 p425 q425
  (try rw [← Nbq6.out] at hx425_0)
  cases e425
  replace p425 := eq_true p425
  replace q425 := eq_true q425
  go_enter Try.func86, Try.ntmps86
  go_wp2
  go_ret
  exact ⟨by first | rfl | (simp; done) | (simp [*]; done), by repeat (first | exact Drawn0.refl _ | apply Drawn0.step)⟩
 ·replace c7 := Bool.eq_false_iff.mpr c7
  subst c7
  have H1 : (some false) = some r := by rw [if_neg (show ¬ (false = true) by decide)] at H; exact H
  clear H
  have H := H1
  clear H1
  obtain rfl := Option.some.inj H
  have p424 : 0 ≤ (a0 : Int) := od_
  have q424 : a0 < (l1.length : Int) := od_
  obtain ⟨ad424, e424, hx424_0⟩ := Kd.at_bool HR1.out a0 p424 q424
  (try rw [← Nbq6.out] at hx424_0)
  cases e424
  replace p424 := eq_true p424
  replace q424 := eq_true q424
  go_enter Try.func86, Try.ntmps86
  go_wp2
  go_ret
  exact ⟨by first | rfl | (simp; done) | (simp [*]; done), by repeat (first | exact Drawn0.refl _ | apply Drawn0.step)⟩


def where_impl_CutSpans_1.f (k : Nat) (y0 y1 : Int) (l1 : List Bool) (l2 : List Bool) : Option (List (S73)) := sw.f (fun k' t' => impl_CutSpans_1.f t' l1 l2) k y0 y1
theorem where_impl_CutSpans_1.mono : ∀ y0 y1 l1 l2 k, LeO (where_impl_CutSpans_1.f k y0 y1 l1 l2) (where_impl_CutSpans_1.f (k + 1) y0 y1 l1 l2) := fun y0 y1 l1 l2 k => sw.mono _ (fun _ _ => LeO.refl _) y0 y1 k
theorem where_impl_CutSpans_1.calls (k : Nat) (y0 y1 : Int) (A1 : Option Addr) (c1 : Nat) (l1 : List Bool) (A2 : Option Addr) (c2 : Nat) (l2 : List Bool) (r : List (S73)) (w : World) (B0 : Nat) (hB0 : w.heap[B0]? = some (.cells #[.slice A1 l1.length c1] 120 (0, 0))) (B1 : Nat) (hB1 : w.heap[B1]? = some (.cells #[.slice A2 l2.length c2] 120 (0, 0))) (hr1 : Kd.C Kd.bool w A1 l1.length l1) (hc1 : l1.length ≤ c1) (hr2 : Kd.C Kd.bool w A2 l2.length l2) (hc2 : l2.length ≤ c2) (h : where_impl_CutSpans_1.f k y0 y1 l1 l2 = some r) :
  Calls Try.prog 75 #[.int .i64 y0, .int .i64 y1, .func (.func 86) #[] #[.pointer (some ⟨B0, 0, none⟩), .pointer (some ⟨B1, 0, none⟩)]] w fun e w' => ∃ v0_ : Value, e = .returned (v0_) ∧ Kd.R k73 73 w' w.heap.size (fun _ => True) v0_ r ∧ Below w.heap.size w w' := by
 refine sw.calls (fun k' t' => impl_CutSpans_1.f t' l1 l2) k y0 y1 r w 86 _ (fun args w => enters_ Try.func86 (by kernel_rfl) rfl args w) (fun k' t b W hq hb => ?_) h
 have hB0' := blk_below hB0 hb
 have hB1' := blk_below hB1 hb
 have hh := impl_CutSpans_1.calls t A1 c1 l1 A2 c2 l2 b W B0 hB0' B1 hB1' (Kd.C_below hr1 hb) hc1 (Kd.C_below hr2 hb) hc2 hq
 exact hh.mono (fun e w' hx => ⟨hx.1, by obtain ⟨n, rfl⟩ := hx.2.out; exact pw_below_drewN (Below.refl _ _) n⟩)

/-! ### impl_CutSpans: function 48 -/
def impl_CutSpans.f (k : Nat) (l0 : List (S73)) (l1 : List (S73)) : Option ((List (S73))) := (impl_ticks.f k l0).bind fun t426 => ((impl_ticks.f k l1).bind fun t429 => ((where_impl_CutSpans_1.f k 0 1000 t426 t429).bind fun t432 => (some t432)))
theorem impl_CutSpans.mono : ∀ a0 a1 k, LeO (impl_CutSpans.f k a0 a1) (impl_CutSpans.f (k + 1) a0 a1) := by
 intro a0 a1 k
 unfold impl_CutSpans.f
 repeat' first | (with_reducible first | exact impl_ticks.mono _ _ | exact where_impl_CutSpans_1.mono _ _ _ _ _ | exact LeO.refl _ | exact LeO.none _ | refine LeO.ite ?_ ?_ | refine LeO.bind ?_ (fun _ => ?_)) | exact LeO.none _ | refine LeO.ite ?_ ?_ | refine LeO.bind ?_ (fun _ => ?_)
set_option maxHeartbeats 8000000 in
set_option maxRecDepth 100000 in
theorem impl_CutSpans.calls (k : Nat) (A0 : Option Addr) (c0 : Nat) (l0 : List (S73)) (A1 : Option Addr) (c1 : Nat) (l1 : List (S73)) (r : List (S73)) (w : World) (hr0 : Kd.C k73 w A0 l0.length l0) (hc0 : l0.length ≤ c0) (hr1 : Kd.C k73 w A1 l1.length l1) (hc1 : l1.length ≤ c1) (h : impl_CutSpans.f k l0 l1 = some r) :
  Calls Try.prog 48 #[.slice A0 l0.length c0, .slice A1 l1.length c1] w fun e w' => ∃ v0_ : Value, e = .returned (v0_) ∧ Kd.R k73 73 w' w.heap.size (fun _ => True) v0_ r ∧ Below w.heap.size w w' := by
 have HR0 := Aside0.mk hr0
 have HC0 := Aside0.mk hc0
 clear hr0 hc0
 have HR1 := Aside0.mk hr1
 have HC1 := Aside0.mk hc1
 clear hr1 hc1
 have HB := Aside0.mk (Below.refl w.heap.size w)
 have H := h
 clear h
 unfold impl_CutSpans.f at H
 replace H := bs_ H
 obtain ⟨t426, A3, H⟩ := H
 replace H := bs_ H
 obtain ⟨t429, A4, H⟩ := H
 replace H := bs_ H
 obtain ⟨t432, A5, H⟩ := H
 obtain rfl := Option.some.inj H
 go_enter Try.func48, Try.ntmps48
 go_wp2_with (first | ((with_reducible refine gate_callee (f := 85) rfl ?_); refine gl_ 8 Try.func85 (impl_ticks.calls k _ _ l0 t426 _ (cq_ HR0) HC0.out A3.out) ?_; rintro e w6 ⟨v427, rfl, ho0, hb⟩; refine ⟨_, rfl, sh2_ (Kd.R_lower ho0 (below_size (bl_ HB))) (below_step (bl_ HB) hb) ?_⟩; clear HB hb ho0; intro HO428 HB) | ((with_reducible refine gate_callee (f := 85) rfl ?_); refine gl_ 10 Try.func85 (impl_ticks.calls k _ _ l1 t429 _ (ck_ HR1 HB) HC1.out A4.out) ?_; rintro e w7 ⟨v430, rfl, ho0, hb⟩; refine ⟨_, rfl, sh3_ (Kd.R_elder' (ra_ HO428) (Kd.R_base ho0) hb) (Kd.R_lower (Kd.R_new' ho0 (Kd.R_lt (ra_ HO428))) (below_size (bl_ HB))) (below_step (bl_ HB) hb) ?_⟩; clear HO428 HB hb ho0; intro HO428 HO431 HB; obtain ⟨Ao8, co8, eo8⟩ := Kd.R_slice HO428.out; subst eo8; obtain ⟨Ao9, co9, eo9⟩ := Kd.R_slice HO431.out; subst eo9) | ((with_reducible refine gd_ 5 ?_); refine bx_ 5 120 #[.slice none 0 0] ?_; intro gx5 hg wx5 hbox hb; have hHBy_ := Aside0.mk hb; have GE5_ := Aside0.mk ((by rw [hg]; exact Nat.le_refl _ : w7.heap.size ≤ gx5)); have HBx_ := hHBy_; clear hHBy_; have BK5_ := Aside0.mk hbox; clear hb hg hbox; have hcz5_ := bc_ BK5_ 0 rfl; have hfz5_ := bf_ BK5_ 0) | ((with_reducible refine gd_ 6 ?_); refine bx_ 6 120 #[.slice none 0 0] ?_; intro gx6 hg wx6 hbox hb; have hHBy_ := Aside0.mk (below_step (HBx_.out) hb); have GE6_ := Aside0.mk ((by rw [hg]; exact below_size (HBx_.out) : w7.heap.size ≤ gx6)); have NE5_6 := Aside0.mk ((by rw [hg]; exact Nat.ne_of_lt (blk_lt (BK5_.out)) : gx5 ≠ gx6)); have BKn5_ := Aside0.mk (blk_below (BK5_.out) hb); clear BK5_; have BK5_ := BKn5_; clear HBx_; have HBx_ := hHBy_; clear hHBy_; have BK6_ := Aside0.mk hbox; clear hb hg hbox; have hcz6_ := bc_ BK6_ 0 rfl; have hfz6_ := bf_ BK6_ 0; have NE6_5 := Aside0.mk (NE5_6.out.symm); have hnb5_6 := NE5_6.out; have hnc5_6 := NE6_5.out; have hczz5_6 := bc_ BK5_ 0 rfl; have hfzz5_6 := bf_ BK5_ 0) | ((with_reducible refine gate_callee (f := 75) rfl ?_); refine goesL_ (some 12) rfl rfl Try.func75 (by kernel_rfl) rfl #[.int .i64 0, .int .i64 1000, .func (.func 86) #[] #[.pointer (some ⟨gx5, 0, none⟩), .pointer (some ⟨gx6, 0, none⟩)]] rfl (by (try simp only [List.map_toArray, List.map_cons, List.map_nil]); first | done | rfl) ?_; have HBz_ := below_set (j := 0) (v := .slice Ao9 t429.length co9) (below_set (j := 0) (v := .slice Ao8 t426.length co8) (HBx_.out) GE5_.out) GE6_.out; (refine (where_impl_CutSpans_1.calls k 0 1000 Ao8 co8 t426 Ao9 co9 t429 t432 _ gx5 (blk_far (blk_put (cs := #[.slice none 0 0]) (BK5_.out) 0 (.slice Ao8 t426.length co8) rfl) NE5_6.out _) gx6 (blk_put (cs := #[.slice none 0 0]) (blk_far (BK6_.out) NE6_5.out _) 0 (.slice Ao9 t429.length co9) rfl) (Kd.C_below (Kd.R_reads' HO428.out).2.2 HBz_) (Kd.R_reads' HO428.out).2.1 (Kd.C_below (Kd.R_reads' HO431.out).2.2 HBz_) (Kd.R_reads' HO431.out).2.1 A5.out).mono ?_); rintro e wz ⟨vz, rfl, ho0, hb⟩; refine ⟨_, rfl, ?_⟩; have n0_ := Aside0.mk (below_then HB.out (below_size HB.out) HBz_); have HO434 := Aside0.mk (Kd.R_lower ho0 (below_size n0_.out)); have n2_ := Aside0.mk (below_step n0_.out hb); clear HB; have HB := n2_; clear n0_ n2_ hb ho0))
 go_ret
 exact ⟨_, er_, ra_ HO434, bl_ HB⟩

-- NOT PRINTED: function 87 (impl_Span_87)

/-! ### grow87: slices.Grow(nil, n), by the kit's contract -/
def grow87.f (n : Int) : Option (List S73) := if 0 ≤ n ∧ n * 16 ≤ 140737488355328 then some [] else none
open Go.Shelf in
def growL87_ren : Go.Shelf.Ren := ⟨fun | 4 => 87 | n => n, fun | 22 => 28 | 25 => 73 | 3 => 3 | 4 => 4 | 9 => 9 | 20 => 20 | 0 => 0 | 2 => 3 | n => n, fun | n => n⟩
theorem growL87 : Go.Proofs.Lays8.n4 Try.prog growL87_ren := {
 mixed := by kernel_rfl
 f4 := ⟨Try.f87.name, by decide, Try.func87.trans (congrArg some (by kernel_rfl))⟩
 t0 := Try.underlying0
 a0 := Try.isAgg0
 z0 := Try.sizeOf0
 v0 := Try.zeroValue0
 t3 := Try.underlying3
 a3 := Try.isAgg3
 z3 := Try.sizeOf3
 v3 := Try.zeroValue3
 t4 := Try.underlying4
 a4 := Try.isAgg4
 z4 := Try.sizeOf4
 v4 := Try.zeroValue4
 t9 := Try.underlying9
 a9 := Try.isAgg9
 z9 := Try.sizeOf9
 v9 := Try.zeroValue9
 t20 := Try.underlying20
 a20 := Try.isAgg20
 z20 := Try.sizeOf20
 v20 := Try.zeroValue20
 t22 := Try.underlying28
 a22 := Try.isAgg28
 z22 := Try.sizeOf28
 v22 := Try.zeroValue28 }
theorem grow87.calls (n : Int) (r : List S73) (w : World) (h : grow87.f n = some r) :
  Calls Try.prog 87 #[.slice none 0 0, .int .i64 n] w fun e w' => ∃ v0_ : Value, e = .returned (v0_) ∧ Kd.R k73 73 w' w.heap.size (fun _ => True) v0_ r ∧ Below w.heap.size w w' := by
 unfold grow87.f at h
 by_cases c : 0 ≤ n ∧ n * 16 ≤ 140737488355328
 ·rw [if_pos c] at h
  obtain rfl := Option.some.inj h
  obtain ⟨m, rfl⟩ := Int.eq_ofNat_of_zero_le c.1
  by_cases hm : m = 0
  ·subst hm
   refine (Any8.slices_Grow_room growL87 none 0 0 0 w (by omega) (by omega) (by omega) (by omega)).mono ?_
   rintro e w' ⟨rfl, rfl⟩
   exact ⟨_, rfl, Kd.R_nil _ _ _ _ _, Below.refl _ _⟩
  ·have hinfo : (Try.prog.info? 73).map (fun i => (i.zero, i.size, i.bytes)) = some (some (.agg #[(.int .i64 0), (.int .i64 0)]), 2, 16) := by kernel_rfl
   obtain ⟨i0, hi0, hi1⟩ := Option.map_eq_some_iff.1 hinfo
   have hz0 := congrArg Prod.fst hi1
   have hs0 := congrArg (fun p => p.2.1) hi1
   have hb0 := congrArg (fun p => p.2.2) hi1
   dsimp only at hz0 hs0 hb0
   refine (Any8.slices_Grow_grow growL87 i0 _ hi0 hz0 (by omega) none 0 0 m [] w (by omega) (by omega) (by rw [hb0]; omega) (by omega) (by simp) (fun _ => rfl) (fun a ha => by cases ha)).mono ?_
   rintro e w' ⟨rfl, rfl⟩
   have hle : grownCap w (0 + m) 0 73 ≤ maxLen := grownCap_le_maxLen w (0 + m) 0 73 (by unfold maxLen; omega)
   have hge : 0 + m ≤ grownCap w (0 + m) 0 73 := grownCap_ge w _ _ _
   refine ⟨_, rfl, ⟨fun _ _ => trivial, [], ?_, Reps.none _ _⟩, ?_⟩
   ·refine World.ownsRow_made (base := w.heap.size) (e := 73) (size := 2) w.drew _ _ (Nat.le_refl _) hle ?_
    have hzs : (.agg #[(.int .i64 0), (.int .i64 0)] : Value).cells.size = 2 := rfl
    rw [Array.size_append, Array.size_append, size_zeroCells, size_zeroCells, hzs]
    simp only [List.size_toArray, List.length_nil]
    show 0 + (0 + m - 0) * 2 + (grownCap w (0 + m) 0 73 - (0 + m)) * 2 = grownCap w (0 + m) 0 73 * 2
    omega
   ·exact below_alloc (below_drew1 (Below.refl _ _)) _
 ·rw [if_neg c] at h
  exact absurd h (by simp)

/-! ### impl_Span_49: function 49 -/
mutual
def impl_Span_49.l0 : Nat → List (List (S73)) → Int → List (List (S73)) → Int → Int → Option ((List (S73)))
 | 0, _, _, _, _, _ => none
 | k + 1, x0, x3, x9, x10, x11 => if x11 < x10 then (if 0 ≤ x11 then (if x11 < (x9.length : Int) then (if (wrap64 (x3 + ((rd_L11 x9 x11).length : Int))) < 0 then (none) else (impl_Span_49.l0 k x0 (wrap64 (x3 + ((rd_L11 x9 x11).length : Int))) x9 x10 (wrap64 (x11 + 1)))) else (none)) else (none)) else ((grow87.f x3).bind fun t436 => (impl_Span_49.l1 k t436 x0 (x0.length : Int) 0))
def impl_Span_49.l1 : Nat → List (S73) → List (List (S73)) → Int → Int → Option ((List (S73)))
 | 0, _, _, _, _ => none
 | k + 1, x6, x25, x26, x27 => if x27 < x26 then (if 0 ≤ x27 then (if x27 < (x25.length : Int) then (if x6.length + (rd_L11 x25 x27).length < 8796093022208 then (impl_Span_49.l1 k (x6 ++ (rd_L11 x25 x27)) x25 x26 (wrap64 (x27 + 1))) else (none)) else (none)) else (none)) else (some x6)
end
def impl_Span_49.f (k : Nat) (l0 : List (List (S73))) : Option ((List (S73))) := impl_Span_49.l0 k l0 0 l0 (l0.length : Int) 0
theorem impl_Span_49.mono_l : ∀ k, (∀ y0 y1 y2 y3 y4, LeO (impl_Span_49.l0 k y0 y1 y2 y3 y4) (impl_Span_49.l0 (k + 1) y0 y1 y2 y3 y4)) ∧ (∀ y0 y1 y2 y3, LeO (impl_Span_49.l1 k y0 y1 y2 y3) (impl_Span_49.l1 (k + 1) y0 y1 y2 y3))
 | 0 => ⟨fun _ _ _ _ _ r h => by simp [impl_Span_49.l0] at h, fun _ _ _ _ r h => by simp [impl_Span_49.l1] at h⟩
 | k + 1 => by
  obtain ⟨ih0, ih1⟩ := impl_Span_49.mono_l k
  refine ⟨?_, ?_⟩
  ·intro y0 y1 y2 y3 y4
   unfold impl_Span_49.l0
   repeat' first | (with_reducible first | exact ih0 _ _ _ _ _ | exact ih1 _ _ _ _ | exact LeO.refl _ | exact LeO.none _ | refine LeO.ite ?_ ?_ | refine LeO.bind ?_ (fun _ => ?_)) | exact LeO.none _ | refine LeO.ite ?_ ?_ | refine LeO.bind ?_ (fun _ => ?_)
  ·intro y0 y1 y2 y3
   unfold impl_Span_49.l1
   repeat' first | (with_reducible first | exact ih0 _ _ _ _ _ | exact ih1 _ _ _ _ | exact LeO.refl _ | exact LeO.none _ | refine LeO.ite ?_ ?_ | refine LeO.bind ?_ (fun _ => ?_)) | exact LeO.none _ | refine LeO.ite ?_ ?_ | refine LeO.bind ?_ (fun _ => ?_)
theorem impl_Span_49.mono : ∀ a0 k, LeO (impl_Span_49.f k a0) (impl_Span_49.f (k + 1) a0) := by
 intro a0 k
 obtain ⟨ih0, ih1⟩ := impl_Span_49.mono_l k
 unfold impl_Span_49.f
 repeat' first | (with_reducible first | exact ih0 _ _ _ _ _ | exact ih1 _ _ _ _ | exact LeO.refl _ | exact LeO.none _ | refine LeO.ite ?_ ?_ | refine LeO.bind ?_ (fun _ => ?_)) | exact LeO.none _ | refine LeO.ite ?_ ?_ | refine LeO.bind ?_ (fun _ => ?_)
set_option maxHeartbeats 8000000 in
set_option maxRecDepth 100000 in
theorem impl_Span_49.calls (k : Nat) (A0 : Option Addr) (c0 : Nat) (l0 : List (List (S73))) (r : List (S73)) (w : World) (hr0 : Kd.C (Kd.slice 73 k73) w A0 l0.length l0) (hc0 : l0.length ≤ c0) (h : impl_Span_49.f k l0 = some r) :
  Calls Try.prog 49 #[.slice A0 l0.length c0] w fun e w' => ∃ v0_ : Value, e = .returned (v0_) ∧ Kd.R k73 73 w' w.heap.size (fun _ => True) v0_ r ∧ Below w.heap.size w w' := by
 have HR0 := Aside0.mk hr0
 have HC0 := Aside0.mk hc0
 clear hr0 hc0
 have HB := Aside0.mk (Below.refl w.heap.size w)
 have H := h
 clear h
 unfold impl_Span_49.f at H
 have H' := Aside0.mk H
 clear H
 go_enter Try.func49, Try.ntmps49
 go_wp2
 go_loopg [3, 11] k (fun kq v3 v11 w' => ∃ (x3_1 : Int) (x11_1 : Int), v3 = .int .i64 x3_1 ∧ v11 = .int .i64 x11_1 ∧ Aside0 (impl_Span_49.l0 kq l0 x3_1 l0 (l0.length : Int) x11_1 = some r) ∧ Aside0 (kq ≤ k) ∧ Aside0 (Below w.heap.size w w'))
 case atStart => exact ⟨(0), (0), (by first | rfl | (simp; done) | (simp [*]; done)), (by first | rfl | (simp; done) | (simp [*]; done)), H', ⟨Nat.le_refl _⟩, ⟨bl_ HB⟩⟩
 case round =>
  clear H'
  obtain ⟨x3_1, x11_1, rfl, rfl, HA, HK1, HB⟩ := hrel
  cases gk with
  | zero => exact absurd HA.out (by simp [impl_Span_49.l0])
  | succ k1 =>
   have H := HA.out
   clear HA
   simp only [impl_Span_49.l0] at H
   by_cases c2 : x11_1 < (l0.length : Int)
   ·rw [if_pos c2] at H
    have c2b0 := decide_eq_true c2
    clear c2
    replace H := ifn_ H
    obtain ⟨c3, H⟩ := H
    have c3b0 := decide_eq_true c3
    clear c3
    replace H := ifn_ H
    obtain ⟨c4, H⟩ := H
    have c4b0 := decide_eq_true c4
    clear c4
    by_cases c5 : (wrap64 (x3_1 + ((rd_L11 l0 x11_1).length : Int))) < 0
    ·rw [if_pos c5] at H
     exact absurd H (by simp)
    ·rw [if_neg c5] at H
     have c5b0 := decide_eq_false c5
     clear c5
     have H' := Aside0.mk H
     clear H
     have p435 : 0 ≤ (x11_1 : Int) := od_
     have q435 : x11_1 < (l0.length : Int) := od_
     obtain ⟨ad435, A435_0, c435_0, e435, hx435_0, hl435_0, hi435_0⟩ := at_L11 HR0.out x11_1 p435 q435
     cases e435
     replace hx435_0 := hbc_ HB hx435_0
     have HR435_0 := Aside0.mk hi435_0
     have HC435_0 := Aside0.mk hl435_0
     clear hi435_0 hl435_0
     replace p435 := eq_true p435
     replace q435 := eq_true q435
     go_wp2
     go_roundg k1
     case measure => have := HK1.out; omega
     case rel => exact ⟨(wrap64 (x3_1 + ((rd_L11 l0 x11_1).length : Int))), (wrap64 (x11_1 + 1)), (by first | rfl | (simp; done) | (simp [*]; done)), (by first | rfl | (simp; done) | (simp [*]; done)), H', ⟨by have := HK1.out; omega⟩, ⟨bl_ HB⟩⟩
   ·rw [if_neg c2] at H
    have c2b0 := decide_eq_false c2
    clear c2
    replace H := bs_ H
    obtain ⟨t436, A6, H⟩ := H
    have H' := Aside0.mk H
    clear H
    go_wp2_with (first | ((with_reducible refine gate_callee (f := 87) rfl ?_); refine gl_ 24 Try.func87 (grow87.calls x3_1 t436 _ A6.out) ?_; rintro e w7 ⟨v437, rfl, ho0, hb⟩; refine ⟨_, rfl, sh2_ (Kd.R_lower ho0 (below_size (bl_ HB))) (below_step (bl_ HB) hb) ?_⟩; clear HB hb ho0; intro HO438 HB))
    go_loopg [6, 27] k1 (fun kq v6 v27 w' => ∃ (x6_2 : List (S73)) (x27_2 : Int), v27 = .int .i64 x27_2 ∧ Aside0 (impl_Span_49.l1 kq x6_2 l0 (l0.length : Int) x27_2 = some r) ∧ Aside0 (kq ≤ k1) ∧ Aside0 (Kd.R k73 73 w' w.heap.size (fun _ => True) v6 x6_2) ∧ Aside0 (Below w.heap.size w w'))
    case atStart => exact ⟨(t436), (0), (by first | rfl | (simp; done) | (simp [*]; done)), H', ⟨Nat.le_refl _⟩, ⟨ra_ HO438⟩, ⟨bl_ HB⟩⟩
    case round =>
     clear H'
     try clear c2
     try clear c2b0
     try clear p2
     try clear c3
     try clear c3b0
     try clear c4
     try clear c4b0
     try clear p4
     try clear q4
     try clear hx4
     try clear c5
     try clear c5b0
     try clear p6
     try clear hx435_0
     try clear p435
     try clear q435
     obtain ⟨x6_2, x27_2, rfl, HA, HK2, HO_6, HB⟩ := hrel
     cases gk with
     | zero => exact absurd HA.out (by simp [impl_Span_49.l1])
     | succ k2 =>
      have H := HA.out
      clear HA
      simp only [impl_Span_49.l1] at H
      by_cases c8 : x27_2 < (l0.length : Int)
      ·rw [if_pos c8] at H
       have c8b0 := decide_eq_true c8
       clear c8
       replace H := ifn_ H
       obtain ⟨c9, H⟩ := H
       have c9b0 := decide_eq_true c9
       clear c9
       replace H := ifn_ H
       obtain ⟨c10, H⟩ := H
       have c10b0 := decide_eq_true c10
       clear c10
       replace H := ifn_ H
       obtain ⟨c11, H⟩ := H
       have LMc11 := Aside0.mk c11
       clear c11
       replace H : ∃ y_ : List (S73), Aside0 (y_ = (x6_2 ++ (rd_L11 l0 x27_2))) ∧ (impl_Span_49.l1 k2 y_ l0 (l0.length : Int) (wrap64 (x27_2 + 1))) = some r := ⟨_, ⟨rfl⟩, yh_ H⟩
       obtain ⟨y440, Ny440, H⟩ := H
       have H' := Aside0.mk H
       clear H
       have p439 : 0 ≤ (x27_2 : Int) := od_
       have q439 : x27_2 < (l0.length : Int) := od_
       obtain ⟨ad439, A439_0, c439_0, e439, hx439_0, hl439_0, hi439_0⟩ := at_L11 HR0.out x27_2 p439 q439
       cases e439
       replace hx439_0 := hbc_ HB hx439_0
       have HR439_0 := Aside0.mk hi439_0
       have HC439_0 := Aside0.mk hl439_0
       clear hi439_0 hl439_0
       replace p439 := eq_true p439
       replace q439 := eq_true q439
       go_wp2_with (first | ((with_reducible refine gate_builtin (b := .append) (xs := #[.tmp 31, .tmp 32]) rfl ?_); at_builtin; refine Kd.R_append_rows k73 (w0 := w) w.heap.size rfl (.tmp 31) (.tmp 32) 28 73 (.agg #[(.int .i64 0), (.int .i64 0)]) 16 rfl Try.underlying28 info73 rfl (by decide) (by omega) u6 x6_2 (rd_L11 l0 x27_2) _ _ _ (fun _ => True) (fun _ => False) rfl rfl ?aO ?aR (fun _ _ h => h) (fun _ h => h.elim) ?aF ?aB ?aS ?aL ?_; (case aR => exact ck_ HR439_0 HB); (case aB => exact (bl_ HB)); (case aF => exact (fun _ _ => trivial)); (case aO => exact (ra_ HO_6)); (case aS => exact (below_size (bl_ HB))); (case aL => have := LMc11.out; omega); intro v441 w12 ho hb hg hat; rw [← Ny440.out] at ho; refine sh2_ hb ho ?_; clear HB HO_6 ho hb hg hat; intro HB HO442))
       go_roundg k2
       case measure => have := HK1.out; have := HK2.out; omega
       case rel => exact ⟨(y440), (wrap64 (x27_2 + 1)), (by first | rfl | (simp; done) | (simp [*]; done)), H', ⟨by have := HK1.out; have := HK2.out; omega⟩, ⟨ra_ HO442⟩, ⟨bl_ HB⟩⟩
      ·rw [if_neg c8] at H
       have c8b0 := decide_eq_false c8
       clear c8
       obtain rfl := Option.some.inj H
       go_wp2
       go_ret
       exact ⟨_, er_, ra_ HO_6, bl_ HB⟩

/-! ### impl_InArc: function 124 -/
def impl_InArc.f (a0_0 : Int) (a0_1 : Int) (a1 : Int) : Option (Bool) := (impl_AngleOf.f a1).bind fun t444 => ((impl_AngleOf.f a0_0).bind fun t445 => ((impl_AngleOf.f (wrap64 (t444 - t445))).bind fun t446 => (some (decide (t446 ≤ a0_1)))))
set_option maxHeartbeats 8000000 in
set_option maxRecDepth 100000 in
theorem impl_InArc.calls (a0_0 : Int) (a0_1 : Int) (a1 : Int) (r : Bool) (w : World) (h : impl_InArc.f a0_0 a0_1 a1 = some r) :
  Calls Try.prog 124 #[.agg #[.int .i64 a0_0, .int .i64 a0_1], .int .i64 a1] w fun e w' => e = .returned (.bool r) ∧ Below w.heap.size w w' := by
 have hu113 := Try.underlying113
 have HB := Aside0.mk (Below.refl w.heap.size w)
 have H := h
 clear h
 unfold impl_InArc.f at H
 replace H := bs_ H
 obtain ⟨t444, A3, H⟩ := H
 replace H := bs_ H
 obtain ⟨t445, A4, H⟩ := H
 obtain ⟨ji5, hji5⟩ : ∃ j_ : Int, (wrap64 (t444 - t445)) = j_ := ⟨_, rfl⟩
 replace H : ((impl_AngleOf.f (ji5)).bind fun t446 => (some (decide (t446 ≤ a0_1)))) = some r := by first | (rw [hji5] at H; exact H) | (simp only [hji5] at H ⊢; exact H)
 (try rw [hji5] at A3)
 (try rw [hji5] at A4)
 have hji5w : (IntKind.i64.wrap (t444 - t445)) = ji5 := (i64_w _).trans hji5
 replace H := bs_ H
 obtain ⟨t446, A6, H⟩ := H
 obtain rfl := Option.some.inj H
 go_enter Try.func124, Try.ntmps124
 go_wp2_with (first | ((with_reducible refine gd_ 2 ?_); refine bx_ 2 113 #[.int .i64 a0_0, .int .i64 a0_1] ?_; intro gb443 hg w7 hbox hb; refine sh3_ (below_step (bl_ HB) hb) hbox (ge_ hg (bl_ HB)) ?_; clear HB hb hbox hg; intro HB BK443 GE443) | (go_at_call 130; (with_reducible refine (impl_AngleOf.calls a1 t444 _ A3.out).mono ?_); rintro e w' ⟨rfl, ⟨nd, rfl⟩⟩; (try exact dd_); have hcz8 := cf2_ BK443) | (go_at_call 130; (with_reducible refine (impl_AngleOf.calls a0_0 t445 _ A4.out).mono ?_); rintro e w' ⟨rfl, ⟨nd, rfl⟩⟩; (try exact dd_)) | (go_at_call 130; (with_reducible refine (impl_AngleOf.calls ji5 t446 _ A6.out).mono ?_); rintro e w' ⟨rfl, ⟨nd, rfl⟩⟩; (try exact dd_)))
 repeat (go_quiet (first | ((with_reducible refine gd_ 2 ?_); refine bx_ 2 113 #[.int .i64 a0_0, .int .i64 a0_1] ?_; intro gb443 hg w7 hbox hb; refine sh3_ (below_step (bl_ HB) hb) hbox (ge_ hg (bl_ HB)) ?_; clear HB hb hbox hg; intro HB BK443 GE443) | (go_at_call 130; (with_reducible refine (impl_AngleOf.calls a1 t444 _ A3.out).mono ?_); rintro e w' ⟨rfl, ⟨nd, rfl⟩⟩; (try exact dd_); have hcz8 := cf2_ BK443) | (go_at_call 130; (with_reducible refine (impl_AngleOf.calls a0_0 t445 _ A4.out).mono ?_); rintro e w' ⟨rfl, ⟨nd, rfl⟩⟩; (try exact dd_)) | (go_at_call 130; (with_reducible refine (impl_AngleOf.calls ji5 t446 _ A6.out).mono ?_); rintro e w' ⟨rfl, ⟨nd, rfl⟩⟩; (try exact dd_))); try go_wp2_with (first | ((with_reducible refine gd_ 2 ?_); refine bx_ 2 113 #[.int .i64 a0_0, .int .i64 a0_1] ?_; intro gb443 hg w7 hbox hb; refine sh3_ (below_step (bl_ HB) hb) hbox (ge_ hg (bl_ HB)) ?_; clear HB hb hbox hg; intro HB BK443 GE443) | (go_at_call 130; (with_reducible refine (impl_AngleOf.calls a1 t444 _ A3.out).mono ?_); rintro e w' ⟨rfl, ⟨nd, rfl⟩⟩; (try exact dd_); have hcz8 := cf2_ BK443) | (go_at_call 130; (with_reducible refine (impl_AngleOf.calls a0_0 t445 _ A4.out).mono ?_); rintro e w' ⟨rfl, ⟨nd, rfl⟩⟩; (try exact dd_)) | (go_at_call 130; (with_reducible refine (impl_AngleOf.calls ji5 t446 _ A6.out).mono ?_); rintro e w' ⟨rfl, ⟨nd, rfl⟩⟩; (try exact dd_))))
 go_ret
 exact ⟨by first | rfl | (simp [errW_none, errW_some] <;> rfl) | (simp only [← hji5]; first | rfl | (simp [errW_none, errW_some] <;> rfl)) | (simp [*, errW_none, errW_some] <;> rfl), bl1_ HB GE443⟩

/-! ### impl_ArcsMeet: function 107 -/
def impl_ArcsMeet.l0 : Nat → Int → Int → Int → Int → Int → Option (Bool)
 | 0, _, _, _, _, _ => none
 | k + 1, x6, x448000, x448001, x449000, x449001 => if x6 < 360 then ((impl_InArc.f x448000 x448001 x6).bind fun t449 => (if t449 = true then ((impl_InArc.f x449000 x449001 x6).bind fun t450 => (if t450 = true then (some true) else (impl_ArcsMeet.l0 k (wrap64 (x6 + 1)) x448000 x448001 x449000 x449001))) else (impl_ArcsMeet.l0 k (wrap64 (x6 + 1)) x448000 x448001 x449000 x449001))) else (some false)
def impl_ArcsMeet.f (k : Nat) (a0_0 : Int) (a0_1 : Int) (a1_0 : Int) (a1_1 : Int) : Option (Bool) := impl_ArcsMeet.l0 k 0 a0_0 a0_1 a1_0 a1_1
theorem impl_ArcsMeet.mono_l : ∀ k, (∀ y0 y1 y2 y3 y4, LeO (impl_ArcsMeet.l0 k y0 y1 y2 y3 y4) (impl_ArcsMeet.l0 (k + 1) y0 y1 y2 y3 y4))
 | 0 => fun _ _ _ _ _ r h => by simp [impl_ArcsMeet.l0] at h
 | k + 1 => by
  have ih0 := impl_ArcsMeet.mono_l k
  ·intro y0 y1 y2 y3 y4
   unfold impl_ArcsMeet.l0
   repeat' first | (with_reducible first | exact ih0 _ _ _ _ _ | exact LeO.refl _ | exact LeO.none _ | refine LeO.ite ?_ ?_ | refine LeO.bind ?_ (fun _ => ?_)) | exact LeO.none _ | refine LeO.ite ?_ ?_ | refine LeO.bind ?_ (fun _ => ?_)
theorem impl_ArcsMeet.mono : ∀ a0 a1 a2 a3 k, LeO (impl_ArcsMeet.f k a0 a1 a2 a3) (impl_ArcsMeet.f (k + 1) a0 a1 a2 a3) := by
 intro a0 a1 a2 a3 k
 have ih0 := impl_ArcsMeet.mono_l k
 unfold impl_ArcsMeet.f
 repeat' first | (with_reducible first | exact ih0 _ _ _ _ _ | exact LeO.refl _ | exact LeO.none _ | refine LeO.ite ?_ ?_ | refine LeO.bind ?_ (fun _ => ?_)) | exact LeO.none _ | refine LeO.ite ?_ ?_ | refine LeO.bind ?_ (fun _ => ?_)
set_option maxHeartbeats 8000000 in
set_option maxRecDepth 100000 in
theorem impl_ArcsMeet.calls (k : Nat) (a0_0 : Int) (a0_1 : Int) (a1_0 : Int) (a1_1 : Int) (r : Bool) (w : World) (h : impl_ArcsMeet.f k a0_0 a0_1 a1_0 a1_1 = some r) :
  Calls Try.prog 107 #[.agg #[.int .i64 a0_0, .int .i64 a0_1], .agg #[.int .i64 a1_0, .int .i64 a1_1]] w fun e w' => e = .returned (.bool r) ∧ Below w.heap.size w w' := by
 have hu113 := Try.underlying113
 have HB := Aside0.mk (Below.refl w.heap.size w)
 have H := h
 clear h
 unfold impl_ArcsMeet.f at H
 have H' := Aside0.mk H
 clear H
 go_enter Try.func107, Try.ntmps107
 go_wp2_with (first | ((with_reducible refine gd_ 2 ?_); refine bx_ 2 113 #[.int .i64 a0_0, .int .i64 a0_1] ?_; intro gb447 hg w3 hbox hb; refine sh3_ (below_step (bl_ HB) hb) hbox (ge_ hg (bl_ HB)) ?_; clear HB hb hbox hg; intro HB BK447 GE447) | ((with_reducible refine gd_ 3 ?_); refine bx_ 3 113 #[.int .i64 a1_0, .int .i64 a1_1] ?_; intro gb448 hg w4 hbox hb; refine sh6_ (blk_below (bk_ BK447) hb) (below_step (bl1_ HB GE447) hb) hbox (ge_ hg (bl1_ HB GE447)) (nl_ hg (bk_ BK447)) (ng_ hg (bk_ BK447)) ?_; clear BK447 HB hb hbox hg; intro BK447 HB BK448 GE448 NB447_448 NB448_447))
 go_loopg [6] k (fun kq v6 w' => ∃ (x6_1 : Int), v6 = .int .i64 x6_1 ∧ Aside0 (impl_ArcsMeet.l0 kq x6_1 a0_0 a0_1 a1_0 a1_1 = some r) ∧ Aside0 (kq ≤ k) ∧ Aside0 (w'.heap[gb447]? = some (.cells #[.int .i64 a0_0, .int .i64 a0_1] 113 (0, 0))) ∧ Aside0 (w'.heap[gb448]? = some (.cells #[.int .i64 a1_0, .int .i64 a1_1] 113 (0, 0))) ∧ Aside0 (Below w.heap.size w w'))
 case atStart => exact ⟨(0), (by first | rfl | (simp; done) | (simp [*]; done)), H', ⟨Nat.le_refl _⟩, ⟨by (with_reducible repeat (first | refine blk_drewN ?_ _ | refine blk_drew ?_ | refine blk_alloc ?_ _)); exact BK447.out⟩, ⟨by (with_reducible repeat (first | refine blk_drewN ?_ _ | refine blk_drew ?_ | refine blk_alloc ?_ _)); exact BK448.out⟩, ⟨bl2_ HB GE447 GE448⟩⟩
 case round =>
  clear H'
  try clear c1
  try clear p2
  obtain ⟨x6_1, rfl, HA, HK1, BK447, BK448, HB⟩ := hrel
  cases gk with
  | zero => exact absurd HA.out (by simp [impl_ArcsMeet.l0])
  | succ k1 =>
   have H := HA.out
   clear HA
   simp only [impl_ArcsMeet.l0] at H
   by_cases c5 : x6_1 < 360
   ·rw [if_pos c5] at H
    have c5b0 := decide_eq_true c5
    clear c5
    replace H := bs_ H
    obtain ⟨t449, A6, H⟩ := H
    by_cases c7 : t449 = true
    ·subst c7
     rw [if_pos rfl] at H
     replace H := bs_ H
     obtain ⟨t450, A8, H⟩ := H
     by_cases c9 : t450 = true
     ·subst c9
      rw [if_pos rfl] at H
      obtain rfl := Option.some.inj H
      have hnb10 := NB447_448.out
      have hnc10 := NB448_447.out
      have hcz11 := cf2_ BK447
      go_wp2_with (first | ((with_reducible refine gate_callee (f := 124) rfl ?_); refine gl_ 11 Try.func124 (impl_InArc.calls a0_0 a0_1 x6_1 true _ A6.out) ?_; rintro e w12 ⟨rfl, hb⟩; refine ⟨_, rfl, sh3_ (blk_below (bk_ BK447) hb) (blk_below (bk_ BK448) hb) (below_step (bl2_ HB GE447 GE448) hb) ?_⟩; clear BK447 BK448 HB hb; intro BK447 BK448 HB; have hcz13 := cf2_ BK448) | (go_at_call 124; (with_reducible refine (impl_InArc.calls a1_0 a1_1 x6_1 true _ A8.out).mono ?_); rintro e w14 ⟨rfl, hb⟩; refine sh3_ (blk_below (bk_ BK447) hb) (blk_below (bk_ BK448) hb) (below_step (bl2_ HB GE447 GE448) hb) ?_; clear BK447 BK448 HB hb; intro BK447 BK448 HB))
      go_ret
      exact ⟨er_, bl2_ HB GE447 GE448⟩
     ·replace c9 := Bool.eq_false_iff.mpr c9
      subst c9
      have H1 : (impl_ArcsMeet.l0 k1 (wrap64 (x6_1 + 1)) a0_0 a0_1 a1_0 a1_1) = some r := by rw [if_neg (show ¬ (false = true) by decide)] at H; exact H
      clear H
      have H := H1
      clear H1
      have H' := Aside0.mk H
      clear H
      have hnb15 := NB447_448.out
      have hnc15 := NB448_447.out
      have hcz16 := cf2_ BK447
      go_wp2_with (first | ((with_reducible refine gate_callee (f := 124) rfl ?_); refine gl_ 11 Try.func124 (impl_InArc.calls a0_0 a0_1 x6_1 true _ A6.out) ?_; rintro e w17 ⟨rfl, hb⟩; refine ⟨_, rfl, sh3_ (blk_below (bk_ BK447) hb) (blk_below (bk_ BK448) hb) (below_step (bl2_ HB GE447 GE448) hb) ?_⟩; clear BK447 BK448 HB hb; intro BK447 BK448 HB; have hcz18 := cf2_ BK448) | (go_at_call 124; (with_reducible refine (impl_InArc.calls a1_0 a1_1 x6_1 false _ A8.out).mono ?_); rintro e w19 ⟨rfl, hb⟩; refine sh3_ (blk_below (bk_ BK447) hb) (blk_below (bk_ BK448) hb) (below_step (bl2_ HB GE447 GE448) hb) ?_; clear BK447 BK448 HB hb; intro BK447 BK448 HB))
      go_roundg k1
      case measure => have := HK1.out; omega
      case rel => exact ⟨(wrap64 (x6_1 + 1)), (by first | rfl | (simp; done) | (simp [*]; done)), H', ⟨by have := HK1.out; omega⟩, ⟨by (with_reducible repeat (first | refine blk_drewN ?_ _ | refine blk_drew ?_ | refine blk_alloc ?_ _)); exact BK447.out⟩, ⟨by (with_reducible repeat (first | refine blk_drewN ?_ _ | refine blk_drew ?_ | refine blk_alloc ?_ _)); exact BK448.out⟩, ⟨bl2_ HB GE447 GE448⟩⟩
    ·replace c7 := Bool.eq_false_iff.mpr c7
     subst c7
     have H1 : (impl_ArcsMeet.l0 k1 (wrap64 (x6_1 + 1)) a0_0 a0_1 a1_0 a1_1) = some r := by rw [if_neg (show ¬ (false = true) by decide)] at H; exact H
     clear H
     have H := H1
     clear H1
     have H' := Aside0.mk H
     clear H
     have hnb20 := NB447_448.out
     have hnc20 := NB448_447.out
     have hcz21 := cf2_ BK447
     go_wp2_with (first | ((with_reducible refine gate_callee (f := 124) rfl ?_); refine gl_ 11 Try.func124 (impl_InArc.calls a0_0 a0_1 x6_1 false _ A6.out) ?_; rintro e w22 ⟨rfl, hb⟩; refine ⟨_, rfl, sh3_ (blk_below (bk_ BK447) hb) (blk_below (bk_ BK448) hb) (below_step (bl2_ HB GE447 GE448) hb) ?_⟩; clear BK447 BK448 HB hb; intro BK447 BK448 HB))
     go_roundg k1
     case measure => have := HK1.out; omega
     case rel => exact ⟨(wrap64 (x6_1 + 1)), (by first | rfl | (simp; done) | (simp [*]; done)), H', ⟨by have := HK1.out; omega⟩, ⟨by (with_reducible repeat (first | refine blk_drewN ?_ _ | refine blk_drew ?_ | refine blk_alloc ?_ _)); exact BK447.out⟩, ⟨by (with_reducible repeat (first | refine blk_drewN ?_ _ | refine blk_drew ?_ | refine blk_alloc ?_ _)); exact BK448.out⟩, ⟨bl2_ HB GE447 GE448⟩⟩
   ·rw [if_neg c5] at H
    have c5b0 : decide (x6_1 < 360) = false := decide_eq_false c5
    clear c5
    obtain rfl := Option.some.inj H
    go_wp2
    go_ret
    exact ⟨er_, bl2_ HB GE447 GE448⟩

end Go.Proofs.Ytcjfalmhohcifaa.PFnExactSpeakingSpans
