-- Written by a program of this session for this claim (the kit's printer with changes).
import Derived.Test.YtcjfalmhohcifaaQFnExactSpeakingSpansx0
import Derived.Test.YtcjfalmhohcifaaQFnExactSpeakingSpansx6
import Derived.Test.YtcjfalmhohcifaaQFnExactSpeakingSpansx7
namespace Go.Proofs.Ytcjfalmhohcifaa.PFnExactSpeakingSpans
open Go.RowKit Go.Proofs.YtcjfalmhohcifaaW.PrintWords Go.Proofs.YtcjfalmhohcifaaW.PrintLast Go.Proofs.YtcjfalmhohcifaaW.PrintMore
attribute [local go_sem] max2_int min2_int max_two min_two max_three min_three max_four min_four   -- for this text's walks alone
set_option linter.unusedVariables false
set_option linter.unusedSimpArgs false

/-! ### impl_SightAt: function 98 -/
def impl_SightAt.j0 : Nat → Int → Int → Int → Bool → Option (Int)
 | 0, _, _, _, _ => none
 | k + 1, x11, x12, x13, x37 => if x37 = true then (some 0) else (if (wrap64 (x12 + x13)) ≤ x11 then (some 2) else (some 1))
def impl_SightAt.f (k : Nat) (a0_0 : Int) (l0_1 : List (S105)) (l0_2 : List (S109)) (a0_3 : Int) (a0_4 : Int) (a0_5 : Int) (a0_6 : Int) (a0_7 : Int) (l0_8 : List (S115)) (a0_9 : Int) (a1 : Int) (a2 : Int) (a3 : Int) : Option (Int) := (impl_NodeAt.f a0_0 l0_1 l0_2 a0_3 a0_4 a0_5 a0_6 a0_7 l0_8 a0_9 a1 a3).bind fun bt400 => ((impl_NodeAt.f a0_0 l0_1 l0_2 a0_3 a0_4 a0_5 a0_6 a0_7 l0_8 a0_9 a2 a3).bind fun bt402 => ((impl_LimitOf.f k a0_0 l0_1 l0_2 a0_3 a0_4 a0_5 a0_6 a0_7 l0_8 a0_9 a1 a2).bind fun t404 => ((impl_MiddleOf.f bt400.1 bt400.2).bind fun t407 => ((impl_MiddleOf.f bt402.1 bt402.2).bind fun t408 => ((impl_GapOf.f t407 t408).bind fun t409 => (if t404 < 0 then (impl_SightAt.j0 k t404 t409 (wrap64 (Int.tdiv (wrap64 (bt400.2 + bt402.2)) 2)) true) else (impl_SightAt.j0 k t404 t409 (wrap64 (Int.tdiv (wrap64 (bt400.2 + bt402.2)) 2)) (decide ((wrap64 (t409 - (wrap64 (Int.tdiv (wrap64 (bt400.2 + bt402.2)) 2)))) > t404)))))))))
theorem impl_SightAt.mono_l : ∀ k, (∀ y0 y1 y2 y3, LeO (impl_SightAt.j0 k y0 y1 y2 y3) (impl_SightAt.j0 (k + 1) y0 y1 y2 y3))
 | 0 => fun _ _ _ _ r h => by simp [impl_SightAt.j0] at h
 | k + 1 => by
  have ih0 := impl_SightAt.mono_l k
  ·intro y0 y1 y2 y3
   unfold impl_SightAt.j0
   repeat' first | (with_reducible first | exact ih0 _ _ _ _ | exact impl_LimitOf.mono _ _ _ _ _ _ _ _ _ _ _ _ _ | exact LeO.refl _ | exact LeO.none _ | refine LeO.ite ?_ ?_ | refine LeO.bind ?_ (fun _ => ?_)) | exact LeO.none _ | refine LeO.ite ?_ ?_ | refine LeO.bind ?_ (fun _ => ?_)
theorem impl_SightAt.mono : ∀ a0 a1 a2 a3 a4 a5 a6 a7 a8 a9 a10 a11 a12 k, LeO (impl_SightAt.f k a0 a1 a2 a3 a4 a5 a6 a7 a8 a9 a10 a11 a12) (impl_SightAt.f (k + 1) a0 a1 a2 a3 a4 a5 a6 a7 a8 a9 a10 a11 a12) := by
 intro a0 a1 a2 a3 a4 a5 a6 a7 a8 a9 a10 a11 a12 k
 have ih0 := impl_SightAt.mono_l k
 unfold impl_SightAt.f
 repeat' first | (with_reducible first | exact ih0 _ _ _ _ | exact impl_LimitOf.mono _ _ _ _ _ _ _ _ _ _ _ _ _ | exact LeO.refl _ | exact LeO.none _ | refine LeO.ite ?_ ?_ | refine LeO.bind ?_ (fun _ => ?_)) | exact LeO.none _ | refine LeO.ite ?_ ?_ | refine LeO.bind ?_ (fun _ => ?_)
def impl_SightAt.T1 : Bool × List (List Nat × List Nat) := (true, [([], []), ([], []), ([], []), ([0, 1, 2], [0, 1, 2]), ([], []), ([], []), ([], []), ([4, 5, 6, 3], [4, 5, 6]), ([], []), ([], []), ([], []), ([8, 9, 10, 7], [8, 9, 10]), ([], []), ([], []), ([12, 3, 11, 0, 1, 2, 3, 12, 13], [3, 12]), ([13, 7, 14, 0, 1, 2, 3, 4, 5, 6, 7, 12, 13, 14], [7, 13]), ([11, 15, 0, 1, 2, 3, 4, 5, 6, 7, 8, 9, 10, 11, 12, 13, 14, 15], [11])])
def impl_SightAt.B1 : List Nat := [0, 0, 0, 7, 0, 0, 0, 127, 0, 0, 0, 2047, 0, 0, 16383, 32767, 65535]
theorem impl_SightAt.tab1 : rtab .any (opsOf Try.f98 1) = impl_SightAt.T1 := by kernel_rfl
theorem impl_SightAt.bits1 : waitsOk impl_SightAt.T1.2 impl_SightAt.B1 = true := by kernel_rfl
def impl_SightAt.T2 : Bool × List (List Nat × List Nat) := (true, [([], []), ([0], [0]), ([], []), ([2, 1], [2]), ([1, 3, 3], [1, 3]), ([], []), ([5], [5]), ([], []), ([7], [7]), ([6, 8], [6, 8]), ([9], [9]), ([4, 4, 0, 1, 2, 3, 4], [4]), ([10, 11, 0, 1, 2, 3, 4, 5, 6, 7, 8, 9, 10, 11], [10])])
def impl_SightAt.B2 : List Nat := [0, 1, 0, 7, 15, 0, 32, 0, 128, 480, 992, 31, 4095]
theorem impl_SightAt.tab2 : rtab .any (opsOf Try.f98 2) = impl_SightAt.T2 := by kernel_rfl
theorem impl_SightAt.bits2 : waitsOk impl_SightAt.T2.2 impl_SightAt.B2 = true := by kernel_rfl
set_option maxHeartbeats 8000000 in
set_option maxRecDepth 100000 in
theorem impl_SightAt.calls (k : Nat) (a0_0 : Int) (A0_1 : Option Addr) (c0_1 : Nat) (l0_1 : List (S105)) (A0_2 : Option Addr) (c0_2 : Nat) (l0_2 : List (S109)) (a0_3 : Int) (a0_4 : Int) (a0_5 : Int) (a0_6 : Int) (a0_7 : Int) (A0_8 : Option Addr) (c0_8 : Nat) (l0_8 : List (S115)) (a0_9 : Int) (a1 : Int) (a2 : Int) (a3 : Int) (r : Int) (w : World) (hr0_1 : Kd.C k105 w A0_1 l0_1.length l0_1) (hc0_1 : l0_1.length ≤ c0_1) (hr0_2 : Kd.C k109 w A0_2 l0_2.length l0_2) (hc0_2 : l0_2.length ≤ c0_2) (hr0_8 : Kd.C k115 w A0_8 l0_8.length l0_8) (hc0_8 : l0_8.length ≤ c0_8) (h : impl_SightAt.f k a0_0 l0_1 l0_2 a0_3 a0_4 a0_5 a0_6 a0_7 l0_8 a0_9 a1 a2 a3 = some r) :
  Calls Try.prog 98 #[.agg #[.int .i64 a0_0, .slice A0_1 l0_1.length c0_1, .slice A0_2 l0_2.length c0_2, .int .i64 a0_3, .int .i64 a0_4, .int .i64 a0_5, .int .i64 a0_6, .int .i64 a0_7, .slice A0_8 l0_8.length c0_8, .int .i64 a0_9], .int .i64 a1, .int .i64 a2, .int .i64 a3] w fun e w' => e = .returned (.int .i64 r) ∧ Below w.heap.size w w' := by
 have hu34 := Try.underlying34
 have hu113 := Try.underlying113
 have HR0_1 := Aside0.mk hr0_1
 have HC0_1 := Aside0.mk hc0_1
 clear hr0_1 hc0_1
 have HR0_2 := Aside0.mk hr0_2
 have HC0_2 := Aside0.mk hc0_2
 clear hr0_2 hc0_2
 have HR0_8 := Aside0.mk hr0_8
 have HC0_8 := Aside0.mk hc0_8
 clear hr0_8 hc0_8
 have HB := Aside0.mk (Below.refl w.heap.size w)
 have H := h
 clear h
 unfold impl_SightAt.f at H
 replace H := bs_ H
 obtain ⟨⟨t400, t401⟩, A5, H⟩ := H
 dsimp only at H
 replace H := bs_ H
 obtain ⟨⟨t402, t403⟩, A6, H⟩ := H
 dsimp only at H
 replace H := bs_ H
 obtain ⟨t404, A7, H⟩ := H
 replace H := bs_ H
 obtain ⟨t407, A8, H⟩ := H
 replace H := bs_ H
 obtain ⟨t408, A9, H⟩ := H
 replace H := bs_ H
 obtain ⟨t409, A10, H⟩ := H
 have HC11 := Aside0.mk H
 clear H
 go_enter Try.func98, Try.ntmps98
 try go_wp2_with (first | ((with_reducible refine gd_ 4 ?_); refine bx_ 4 34 #[.int .i64 a0_0, .slice A0_1 l0_1.length c0_1, .slice A0_2 l0_2.length c0_2, .int .i64 a0_3, .int .i64 a0_4, .int .i64 a0_5, .int .i64 a0_6, .int .i64 a0_7, .slice A0_8 l0_8.length c0_8, .int .i64 a0_9] ?_; intro gb399 hg w12 hbox hb; refine sh3_ (below_step (bl_ HB) hb) hbox (ge_ hg (bl_ HB)) ?_; clear HB hb hbox hg; intro HB BK399 GE399))
 refine sh2_ (blk_drew BK399.out) (below_drew1 HB.out) ?_
 clear BK399 HB
 intro BK399 HB
 refine start_ (n := 17) (S := fun w' => Cz10 w' gb399 (.int .i64 a0_0) (.slice A0_1 l0_1.length c0_1) (.slice A0_2 l0_2.length c0_2) (.int .i64 a0_3) (.int .i64 a0_4) (.int .i64 a0_5) (.int .i64 a0_6) (.int .i64 a0_7) (.slice A0_8 l0_8.length c0_8) (.int .i64 a0_9)) (ds := []) #[false, false, false, false, false, false, false, false, false, false, false, false, false, false, false, false, false] (by kernel_rfl) rfl rfl (cz10_ BK399) (fun hHeld => ?_); refine with_tabW impl_SightAt.tab1 impl_SightAt.bits1 (fun HT_ HW_ => ?_)
 generalize w12.drew = w13 at BK399 HB hHeld ⊢
 refine pur_ 1 #[false, true, false, false, false, false, false, false, false, false, false, false, false, false, false, false, false] (some 15) HT_ ?_
 refine pur_ 2 #[false, true, true, false, false, false, false, false, false, false, false, false, false, false, false, false, false] (some 16) HT_ ?_
 refine pur_ 5 #[false, true, true, false, false, true, false, false, false, false, false, false, false, false, false, false, false] (some 19) HT_ ?_
 refine pur_ 6 #[false, true, true, false, false, true, true, false, false, false, false, false, false, false, false, false, false] (some 20) HT_ ?_
 refine pur_ 9 #[false, true, true, false, false, true, true, false, false, true, false, false, false, false, false, false, false] (some 23) HT_ ?_
 refine pur_ 10 #[false, true, true, false, false, true, true, false, false, true, true, false, false, false, false, false, false] (some 24) HT_ ?_
 refine tak_ 0 #[true, true, true, false, false, true, true, false, false, true, true, false, false, false, false, false, false] (some 14) HT_ HW_ hHeld ?_
 refine tak_ 4 #[true, true, true, false, true, true, true, false, false, true, true, false, false, false, false, false, false] (some 18) HT_ HW_ hHeld ?_
 refine tak_ 8 #[true, true, true, false, true, true, true, false, true, true, true, false, false, false, false, false, false] (some 22) HT_ HW_ hHeld ?_
 refine join_ (σ := Nat × Nat) 3 #[true, true, true, true, true, true, true, true, true, true, true, true, true, true, false, false, false] (fun s_ => [(17, .agg #[.int .i64 t400, .int .i64 t401]), (21, .agg #[.int .i64 t402, .int .i64 t403]), (25, .int .i64 t404), (9, .pointer (some ⟨s_.1, 0, none⟩)), (10, .pointer (some ⟨s_.2, 0, none⟩))]) (fun s_ w' => (Cz10 w' gb399 (.int .i64 a0_0) (.slice A0_1 l0_1.length c0_1) (.slice A0_2 l0_2.length c0_2) (.int .i64 a0_3) (.int .i64 a0_4) (.int .i64 a0_5) (.int .i64 a0_6) (.int .i64 a0_7) (.slice A0_8 l0_8.length c0_8) (.int .i64 a0_9)) ∧ (w'.heap[gb399]? = some (.cells #[.int .i64 a0_0, .slice A0_1 l0_1.length c0_1, .slice A0_2 l0_2.length c0_2, .int .i64 a0_3, .int .i64 a0_4, .int .i64 a0_5, .int .i64 a0_6, .int .i64 a0_7, .slice A0_8 l0_8.length c0_8, .int .i64 a0_9] 34 (0, 0))) ∧ (w'.heap[s_.1]? = some (.cells #[.int .i64 0, .int .i64 0] 113 (0, 0))) ∧ (w'.heap[s_.2]? = some (.cells #[.int .i64 0, .int .i64 0] 113 (0, 0))) ∧ (w.heap.size ≤ s_.1) ∧ (w.heap.size ≤ s_.1) ∧ (gb399 ≠ s_.1) ∧ (s_.1 ≠ gb399) ∧ (s_.2 ≠ s_.1) ∧ (s_.1 ≠ s_.2) ∧ (w.heap.size ≤ s_.2) ∧ (w.heap.size ≤ s_.2) ∧ (gb399 ≠ s_.2) ∧ (s_.2 ≠ gb399) ∧ (Below w.heap.size w w')) ?_ ?_
 rotate_left
 ·intro hJ3_7_11_12_13
  refine join_ (σ := Nat) 4 #[true, true, true, true, true, true, true, true, true, true, true, true, true, false, false, false, false] (fun s_ => [(17, .agg #[.int .i64 t400, .int .i64 t401]), (21, .agg #[.int .i64 t402, .int .i64 t403]), (25, .int .i64 t404), (9, .pointer (some ⟨s_, 0, none⟩))]) (fun s_ w' => (Cz10 w' gb399 (.int .i64 a0_0) (.slice A0_1 l0_1.length c0_1) (.slice A0_2 l0_2.length c0_2) (.int .i64 a0_3) (.int .i64 a0_4) (.int .i64 a0_5) (.int .i64 a0_6) (.int .i64 a0_7) (.slice A0_8 l0_8.length c0_8) (.int .i64 a0_9)) ∧ (w'.heap[gb399]? = some (.cells #[.int .i64 a0_0, .slice A0_1 l0_1.length c0_1, .slice A0_2 l0_2.length c0_2, .int .i64 a0_3, .int .i64 a0_4, .int .i64 a0_5, .int .i64 a0_6, .int .i64 a0_7, .slice A0_8 l0_8.length c0_8, .int .i64 a0_9] 34 (0, 0))) ∧ (w'.heap[s_]? = some (.cells #[.int .i64 0, .int .i64 0] 113 (0, 0))) ∧ (w.heap.size ≤ s_) ∧ (w.heap.size ≤ s_) ∧ (gb399 ≠ s_) ∧ (s_ ≠ gb399) ∧ (Below w.heap.size w w')) ?_ ?_
  rotate_left
  ·intro hJ3_7_11_12
   refine join_ (σ := Nat) 4 #[true, true, true, true, true, true, true, true, true, true, true, true, false, true, false, false, false] (fun s_ => [(17, .agg #[.int .i64 t400, .int .i64 t401]), (21, .agg #[.int .i64 t402, .int .i64 t403]), (25, .int .i64 t404), (10, .pointer (some ⟨s_, 0, none⟩))]) (fun s_ w' => (Cz10 w' gb399 (.int .i64 a0_0) (.slice A0_1 l0_1.length c0_1) (.slice A0_2 l0_2.length c0_2) (.int .i64 a0_3) (.int .i64 a0_4) (.int .i64 a0_5) (.int .i64 a0_6) (.int .i64 a0_7) (.slice A0_8 l0_8.length c0_8) (.int .i64 a0_9)) ∧ (w'.heap[gb399]? = some (.cells #[.int .i64 a0_0, .slice A0_1 l0_1.length c0_1, .slice A0_2 l0_2.length c0_2, .int .i64 a0_3, .int .i64 a0_4, .int .i64 a0_5, .int .i64 a0_6, .int .i64 a0_7, .slice A0_8 l0_8.length c0_8, .int .i64 a0_9] 34 (0, 0))) ∧ (w'.heap[s_]? = some (.cells #[.int .i64 0, .int .i64 0] 113 (0, 0))) ∧ (w.heap.size ≤ s_) ∧ (w.heap.size ≤ s_) ∧ (gb399 ≠ s_) ∧ (s_ ≠ gb399) ∧ (Below w.heap.size w w')) ?_ ?_
   rotate_left
   ·intro hJ3_7_11_13
    refine join_ (σ := Nat × Nat) 4 #[true, true, true, true, true, true, true, true, true, true, true, false, true, true, false, false, false] (fun s_ => [(17, .agg #[.int .i64 t400, .int .i64 t401]), (21, .agg #[.int .i64 t402, .int .i64 t403]), (9, .pointer (some ⟨s_.1, 0, none⟩)), (10, .pointer (some ⟨s_.2, 0, none⟩))]) (fun s_ w' => (Cz10 w' gb399 (.int .i64 a0_0) (.slice A0_1 l0_1.length c0_1) (.slice A0_2 l0_2.length c0_2) (.int .i64 a0_3) (.int .i64 a0_4) (.int .i64 a0_5) (.int .i64 a0_6) (.int .i64 a0_7) (.slice A0_8 l0_8.length c0_8) (.int .i64 a0_9)) ∧ (w'.heap[gb399]? = some (.cells #[.int .i64 a0_0, .slice A0_1 l0_1.length c0_1, .slice A0_2 l0_2.length c0_2, .int .i64 a0_3, .int .i64 a0_4, .int .i64 a0_5, .int .i64 a0_6, .int .i64 a0_7, .slice A0_8 l0_8.length c0_8, .int .i64 a0_9] 34 (0, 0))) ∧ (w'.heap[s_.1]? = some (.cells #[.int .i64 0, .int .i64 0] 113 (0, 0))) ∧ (w'.heap[s_.2]? = some (.cells #[.int .i64 0, .int .i64 0] 113 (0, 0))) ∧ (w.heap.size ≤ s_.1) ∧ (w.heap.size ≤ s_.1) ∧ (gb399 ≠ s_.1) ∧ (s_.1 ≠ gb399) ∧ (s_.2 ≠ s_.1) ∧ (s_.1 ≠ s_.2) ∧ (w.heap.size ≤ s_.2) ∧ (w.heap.size ≤ s_.2) ∧ (gb399 ≠ s_.2) ∧ (s_.2 ≠ gb399) ∧ (Below w.heap.size w w')) ?_ ?_
    rotate_left
    ·intro hJ3_7_12_13
     refine join_ (σ := Unit) 5 #[true, true, true, true, true, true, true, true, true, true, true, true, false, false, false, false, false] (fun s_ => [(17, .agg #[.int .i64 t400, .int .i64 t401]), (21, .agg #[.int .i64 t402, .int .i64 t403]), (25, .int .i64 t404)]) (fun s_ w' => (Cz10 w' gb399 (.int .i64 a0_0) (.slice A0_1 l0_1.length c0_1) (.slice A0_2 l0_2.length c0_2) (.int .i64 a0_3) (.int .i64 a0_4) (.int .i64 a0_5) (.int .i64 a0_6) (.int .i64 a0_7) (.slice A0_8 l0_8.length c0_8) (.int .i64 a0_9)) ∧ (w'.heap[gb399]? = some (.cells #[.int .i64 a0_0, .slice A0_1 l0_1.length c0_1, .slice A0_2 l0_2.length c0_2, .int .i64 a0_3, .int .i64 a0_4, .int .i64 a0_5, .int .i64 a0_6, .int .i64 a0_7, .slice A0_8 l0_8.length c0_8, .int .i64 a0_9] 34 (0, 0))) ∧ (Below w.heap.size w w')) ?_ ?_
     rotate_left
     ·intro hJ3_7_11
      refine join_ (σ := Nat) 5 #[true, true, true, true, true, true, true, true, true, true, true, false, true, false, false, false, false] (fun s_ => [(17, .agg #[.int .i64 t400, .int .i64 t401]), (21, .agg #[.int .i64 t402, .int .i64 t403]), (9, .pointer (some ⟨s_, 0, none⟩))]) (fun s_ w' => (Cz10 w' gb399 (.int .i64 a0_0) (.slice A0_1 l0_1.length c0_1) (.slice A0_2 l0_2.length c0_2) (.int .i64 a0_3) (.int .i64 a0_4) (.int .i64 a0_5) (.int .i64 a0_6) (.int .i64 a0_7) (.slice A0_8 l0_8.length c0_8) (.int .i64 a0_9)) ∧ (w'.heap[gb399]? = some (.cells #[.int .i64 a0_0, .slice A0_1 l0_1.length c0_1, .slice A0_2 l0_2.length c0_2, .int .i64 a0_3, .int .i64 a0_4, .int .i64 a0_5, .int .i64 a0_6, .int .i64 a0_7, .slice A0_8 l0_8.length c0_8, .int .i64 a0_9] 34 (0, 0))) ∧ (w'.heap[s_]? = some (.cells #[.int .i64 0, .int .i64 0] 113 (0, 0))) ∧ (w.heap.size ≤ s_) ∧ (w.heap.size ≤ s_) ∧ (gb399 ≠ s_) ∧ (s_ ≠ gb399) ∧ (Below w.heap.size w w')) ?_ ?_
      rotate_left
      ·intro hJ3_7_12
       refine join_ (σ := Nat) 5 #[true, true, true, true, true, true, true, true, true, true, true, false, false, true, false, false, false] (fun s_ => [(17, .agg #[.int .i64 t400, .int .i64 t401]), (21, .agg #[.int .i64 t402, .int .i64 t403]), (10, .pointer (some ⟨s_, 0, none⟩))]) (fun s_ w' => (Cz10 w' gb399 (.int .i64 a0_0) (.slice A0_1 l0_1.length c0_1) (.slice A0_2 l0_2.length c0_2) (.int .i64 a0_3) (.int .i64 a0_4) (.int .i64 a0_5) (.int .i64 a0_6) (.int .i64 a0_7) (.slice A0_8 l0_8.length c0_8) (.int .i64 a0_9)) ∧ (w'.heap[gb399]? = some (.cells #[.int .i64 a0_0, .slice A0_1 l0_1.length c0_1, .slice A0_2 l0_2.length c0_2, .int .i64 a0_3, .int .i64 a0_4, .int .i64 a0_5, .int .i64 a0_6, .int .i64 a0_7, .slice A0_8 l0_8.length c0_8, .int .i64 a0_9] 34 (0, 0))) ∧ (w'.heap[s_]? = some (.cells #[.int .i64 0, .int .i64 0] 113 (0, 0))) ∧ (w.heap.size ≤ s_) ∧ (w.heap.size ≤ s_) ∧ (gb399 ≠ s_) ∧ (s_ ≠ gb399) ∧ (Below w.heap.size w w')) ?_ ?_
       rotate_left
       ·intro hJ3_7_13
        refine join_ (σ := Nat × Nat) 5 #[true, true, true, true, true, true, true, false, true, true, true, false, true, true, false, false, false] (fun s_ => [(17, .agg #[.int .i64 t400, .int .i64 t401]), (9, .pointer (some ⟨s_.1, 0, none⟩)), (10, .pointer (some ⟨s_.2, 0, none⟩))]) (fun s_ w' => (Cz10 w' gb399 (.int .i64 a0_0) (.slice A0_1 l0_1.length c0_1) (.slice A0_2 l0_2.length c0_2) (.int .i64 a0_3) (.int .i64 a0_4) (.int .i64 a0_5) (.int .i64 a0_6) (.int .i64 a0_7) (.slice A0_8 l0_8.length c0_8) (.int .i64 a0_9)) ∧ (w'.heap[gb399]? = some (.cells #[.int .i64 a0_0, .slice A0_1 l0_1.length c0_1, .slice A0_2 l0_2.length c0_2, .int .i64 a0_3, .int .i64 a0_4, .int .i64 a0_5, .int .i64 a0_6, .int .i64 a0_7, .slice A0_8 l0_8.length c0_8, .int .i64 a0_9] 34 (0, 0))) ∧ (w'.heap[s_.1]? = some (.cells #[.int .i64 0, .int .i64 0] 113 (0, 0))) ∧ (w'.heap[s_.2]? = some (.cells #[.int .i64 0, .int .i64 0] 113 (0, 0))) ∧ (w.heap.size ≤ s_.1) ∧ (w.heap.size ≤ s_.1) ∧ (gb399 ≠ s_.1) ∧ (s_.1 ≠ gb399) ∧ (s_.2 ≠ s_.1) ∧ (s_.1 ≠ s_.2) ∧ (w.heap.size ≤ s_.2) ∧ (w.heap.size ≤ s_.2) ∧ (gb399 ≠ s_.2) ∧ (s_.2 ≠ gb399) ∧ (Below w.heap.size w w')) ?_ ?_
        rotate_left
        ·intro hJ3_12_13
         refine join_ (σ := Unit) 6 #[true, true, true, true, true, true, true, true, true, true, true, false, false, false, false, false, false] (fun s_ => [(17, .agg #[.int .i64 t400, .int .i64 t401]), (21, .agg #[.int .i64 t402, .int .i64 t403])]) (fun s_ w' => (Cz10 w' gb399 (.int .i64 a0_0) (.slice A0_1 l0_1.length c0_1) (.slice A0_2 l0_2.length c0_2) (.int .i64 a0_3) (.int .i64 a0_4) (.int .i64 a0_5) (.int .i64 a0_6) (.int .i64 a0_7) (.slice A0_8 l0_8.length c0_8) (.int .i64 a0_9)) ∧ (w'.heap[gb399]? = some (.cells #[.int .i64 a0_0, .slice A0_1 l0_1.length c0_1, .slice A0_2 l0_2.length c0_2, .int .i64 a0_3, .int .i64 a0_4, .int .i64 a0_5, .int .i64 a0_6, .int .i64 a0_7, .slice A0_8 l0_8.length c0_8, .int .i64 a0_9] 34 (0, 0))) ∧ (Below w.heap.size w w')) ?_ ?_
         rotate_left
         ·intro hJ3_7
          refine join_ (σ := Nat) 6 #[true, true, true, true, true, true, true, false, true, true, true, false, true, false, false, false, false] (fun s_ => [(17, .agg #[.int .i64 t400, .int .i64 t401]), (9, .pointer (some ⟨s_, 0, none⟩))]) (fun s_ w' => (Cz10 w' gb399 (.int .i64 a0_0) (.slice A0_1 l0_1.length c0_1) (.slice A0_2 l0_2.length c0_2) (.int .i64 a0_3) (.int .i64 a0_4) (.int .i64 a0_5) (.int .i64 a0_6) (.int .i64 a0_7) (.slice A0_8 l0_8.length c0_8) (.int .i64 a0_9)) ∧ (w'.heap[gb399]? = some (.cells #[.int .i64 a0_0, .slice A0_1 l0_1.length c0_1, .slice A0_2 l0_2.length c0_2, .int .i64 a0_3, .int .i64 a0_4, .int .i64 a0_5, .int .i64 a0_6, .int .i64 a0_7, .slice A0_8 l0_8.length c0_8, .int .i64 a0_9] 34 (0, 0))) ∧ (w'.heap[s_]? = some (.cells #[.int .i64 0, .int .i64 0] 113 (0, 0))) ∧ (w.heap.size ≤ s_) ∧ (w.heap.size ≤ s_) ∧ (gb399 ≠ s_) ∧ (s_ ≠ gb399) ∧ (Below w.heap.size w w')) ?_ ?_
          rotate_left
          ·intro hJ3_12
           refine join_ (σ := Nat) 6 #[true, true, true, true, true, true, true, false, true, true, true, false, false, true, false, false, false] (fun s_ => [(17, .agg #[.int .i64 t400, .int .i64 t401]), (10, .pointer (some ⟨s_, 0, none⟩))]) (fun s_ w' => (Cz10 w' gb399 (.int .i64 a0_0) (.slice A0_1 l0_1.length c0_1) (.slice A0_2 l0_2.length c0_2) (.int .i64 a0_3) (.int .i64 a0_4) (.int .i64 a0_5) (.int .i64 a0_6) (.int .i64 a0_7) (.slice A0_8 l0_8.length c0_8) (.int .i64 a0_9)) ∧ (w'.heap[gb399]? = some (.cells #[.int .i64 a0_0, .slice A0_1 l0_1.length c0_1, .slice A0_2 l0_2.length c0_2, .int .i64 a0_3, .int .i64 a0_4, .int .i64 a0_5, .int .i64 a0_6, .int .i64 a0_7, .slice A0_8 l0_8.length c0_8, .int .i64 a0_9] 34 (0, 0))) ∧ (w'.heap[s_]? = some (.cells #[.int .i64 0, .int .i64 0] 113 (0, 0))) ∧ (w.heap.size ≤ s_) ∧ (w.heap.size ≤ s_) ∧ (gb399 ≠ s_) ∧ (s_ ≠ gb399) ∧ (Below w.heap.size w w')) ?_ ?_
           rotate_left
           ·intro hJ3_13
            refine join_ (σ := Nat × Nat) 6 #[true, true, true, false, true, true, true, false, true, true, true, false, true, true, false, false, false] (fun s_ => [(9, .pointer (some ⟨s_.1, 0, none⟩)), (10, .pointer (some ⟨s_.2, 0, none⟩))]) (fun s_ w' => (Cz10 w' gb399 (.int .i64 a0_0) (.slice A0_1 l0_1.length c0_1) (.slice A0_2 l0_2.length c0_2) (.int .i64 a0_3) (.int .i64 a0_4) (.int .i64 a0_5) (.int .i64 a0_6) (.int .i64 a0_7) (.slice A0_8 l0_8.length c0_8) (.int .i64 a0_9)) ∧ (w'.heap[gb399]? = some (.cells #[.int .i64 a0_0, .slice A0_1 l0_1.length c0_1, .slice A0_2 l0_2.length c0_2, .int .i64 a0_3, .int .i64 a0_4, .int .i64 a0_5, .int .i64 a0_6, .int .i64 a0_7, .slice A0_8 l0_8.length c0_8, .int .i64 a0_9] 34 (0, 0))) ∧ (w'.heap[s_.1]? = some (.cells #[.int .i64 0, .int .i64 0] 113 (0, 0))) ∧ (w'.heap[s_.2]? = some (.cells #[.int .i64 0, .int .i64 0] 113 (0, 0))) ∧ (w.heap.size ≤ s_.1) ∧ (w.heap.size ≤ s_.1) ∧ (gb399 ≠ s_.1) ∧ (s_.1 ≠ gb399) ∧ (s_.2 ≠ s_.1) ∧ (s_.1 ≠ s_.2) ∧ (w.heap.size ≤ s_.2) ∧ (w.heap.size ≤ s_.2) ∧ (gb399 ≠ s_.2) ∧ (s_.2 ≠ gb399) ∧ (Below w.heap.size w w')) ?_ ?_
            rotate_left
            ·intro hJ12_13
             refine join_ (σ := Unit) 7 #[true, true, true, true, true, true, true, false, true, true, true, false, false, false, false, false, false] (fun s_ => [(17, .agg #[.int .i64 t400, .int .i64 t401])]) (fun s_ w' => (Cz10 w' gb399 (.int .i64 a0_0) (.slice A0_1 l0_1.length c0_1) (.slice A0_2 l0_2.length c0_2) (.int .i64 a0_3) (.int .i64 a0_4) (.int .i64 a0_5) (.int .i64 a0_6) (.int .i64 a0_7) (.slice A0_8 l0_8.length c0_8) (.int .i64 a0_9)) ∧ (w'.heap[gb399]? = some (.cells #[.int .i64 a0_0, .slice A0_1 l0_1.length c0_1, .slice A0_2 l0_2.length c0_2, .int .i64 a0_3, .int .i64 a0_4, .int .i64 a0_5, .int .i64 a0_6, .int .i64 a0_7, .slice A0_8 l0_8.length c0_8, .int .i64 a0_9] 34 (0, 0))) ∧ (Below w.heap.size w w')) ?_ ?_
             rotate_left
             ·intro hJ3
              refine join_ (σ := Nat) 7 #[true, true, true, false, true, true, true, false, true, true, true, false, true, false, false, false, false] (fun s_ => [(9, .pointer (some ⟨s_, 0, none⟩))]) (fun s_ w' => (Cz10 w' gb399 (.int .i64 a0_0) (.slice A0_1 l0_1.length c0_1) (.slice A0_2 l0_2.length c0_2) (.int .i64 a0_3) (.int .i64 a0_4) (.int .i64 a0_5) (.int .i64 a0_6) (.int .i64 a0_7) (.slice A0_8 l0_8.length c0_8) (.int .i64 a0_9)) ∧ (w'.heap[gb399]? = some (.cells #[.int .i64 a0_0, .slice A0_1 l0_1.length c0_1, .slice A0_2 l0_2.length c0_2, .int .i64 a0_3, .int .i64 a0_4, .int .i64 a0_5, .int .i64 a0_6, .int .i64 a0_7, .slice A0_8 l0_8.length c0_8, .int .i64 a0_9] 34 (0, 0))) ∧ (w'.heap[s_]? = some (.cells #[.int .i64 0, .int .i64 0] 113 (0, 0))) ∧ (w.heap.size ≤ s_) ∧ (w.heap.size ≤ s_) ∧ (gb399 ≠ s_) ∧ (s_ ≠ gb399) ∧ (Below w.heap.size w w')) ?_ ?_
              rotate_left
              ·intro hJ12
               refine join_ (σ := Nat) 7 #[true, true, true, false, true, true, true, false, true, true, true, false, false, true, false, false, false] (fun s_ => [(10, .pointer (some ⟨s_, 0, none⟩))]) (fun s_ w' => (Cz10 w' gb399 (.int .i64 a0_0) (.slice A0_1 l0_1.length c0_1) (.slice A0_2 l0_2.length c0_2) (.int .i64 a0_3) (.int .i64 a0_4) (.int .i64 a0_5) (.int .i64 a0_6) (.int .i64 a0_7) (.slice A0_8 l0_8.length c0_8) (.int .i64 a0_9)) ∧ (w'.heap[gb399]? = some (.cells #[.int .i64 a0_0, .slice A0_1 l0_1.length c0_1, .slice A0_2 l0_2.length c0_2, .int .i64 a0_3, .int .i64 a0_4, .int .i64 a0_5, .int .i64 a0_6, .int .i64 a0_7, .slice A0_8 l0_8.length c0_8, .int .i64 a0_9] 34 (0, 0))) ∧ (w'.heap[s_]? = some (.cells #[.int .i64 0, .int .i64 0] 113 (0, 0))) ∧ (w.heap.size ≤ s_) ∧ (w.heap.size ≤ s_) ∧ (gb399 ≠ s_) ∧ (s_ ≠ gb399) ∧ (Below w.heap.size w w')) ?_ ?_
               rotate_left
               ·intro hJ13
                refine three_ (i := 3) (j := 12) (k := 13) (Ni := some 17) (Nj := some 9) (Nk := some 10) #[true, true, true, true, true, true, true, false, true, true, true, false, false, false, false, false, false] #[true, true, true, false, true, true, true, false, true, true, true, false, true, false, false, false, false] #[true, true, true, false, true, true, true, false, true, true, true, false, false, true, false, false, false] rfl rfl rfl rfl rfl rfl (three_of HT_.out (by kernel_rfl)) (by decide) (by decide) (by decide) (fun K hK => ?_) (fun K hK => ?_) (fun K hK => ?_)
                ·skip
                 refine goes_ Try.func106 (by kernel_rfl) rfl #[.agg #[.int .i64 a0_0, .slice A0_1 l0_1.length c0_1, .slice A0_2 l0_2.length c0_2, .int .i64 a0_3, .int .i64 a0_4, .int .i64 a0_5, .int .i64 a0_6, .int .i64 a0_7, .slice A0_8 l0_8.length c0_8, .int .i64 a0_9], .int .i64 a1, .int .i64 a3] (by rfl) rfl rfl mp_ ?_
                 with_reducible refine (impl_NodeAt.calls a0_0 _ _ l0_1 _ _ l0_2 a0_3 a0_4 a0_5 a0_6 a0_7 _ _ l0_8 a0_9 a1 a3 t400 t401 _ ?side1 ?side2 ?side3 ?side4 ?side5 ?side6 A5.out).mono ?_
                 (case side1 => exact ck_ HR0_1 HB)
                 (case side2 => exact HC0_1.out)
                 (case side3 => exact ck_ HR0_2 HB)
                 (case side4 => exact HC0_2.out)
                 (case side5 => exact ck_ HR0_8 HB)
                 (case side6 => exact HC0_8.out)
                 rintro e w14 ⟨rfl, hb⟩
                 refine ⟨_, rfl, sh2_ (blk_below (bk_ BK399) hb) (below_step (bl1_ HB GE399) hb) ?_⟩
                 clear BK399 HB hb
                 intro BK399 HB
                 refine hK.out _ _ (cz10_ BK399) (fun hHeld => ?_)
                 clear hK K
                 refine norm_ (show Act.put _ (some 17) _ = _ from pt_) ?_
                 exact norm_ pa_ (hJ3 () _ ⟨hHeld, (bk_ BK399), (bl1_ HB GE399)⟩)
                ·skip
                 refine bxs_ 9 113 #[.int .i64 0, .int .i64 0] ?_
                 intro gb405 hg w14 hbox hb
                 refine sh7_ (blk_below (bk_ BK399) hb) (below_step (bl1_ HB GE399) hb) hbox (ge_ hg (bl1_ HB GE399)) (ge_ hg (bl1_ HB GE399)) (nl_ hg (bk_ BK399)) (ng_ hg (bk_ BK399)) ?_
                 clear BK399 HB hb hbox hg
                 intro BK399 HB BK405 GW405 GE405 NB399_405 NB405_399
                 refine hK.out _ _ (cz10_ BK399) (fun hHeld => ?_)
                 clear hK K
                 refine norm_ (show Act.put _ (some 9) _ = _ from pt_) ?_
                 exact norm_ pa_ (hJ12 (gb405) _ ⟨hHeld, (bk_ BK399), (bk_ BK405), GW405.out, GE405.out, NB399_405.out, NB405_399.out, (bl2_ HB GE399 GE405)⟩)
                ·skip
                 refine bxs_ 10 113 #[.int .i64 0, .int .i64 0] ?_
                 intro gb406 hg w14 hbox hb
                 refine sh7_ (blk_below (bk_ BK399) hb) (below_step (bl1_ HB GE399) hb) hbox (ge_ hg (bl1_ HB GE399)) (ge_ hg (bl1_ HB GE399)) (nl_ hg (bk_ BK399)) (ng_ hg (bk_ BK399)) ?_
                 clear BK399 HB hb hbox hg
                 intro BK399 HB BK406 GW406 GE406 NB399_406 NB406_399
                 refine hK.out _ _ (cz10_ BK399) (fun hHeld => ?_)
                 clear hK K
                 refine norm_ (show Act.put _ (some 10) _ = _ from pt_) ?_
                 exact norm_ pa_ (hJ13 (gb406) _ ⟨hHeld, (bk_ BK399), (bk_ BK406), GW406.out, GE406.out, NB399_406.out, NB406_399.out, (bl2_ HB GE399 GE406)⟩)
               ·skip
                rintro gb406 w15 ⟨hS_, h0_, h1_, h2_, h3_, h4_, h5_, h6_⟩
                have n0_ : Aside0 (w15.heap[gb399]? = some (.cells #[.int .i64 a0_0, .slice A0_1 l0_1.length c0_1, .slice A0_2 l0_2.length c0_2, .int .i64 a0_3, .int .i64 a0_4, .int .i64 a0_5, .int .i64 a0_6, .int .i64 a0_7, .slice A0_8 l0_8.length c0_8, .int .i64 a0_9] 34 (0, 0))) := ⟨h0_⟩
                have n1_ : Aside0 (w15.heap[gb406]? = some (.cells #[.int .i64 0, .int .i64 0] 113 (0, 0))) := ⟨h1_⟩
                have n2_ : Aside0 (w.heap.size ≤ gb406) := ⟨h2_⟩
                have n3_ : Aside0 (w.heap.size ≤ gb406) := ⟨h3_⟩
                have n4_ : Aside0 (gb399 ≠ gb406) := ⟨h4_⟩
                have n5_ : Aside0 (gb406 ≠ gb399) := ⟨h5_⟩
                have n6_ : Aside0 (Below w.heap.size w w15) := ⟨h6_⟩
                clear BK399
                clear HB
                clear h0_ h1_ h2_ h3_ h4_ h5_ h6_
                have BK399 := n0_
                have BK406 := n1_
                have GW406 := n2_
                have GE406 := n3_
                have NB399_406 := n4_
                have NB406_399 := n5_
                have HB := n6_
                clear n0_ n1_ n2_ n3_ n4_ n5_ n6_
                have hHeld : Cz10 w15 gb399 (.int .i64 a0_0) (.slice A0_1 l0_1.length c0_1) (.slice A0_2 l0_2.length c0_2) (.int .i64 a0_3) (.int .i64 a0_4) (.int .i64 a0_5) (.int .i64 a0_6) (.int .i64 a0_7) (.slice A0_8 l0_8.length c0_8) (.int .i64 a0_9) := hS_
                refine norm_ (a' := ?_) ?_ ?_
                rotate_left
                ·simp only [putAll, Act.put, List.setIfInBounds_toArray, List.set_cons_zero, List.set_cons_succ]
                 rfl
                refine two_ (i := 3) (j := 12) (Ni := some 17) (Nj := some 9) #[true, true, true, true, true, true, true, false, true, true, true, false, false, true, false, false, false] #[true, true, true, false, true, true, true, false, true, true, true, false, true, true, false, false, false] rfl rfl rfl rfl (two_of HT_.out (by kernel_rfl)) (by decide) (by decide) (fun K hK => ?_) (fun K hK => ?_)
                ·skip
                 refine goes_ Try.func106 (by kernel_rfl) rfl #[.agg #[.int .i64 a0_0, .slice A0_1 l0_1.length c0_1, .slice A0_2 l0_2.length c0_2, .int .i64 a0_3, .int .i64 a0_4, .int .i64 a0_5, .int .i64 a0_6, .int .i64 a0_7, .slice A0_8 l0_8.length c0_8, .int .i64 a0_9], .int .i64 a1, .int .i64 a3] (by rfl) rfl rfl mp_ ?_
                 with_reducible refine (impl_NodeAt.calls a0_0 _ _ l0_1 _ _ l0_2 a0_3 a0_4 a0_5 a0_6 a0_7 _ _ l0_8 a0_9 a1 a3 t400 t401 _ ?side1 ?side2 ?side3 ?side4 ?side5 ?side6 A5.out).mono ?_
                 (case side1 => exact ck_ HR0_1 HB)
                 (case side2 => exact HC0_1.out)
                 (case side3 => exact ck_ HR0_2 HB)
                 (case side4 => exact HC0_2.out)
                 (case side5 => exact ck_ HR0_8 HB)
                 (case side6 => exact HC0_8.out)
                 rintro e w16 ⟨rfl, hb⟩
                 refine ⟨_, rfl, sh3_ (blk_below (bk_ BK399) hb) (blk_below (bk_ BK406) hb) (below_step (bl2_ HB GE399 GE406) hb) ?_⟩
                 clear BK399 BK406 HB hb
                 intro BK399 BK406 HB
                 refine hK.out _ _ (cz10_ BK399) (fun hHeld => ?_)
                 clear hK K
                 refine norm_ (show Act.put _ (some 17) _ = _ from pt_) ?_
                 exact norm_ pa_ (hJ3_13 (gb406) _ ⟨hHeld, (bk_ BK399), (bk_ BK406), GW406.out, GE406.out, NB399_406.out, NB406_399.out, (bl2_ HB GE399 GE406)⟩)
                ·skip
                 refine bxs_ 9 113 #[.int .i64 0, .int .i64 0] ?_
                 intro gb405 hg w16 hbox hb
                 refine sh10_ (blk_below (bk_ BK399) hb) (blk_below (bk_ BK406) hb) (below_step (bl2_ HB GE399 GE406) hb) hbox (ge_ hg (bl2_ HB GE399 GE406)) (ge_ hg (bl2_ HB GE399 GE406)) (nl_ hg (bk_ BK399)) (ng_ hg (bk_ BK399)) (nl_ hg (bk_ BK406)) (ng_ hg (bk_ BK406)) ?_
                 clear BK399 BK406 HB hb hbox hg
                 intro BK399 BK406 HB BK405 GW405 GE405 NB399_405 NB405_399 NB406_405 NB405_406
                 refine hK.out _ _ (cz10_ BK399) (fun hHeld => ?_)
                 clear hK K
                 refine norm_ (show Act.put _ (some 9) _ = _ from pt_) ?_
                 exact norm_ pa_ (hJ12_13 (gb405, gb406) _ ⟨hHeld, (bk_ BK399), (bk_ BK405), (bk_ BK406), GW405.out, GE405.out, NB399_405.out, NB405_399.out, NB406_405.out, NB405_406.out, GW406.out, GE406.out, NB399_406.out, NB406_399.out, (bl3_ HB GE399 GE406 GE405)⟩)
              ·skip
               rintro gb405 w15 ⟨hS_, h0_, h1_, h2_, h3_, h4_, h5_, h6_⟩
               have n0_ : Aside0 (w15.heap[gb399]? = some (.cells #[.int .i64 a0_0, .slice A0_1 l0_1.length c0_1, .slice A0_2 l0_2.length c0_2, .int .i64 a0_3, .int .i64 a0_4, .int .i64 a0_5, .int .i64 a0_6, .int .i64 a0_7, .slice A0_8 l0_8.length c0_8, .int .i64 a0_9] 34 (0, 0))) := ⟨h0_⟩
               have n1_ : Aside0 (w15.heap[gb405]? = some (.cells #[.int .i64 0, .int .i64 0] 113 (0, 0))) := ⟨h1_⟩
               have n2_ : Aside0 (w.heap.size ≤ gb405) := ⟨h2_⟩
               have n3_ : Aside0 (w.heap.size ≤ gb405) := ⟨h3_⟩
               have n4_ : Aside0 (gb399 ≠ gb405) := ⟨h4_⟩
               have n5_ : Aside0 (gb405 ≠ gb399) := ⟨h5_⟩
               have n6_ : Aside0 (Below w.heap.size w w15) := ⟨h6_⟩
               clear BK399
               clear HB
               clear h0_ h1_ h2_ h3_ h4_ h5_ h6_
               have BK399 := n0_
               have BK405 := n1_
               have GW405 := n2_
               have GE405 := n3_
               have NB399_405 := n4_
               have NB405_399 := n5_
               have HB := n6_
               clear n0_ n1_ n2_ n3_ n4_ n5_ n6_
               have hHeld : Cz10 w15 gb399 (.int .i64 a0_0) (.slice A0_1 l0_1.length c0_1) (.slice A0_2 l0_2.length c0_2) (.int .i64 a0_3) (.int .i64 a0_4) (.int .i64 a0_5) (.int .i64 a0_6) (.int .i64 a0_7) (.slice A0_8 l0_8.length c0_8) (.int .i64 a0_9) := hS_
               refine norm_ (a' := ?_) ?_ ?_
               rotate_left
               ·simp only [putAll, Act.put, List.setIfInBounds_toArray, List.set_cons_zero, List.set_cons_succ]
                rfl
               refine two_ (i := 3) (j := 13) (Ni := some 17) (Nj := some 10) #[true, true, true, true, true, true, true, false, true, true, true, false, true, false, false, false, false] #[true, true, true, false, true, true, true, false, true, true, true, false, true, true, false, false, false] rfl rfl rfl rfl (two_of HT_.out (by kernel_rfl)) (by decide) (by decide) (fun K hK => ?_) (fun K hK => ?_)
               ·skip
                refine goes_ Try.func106 (by kernel_rfl) rfl #[.agg #[.int .i64 a0_0, .slice A0_1 l0_1.length c0_1, .slice A0_2 l0_2.length c0_2, .int .i64 a0_3, .int .i64 a0_4, .int .i64 a0_5, .int .i64 a0_6, .int .i64 a0_7, .slice A0_8 l0_8.length c0_8, .int .i64 a0_9], .int .i64 a1, .int .i64 a3] (by rfl) rfl rfl mp_ ?_
                with_reducible refine (impl_NodeAt.calls a0_0 _ _ l0_1 _ _ l0_2 a0_3 a0_4 a0_5 a0_6 a0_7 _ _ l0_8 a0_9 a1 a3 t400 t401 _ ?side1 ?side2 ?side3 ?side4 ?side5 ?side6 A5.out).mono ?_
                (case side1 => exact ck_ HR0_1 HB)
                (case side2 => exact HC0_1.out)
                (case side3 => exact ck_ HR0_2 HB)
                (case side4 => exact HC0_2.out)
                (case side5 => exact ck_ HR0_8 HB)
                (case side6 => exact HC0_8.out)
                rintro e w16 ⟨rfl, hb⟩
                refine ⟨_, rfl, sh3_ (blk_below (bk_ BK399) hb) (blk_below (bk_ BK405) hb) (below_step (bl2_ HB GE399 GE405) hb) ?_⟩
                clear BK399 BK405 HB hb
                intro BK399 BK405 HB
                refine hK.out _ _ (cz10_ BK399) (fun hHeld => ?_)
                clear hK K
                refine norm_ (show Act.put _ (some 17) _ = _ from pt_) ?_
                exact norm_ pa_ (hJ3_12 (gb405) _ ⟨hHeld, (bk_ BK399), (bk_ BK405), GW405.out, GE405.out, NB399_405.out, NB405_399.out, (bl2_ HB GE399 GE405)⟩)
               ·skip
                refine bxs_ 10 113 #[.int .i64 0, .int .i64 0] ?_
                intro gb406 hg w16 hbox hb
                refine sh10_ (blk_below (bk_ BK399) hb) (blk_below (bk_ BK405) hb) (below_step (bl2_ HB GE399 GE405) hb) hbox (ge_ hg (bl2_ HB GE399 GE405)) (ge_ hg (bl2_ HB GE399 GE405)) (nl_ hg (bk_ BK399)) (ng_ hg (bk_ BK399)) (nl_ hg (bk_ BK405)) (ng_ hg (bk_ BK405)) ?_
                clear BK399 BK405 HB hb hbox hg
                intro BK399 BK405 HB BK406 GW406 GE406 NB399_406 NB406_399 NB405_406 NB406_405
                refine hK.out _ _ (cz10_ BK399) (fun hHeld => ?_)
                clear hK K
                refine norm_ (show Act.put _ (some 10) _ = _ from pt_) ?_
                exact norm_ pa_ (hJ12_13 (gb405, gb406) _ ⟨hHeld, (bk_ BK399), (bk_ BK405), (bk_ BK406), GW405.out, GE405.out, NB399_405.out, NB405_399.out, NB406_405.out, NB405_406.out, GW406.out, GE406.out, NB399_406.out, NB406_399.out, (bl3_ HB GE399 GE405 GE406)⟩)
             ·skip
              rintro _ w15 ⟨hS_, h0_, h1_⟩
              have n0_ : Aside0 (w15.heap[gb399]? = some (.cells #[.int .i64 a0_0, .slice A0_1 l0_1.length c0_1, .slice A0_2 l0_2.length c0_2, .int .i64 a0_3, .int .i64 a0_4, .int .i64 a0_5, .int .i64 a0_6, .int .i64 a0_7, .slice A0_8 l0_8.length c0_8, .int .i64 a0_9] 34 (0, 0))) := ⟨h0_⟩
              have n1_ : Aside0 (Below w.heap.size w w15) := ⟨h1_⟩
              clear BK399
              clear HB
              clear h0_ h1_
              have BK399 := n0_
              have HB := n1_
              clear n0_ n1_
              have hHeld : Cz10 w15 gb399 (.int .i64 a0_0) (.slice A0_1 l0_1.length c0_1) (.slice A0_2 l0_2.length c0_2) (.int .i64 a0_3) (.int .i64 a0_4) (.int .i64 a0_5) (.int .i64 a0_6) (.int .i64 a0_7) (.slice A0_8 l0_8.length c0_8) (.int .i64 a0_9) := hS_
              refine norm_ (a' := ?_) ?_ ?_
              rotate_left
              ·simp only [putAll, Act.put, List.setIfInBounds_toArray, List.set_cons_zero, List.set_cons_succ]
               rfl
              refine three_ (i := 7) (j := 12) (k := 13) (Ni := some 21) (Nj := some 9) (Nk := some 10) #[true, true, true, true, true, true, true, true, true, true, true, false, false, false, false, false, false] #[true, true, true, true, true, true, true, false, true, true, true, false, true, false, false, false, false] #[true, true, true, true, true, true, true, false, true, true, true, false, false, true, false, false, false] rfl rfl rfl rfl rfl rfl (three_of HT_.out (by kernel_rfl)) (by decide) (by decide) (by decide) (fun K hK => ?_) (fun K hK => ?_) (fun K hK => ?_)
              ·skip
               refine goes_ Try.func106 (by kernel_rfl) rfl #[.agg #[.int .i64 a0_0, .slice A0_1 l0_1.length c0_1, .slice A0_2 l0_2.length c0_2, .int .i64 a0_3, .int .i64 a0_4, .int .i64 a0_5, .int .i64 a0_6, .int .i64 a0_7, .slice A0_8 l0_8.length c0_8, .int .i64 a0_9], .int .i64 a2, .int .i64 a3] (by rfl) rfl rfl mp_ ?_
               with_reducible refine (impl_NodeAt.calls a0_0 _ _ l0_1 _ _ l0_2 a0_3 a0_4 a0_5 a0_6 a0_7 _ _ l0_8 a0_9 a2 a3 t402 t403 _ ?side1 ?side2 ?side3 ?side4 ?side5 ?side6 A6.out).mono ?_
               (case side1 => exact ck_ HR0_1 HB)
               (case side2 => exact HC0_1.out)
               (case side3 => exact ck_ HR0_2 HB)
               (case side4 => exact HC0_2.out)
               (case side5 => exact ck_ HR0_8 HB)
               (case side6 => exact HC0_8.out)
               rintro e w16 ⟨rfl, hb⟩
               refine ⟨_, rfl, sh2_ (blk_below (bk_ BK399) hb) (below_step (bl1_ HB GE399) hb) ?_⟩
               clear BK399 HB hb
               intro BK399 HB
               refine hK.out _ _ (cz10_ BK399) (fun hHeld => ?_)
               clear hK K
               refine norm_ (show Act.put _ (some 21) _ = _ from pt_) ?_
               exact norm_ pa_ (hJ3_7 () _ ⟨hHeld, (bk_ BK399), (bl1_ HB GE399)⟩)
              ·skip
               refine bxs_ 9 113 #[.int .i64 0, .int .i64 0] ?_
               intro gb405 hg w16 hbox hb
               refine sh7_ (blk_below (bk_ BK399) hb) (below_step (bl1_ HB GE399) hb) hbox (ge_ hg (bl1_ HB GE399)) (ge_ hg (bl1_ HB GE399)) (nl_ hg (bk_ BK399)) (ng_ hg (bk_ BK399)) ?_
               clear BK399 HB hb hbox hg
               intro BK399 HB BK405 GW405 GE405 NB399_405 NB405_399
               refine hK.out _ _ (cz10_ BK399) (fun hHeld => ?_)
               clear hK K
               refine norm_ (show Act.put _ (some 9) _ = _ from pt_) ?_
               exact norm_ pa_ (hJ3_12 (gb405) _ ⟨hHeld, (bk_ BK399), (bk_ BK405), GW405.out, GE405.out, NB399_405.out, NB405_399.out, (bl2_ HB GE399 GE405)⟩)
              ·skip
               refine bxs_ 10 113 #[.int .i64 0, .int .i64 0] ?_
               intro gb406 hg w16 hbox hb
               refine sh7_ (blk_below (bk_ BK399) hb) (below_step (bl1_ HB GE399) hb) hbox (ge_ hg (bl1_ HB GE399)) (ge_ hg (bl1_ HB GE399)) (nl_ hg (bk_ BK399)) (ng_ hg (bk_ BK399)) ?_
               clear BK399 HB hb hbox hg
               intro BK399 HB BK406 GW406 GE406 NB399_406 NB406_399
               refine hK.out _ _ (cz10_ BK399) (fun hHeld => ?_)
               clear hK K
               refine norm_ (show Act.put _ (some 10) _ = _ from pt_) ?_
               exact norm_ pa_ (hJ3_13 (gb406) _ ⟨hHeld, (bk_ BK399), (bk_ BK406), GW406.out, GE406.out, NB399_406.out, NB406_399.out, (bl2_ HB GE399 GE406)⟩)
            ·skip
             rintro ⟨gb405, gb406⟩ w16 ⟨hS_, h0_, h1_, h2_, h3_, h4_, h5_, h6_, h7_, h8_, h9_, h10_, h11_, h12_, h13_⟩
             have n0_ : Aside0 (w16.heap[gb399]? = some (.cells #[.int .i64 a0_0, .slice A0_1 l0_1.length c0_1, .slice A0_2 l0_2.length c0_2, .int .i64 a0_3, .int .i64 a0_4, .int .i64 a0_5, .int .i64 a0_6, .int .i64 a0_7, .slice A0_8 l0_8.length c0_8, .int .i64 a0_9] 34 (0, 0))) := ⟨h0_⟩
             have n1_ : Aside0 (w16.heap[gb405]? = some (.cells #[.int .i64 0, .int .i64 0] 113 (0, 0))) := ⟨h1_⟩
             have n2_ : Aside0 (w16.heap[gb406]? = some (.cells #[.int .i64 0, .int .i64 0] 113 (0, 0))) := ⟨h2_⟩
             have n3_ : Aside0 (w.heap.size ≤ gb405) := ⟨h3_⟩
             have n4_ : Aside0 (w.heap.size ≤ gb405) := ⟨h4_⟩
             have n5_ : Aside0 (gb399 ≠ gb405) := ⟨h5_⟩
             have n6_ : Aside0 (gb405 ≠ gb399) := ⟨h6_⟩
             have n7_ : Aside0 (gb406 ≠ gb405) := ⟨h7_⟩
             have n8_ : Aside0 (gb405 ≠ gb406) := ⟨h8_⟩
             have n9_ : Aside0 (w.heap.size ≤ gb406) := ⟨h9_⟩
             have n10_ : Aside0 (w.heap.size ≤ gb406) := ⟨h10_⟩
             have n11_ : Aside0 (gb399 ≠ gb406) := ⟨h11_⟩
             have n12_ : Aside0 (gb406 ≠ gb399) := ⟨h12_⟩
             have n13_ : Aside0 (Below w.heap.size w w16) := ⟨h13_⟩
             clear BK399
             clear HB
             clear h0_ h1_ h2_ h3_ h4_ h5_ h6_ h7_ h8_ h9_ h10_ h11_ h12_ h13_
             have BK399 := n0_
             have BK405 := n1_
             have BK406 := n2_
             have GW405 := n3_
             have GE405 := n4_
             have NB399_405 := n5_
             have NB405_399 := n6_
             have NB406_405 := n7_
             have NB405_406 := n8_
             have GW406 := n9_
             have GE406 := n10_
             have NB399_406 := n11_
             have NB406_399 := n12_
             have HB := n13_
             clear n0_ n1_ n2_ n3_ n4_ n5_ n6_ n7_ n8_ n9_ n10_ n11_ n12_ n13_
             have hHeld : Cz10 w16 gb399 (.int .i64 a0_0) (.slice A0_1 l0_1.length c0_1) (.slice A0_2 l0_2.length c0_2) (.int .i64 a0_3) (.int .i64 a0_4) (.int .i64 a0_5) (.int .i64 a0_6) (.int .i64 a0_7) (.slice A0_8 l0_8.length c0_8) (.int .i64 a0_9) := hS_
             refine norm_ (a' := ?_) ?_ ?_
             rotate_left
             ·simp only [putAll, Act.put, List.setIfInBounds_toArray, List.set_cons_zero, List.set_cons_succ]
              rfl
             refine onc_ 3 #[true, true, true, true, true, true, true, false, true, true, true, false, true, true, false, false, false] (some 17) HT_ Try.func106 (impl_NodeAt.calls a0_0 _ _ l0_1 _ _ l0_2 a0_3 a0_4 a0_5 a0_6 a0_7 _ _ l0_8 a0_9 a1 a3 t400 t401 _ (ck_ HR0_1 HB) HC0_1.out (ck_ HR0_2 HB) HC0_2.out (ck_ HR0_8 HB) HC0_8.out A5.out) ?_
             rintro e w17 ⟨rfl, hb⟩
             refine sh4_ (blk_below (bk_ BK399) hb) (blk_below (bk_ BK405) hb) (blk_below (bk_ BK406) hb) (below_step (bl3_ HB GE399 GE405 GE406) hb) ?_
             clear BK399 BK405 BK406 HB hb
             intro BK399 BK405 BK406 HB
             refine ⟨_, _, rfl, (cz10_ BK399), pt_, fun hHeld => ?_⟩
             exact norm_ pa_ (hJ3_12_13 (gb405, gb406) _ ⟨hHeld, (bk_ BK399), (bk_ BK405), (bk_ BK406), GW405.out, GE405.out, NB399_405.out, NB405_399.out, NB406_405.out, NB405_406.out, GW406.out, GE406.out, NB399_406.out, NB406_399.out, (bl3_ HB GE399 GE405 GE406)⟩)
           ·skip
            rintro gb406 w16 ⟨hS_, h0_, h1_, h2_, h3_, h4_, h5_, h6_⟩
            have n0_ : Aside0 (w16.heap[gb399]? = some (.cells #[.int .i64 a0_0, .slice A0_1 l0_1.length c0_1, .slice A0_2 l0_2.length c0_2, .int .i64 a0_3, .int .i64 a0_4, .int .i64 a0_5, .int .i64 a0_6, .int .i64 a0_7, .slice A0_8 l0_8.length c0_8, .int .i64 a0_9] 34 (0, 0))) := ⟨h0_⟩
            have n1_ : Aside0 (w16.heap[gb406]? = some (.cells #[.int .i64 0, .int .i64 0] 113 (0, 0))) := ⟨h1_⟩
            have n2_ : Aside0 (w.heap.size ≤ gb406) := ⟨h2_⟩
            have n3_ : Aside0 (w.heap.size ≤ gb406) := ⟨h3_⟩
            have n4_ : Aside0 (gb399 ≠ gb406) := ⟨h4_⟩
            have n5_ : Aside0 (gb406 ≠ gb399) := ⟨h5_⟩
            have n6_ : Aside0 (Below w.heap.size w w16) := ⟨h6_⟩
            clear BK399
            clear HB
            clear h0_ h1_ h2_ h3_ h4_ h5_ h6_
            have BK399 := n0_
            have BK406 := n1_
            have GW406 := n2_
            have GE406 := n3_
            have NB399_406 := n4_
            have NB406_399 := n5_
            have HB := n6_
            clear n0_ n1_ n2_ n3_ n4_ n5_ n6_
            have hHeld : Cz10 w16 gb399 (.int .i64 a0_0) (.slice A0_1 l0_1.length c0_1) (.slice A0_2 l0_2.length c0_2) (.int .i64 a0_3) (.int .i64 a0_4) (.int .i64 a0_5) (.int .i64 a0_6) (.int .i64 a0_7) (.slice A0_8 l0_8.length c0_8) (.int .i64 a0_9) := hS_
            refine norm_ (a' := ?_) ?_ ?_
            rotate_left
            ·simp only [putAll, Act.put, List.setIfInBounds_toArray, List.set_cons_zero, List.set_cons_succ]
             rfl
            refine two_ (i := 7) (j := 12) (Ni := some 21) (Nj := some 9) #[true, true, true, true, true, true, true, true, true, true, true, false, false, true, false, false, false] #[true, true, true, true, true, true, true, false, true, true, true, false, true, true, false, false, false] rfl rfl rfl rfl (two_of HT_.out (by kernel_rfl)) (by decide) (by decide) (fun K hK => ?_) (fun K hK => ?_)
            ·skip
             refine goes_ Try.func106 (by kernel_rfl) rfl #[.agg #[.int .i64 a0_0, .slice A0_1 l0_1.length c0_1, .slice A0_2 l0_2.length c0_2, .int .i64 a0_3, .int .i64 a0_4, .int .i64 a0_5, .int .i64 a0_6, .int .i64 a0_7, .slice A0_8 l0_8.length c0_8, .int .i64 a0_9], .int .i64 a2, .int .i64 a3] (by rfl) rfl rfl mp_ ?_
             with_reducible refine (impl_NodeAt.calls a0_0 _ _ l0_1 _ _ l0_2 a0_3 a0_4 a0_5 a0_6 a0_7 _ _ l0_8 a0_9 a2 a3 t402 t403 _ ?side1 ?side2 ?side3 ?side4 ?side5 ?side6 A6.out).mono ?_
             (case side1 => exact ck_ HR0_1 HB)
             (case side2 => exact HC0_1.out)
             (case side3 => exact ck_ HR0_2 HB)
             (case side4 => exact HC0_2.out)
             (case side5 => exact ck_ HR0_8 HB)
             (case side6 => exact HC0_8.out)
             rintro e w17 ⟨rfl, hb⟩
             refine ⟨_, rfl, sh3_ (blk_below (bk_ BK399) hb) (blk_below (bk_ BK406) hb) (below_step (bl2_ HB GE399 GE406) hb) ?_⟩
             clear BK399 BK406 HB hb
             intro BK399 BK406 HB
             refine hK.out _ _ (cz10_ BK399) (fun hHeld => ?_)
             clear hK K
             refine norm_ (show Act.put _ (some 21) _ = _ from pt_) ?_
             exact norm_ pa_ (hJ3_7_13 (gb406) _ ⟨hHeld, (bk_ BK399), (bk_ BK406), GW406.out, GE406.out, NB399_406.out, NB406_399.out, (bl2_ HB GE399 GE406)⟩)
            ·skip
             refine bxs_ 9 113 #[.int .i64 0, .int .i64 0] ?_
             intro gb405 hg w17 hbox hb
             refine sh10_ (blk_below (bk_ BK399) hb) (blk_below (bk_ BK406) hb) (below_step (bl2_ HB GE399 GE406) hb) hbox (ge_ hg (bl2_ HB GE399 GE406)) (ge_ hg (bl2_ HB GE399 GE406)) (nl_ hg (bk_ BK399)) (ng_ hg (bk_ BK399)) (nl_ hg (bk_ BK406)) (ng_ hg (bk_ BK406)) ?_
             clear BK399 BK406 HB hb hbox hg
             intro BK399 BK406 HB BK405 GW405 GE405 NB399_405 NB405_399 NB406_405 NB405_406
             refine hK.out _ _ (cz10_ BK399) (fun hHeld => ?_)
             clear hK K
             refine norm_ (show Act.put _ (some 9) _ = _ from pt_) ?_
             exact norm_ pa_ (hJ3_12_13 (gb405, gb406) _ ⟨hHeld, (bk_ BK399), (bk_ BK405), (bk_ BK406), GW405.out, GE405.out, NB399_405.out, NB405_399.out, NB406_405.out, NB405_406.out, GW406.out, GE406.out, NB399_406.out, NB406_399.out, (bl3_ HB GE399 GE406 GE405)⟩)
          ·skip
           rintro gb405 w16 ⟨hS_, h0_, h1_, h2_, h3_, h4_, h5_, h6_⟩
           have n0_ : Aside0 (w16.heap[gb399]? = some (.cells #[.int .i64 a0_0, .slice A0_1 l0_1.length c0_1, .slice A0_2 l0_2.length c0_2, .int .i64 a0_3, .int .i64 a0_4, .int .i64 a0_5, .int .i64 a0_6, .int .i64 a0_7, .slice A0_8 l0_8.length c0_8, .int .i64 a0_9] 34 (0, 0))) := ⟨h0_⟩
           have n1_ : Aside0 (w16.heap[gb405]? = some (.cells #[.int .i64 0, .int .i64 0] 113 (0, 0))) := ⟨h1_⟩
           have n2_ : Aside0 (w.heap.size ≤ gb405) := ⟨h2_⟩
           have n3_ : Aside0 (w.heap.size ≤ gb405) := ⟨h3_⟩
           have n4_ : Aside0 (gb399 ≠ gb405) := ⟨h4_⟩
           have n5_ : Aside0 (gb405 ≠ gb399) := ⟨h5_⟩
           have n6_ : Aside0 (Below w.heap.size w w16) := ⟨h6_⟩
           clear BK399
           clear HB
           clear h0_ h1_ h2_ h3_ h4_ h5_ h6_
           have BK399 := n0_
           have BK405 := n1_
           have GW405 := n2_
           have GE405 := n3_
           have NB399_405 := n4_
           have NB405_399 := n5_
           have HB := n6_
           clear n0_ n1_ n2_ n3_ n4_ n5_ n6_
           have hHeld : Cz10 w16 gb399 (.int .i64 a0_0) (.slice A0_1 l0_1.length c0_1) (.slice A0_2 l0_2.length c0_2) (.int .i64 a0_3) (.int .i64 a0_4) (.int .i64 a0_5) (.int .i64 a0_6) (.int .i64 a0_7) (.slice A0_8 l0_8.length c0_8) (.int .i64 a0_9) := hS_
           refine norm_ (a' := ?_) ?_ ?_
           rotate_left
           ·simp only [putAll, Act.put, List.setIfInBounds_toArray, List.set_cons_zero, List.set_cons_succ]
            rfl
           refine two_ (i := 7) (j := 13) (Ni := some 21) (Nj := some 10) #[true, true, true, true, true, true, true, true, true, true, true, false, true, false, false, false, false] #[true, true, true, true, true, true, true, false, true, true, true, false, true, true, false, false, false] rfl rfl rfl rfl (two_of HT_.out (by kernel_rfl)) (by decide) (by decide) (fun K hK => ?_) (fun K hK => ?_)
           ·skip
            refine goes_ Try.func106 (by kernel_rfl) rfl #[.agg #[.int .i64 a0_0, .slice A0_1 l0_1.length c0_1, .slice A0_2 l0_2.length c0_2, .int .i64 a0_3, .int .i64 a0_4, .int .i64 a0_5, .int .i64 a0_6, .int .i64 a0_7, .slice A0_8 l0_8.length c0_8, .int .i64 a0_9], .int .i64 a2, .int .i64 a3] (by rfl) rfl rfl mp_ ?_
            with_reducible refine (impl_NodeAt.calls a0_0 _ _ l0_1 _ _ l0_2 a0_3 a0_4 a0_5 a0_6 a0_7 _ _ l0_8 a0_9 a2 a3 t402 t403 _ ?side1 ?side2 ?side3 ?side4 ?side5 ?side6 A6.out).mono ?_
            (case side1 => exact ck_ HR0_1 HB)
            (case side2 => exact HC0_1.out)
            (case side3 => exact ck_ HR0_2 HB)
            (case side4 => exact HC0_2.out)
            (case side5 => exact ck_ HR0_8 HB)
            (case side6 => exact HC0_8.out)
            rintro e w17 ⟨rfl, hb⟩
            refine ⟨_, rfl, sh3_ (blk_below (bk_ BK399) hb) (blk_below (bk_ BK405) hb) (below_step (bl2_ HB GE399 GE405) hb) ?_⟩
            clear BK399 BK405 HB hb
            intro BK399 BK405 HB
            refine hK.out _ _ (cz10_ BK399) (fun hHeld => ?_)
            clear hK K
            refine norm_ (show Act.put _ (some 21) _ = _ from pt_) ?_
            exact norm_ pa_ (hJ3_7_12 (gb405) _ ⟨hHeld, (bk_ BK399), (bk_ BK405), GW405.out, GE405.out, NB399_405.out, NB405_399.out, (bl2_ HB GE399 GE405)⟩)
           ·skip
            refine bxs_ 10 113 #[.int .i64 0, .int .i64 0] ?_
            intro gb406 hg w17 hbox hb
            refine sh10_ (blk_below (bk_ BK399) hb) (blk_below (bk_ BK405) hb) (below_step (bl2_ HB GE399 GE405) hb) hbox (ge_ hg (bl2_ HB GE399 GE405)) (ge_ hg (bl2_ HB GE399 GE405)) (nl_ hg (bk_ BK399)) (ng_ hg (bk_ BK399)) (nl_ hg (bk_ BK405)) (ng_ hg (bk_ BK405)) ?_
            clear BK399 BK405 HB hb hbox hg
            intro BK399 BK405 HB BK406 GW406 GE406 NB399_406 NB406_399 NB405_406 NB406_405
            refine hK.out _ _ (cz10_ BK399) (fun hHeld => ?_)
            clear hK K
            refine norm_ (show Act.put _ (some 10) _ = _ from pt_) ?_
            exact norm_ pa_ (hJ3_12_13 (gb405, gb406) _ ⟨hHeld, (bk_ BK399), (bk_ BK405), (bk_ BK406), GW405.out, GE405.out, NB399_405.out, NB405_399.out, NB406_405.out, NB405_406.out, GW406.out, GE406.out, NB399_406.out, NB406_399.out, (bl3_ HB GE399 GE405 GE406)⟩)
         ·skip
          rintro _ w16 ⟨hS_, h0_, h1_⟩
          have n0_ : Aside0 (w16.heap[gb399]? = some (.cells #[.int .i64 a0_0, .slice A0_1 l0_1.length c0_1, .slice A0_2 l0_2.length c0_2, .int .i64 a0_3, .int .i64 a0_4, .int .i64 a0_5, .int .i64 a0_6, .int .i64 a0_7, .slice A0_8 l0_8.length c0_8, .int .i64 a0_9] 34 (0, 0))) := ⟨h0_⟩
          have n1_ : Aside0 (Below w.heap.size w w16) := ⟨h1_⟩
          clear BK399
          clear HB
          clear h0_ h1_
          have BK399 := n0_
          have HB := n1_
          clear n0_ n1_
          have hHeld : Cz10 w16 gb399 (.int .i64 a0_0) (.slice A0_1 l0_1.length c0_1) (.slice A0_2 l0_2.length c0_2) (.int .i64 a0_3) (.int .i64 a0_4) (.int .i64 a0_5) (.int .i64 a0_6) (.int .i64 a0_7) (.slice A0_8 l0_8.length c0_8) (.int .i64 a0_9) := hS_
          refine norm_ (a' := ?_) ?_ ?_
          rotate_left
          ·simp only [putAll, Act.put, List.setIfInBounds_toArray, List.set_cons_zero, List.set_cons_succ]
           rfl
          refine three_ (i := 11) (j := 12) (k := 13) (Ni := some 25) (Nj := some 9) (Nk := some 10) #[true, true, true, true, true, true, true, true, true, true, true, true, false, false, false, false, false] #[true, true, true, true, true, true, true, true, true, true, true, false, true, false, false, false, false] #[true, true, true, true, true, true, true, true, true, true, true, false, false, true, false, false, false] rfl rfl rfl rfl rfl rfl (three_of HT_.out (by kernel_rfl)) (by decide) (by decide) (by decide) (fun K hK => ?_) (fun K hK => ?_) (fun K hK => ?_)
          ·skip
           refine goes_ Try.func113 (by kernel_rfl) rfl #[.agg #[.int .i64 a0_0, .slice A0_1 l0_1.length c0_1, .slice A0_2 l0_2.length c0_2, .int .i64 a0_3, .int .i64 a0_4, .int .i64 a0_5, .int .i64 a0_6, .int .i64 a0_7, .slice A0_8 l0_8.length c0_8, .int .i64 a0_9], .int .i64 a1, .int .i64 a2] (by rfl) rfl rfl mp_ ?_
           with_reducible refine (impl_LimitOf.calls k a0_0 _ _ l0_1 _ _ l0_2 a0_3 a0_4 a0_5 a0_6 a0_7 _ _ l0_8 a0_9 a1 a2 t404 _ ?side1 ?side2 ?side3 ?side4 ?side5 ?side6 A7.out).mono ?_
           (case side1 => exact ck_ HR0_1 HB)
           (case side2 => exact HC0_1.out)
           (case side3 => exact ck_ HR0_2 HB)
           (case side4 => exact HC0_2.out)
           (case side5 => exact ck_ HR0_8 HB)
           (case side6 => exact HC0_8.out)
           rintro e w17 ⟨rfl, hb⟩
           refine ⟨_, rfl, sh2_ (blk_below (bk_ BK399) hb) (below_step (bl1_ HB GE399) hb) ?_⟩
           clear BK399 HB hb
           intro BK399 HB
           refine hK.out _ _ (cz10_ BK399) (fun hHeld => ?_)
           clear hK K
           refine norm_ (show Act.put _ (some 25) _ = _ from pt_) ?_
           exact norm_ pa_ (hJ3_7_11 () _ ⟨hHeld, (bk_ BK399), (bl1_ HB GE399)⟩)
          ·skip
           refine bxs_ 9 113 #[.int .i64 0, .int .i64 0] ?_
           intro gb405 hg w17 hbox hb
           refine sh7_ (blk_below (bk_ BK399) hb) (below_step (bl1_ HB GE399) hb) hbox (ge_ hg (bl1_ HB GE399)) (ge_ hg (bl1_ HB GE399)) (nl_ hg (bk_ BK399)) (ng_ hg (bk_ BK399)) ?_
           clear BK399 HB hb hbox hg
           intro BK399 HB BK405 GW405 GE405 NB399_405 NB405_399
           refine hK.out _ _ (cz10_ BK399) (fun hHeld => ?_)
           clear hK K
           refine norm_ (show Act.put _ (some 9) _ = _ from pt_) ?_
           exact norm_ pa_ (hJ3_7_12 (gb405) _ ⟨hHeld, (bk_ BK399), (bk_ BK405), GW405.out, GE405.out, NB399_405.out, NB405_399.out, (bl2_ HB GE399 GE405)⟩)
          ·skip
           refine bxs_ 10 113 #[.int .i64 0, .int .i64 0] ?_
           intro gb406 hg w17 hbox hb
           refine sh7_ (blk_below (bk_ BK399) hb) (below_step (bl1_ HB GE399) hb) hbox (ge_ hg (bl1_ HB GE399)) (ge_ hg (bl1_ HB GE399)) (nl_ hg (bk_ BK399)) (ng_ hg (bk_ BK399)) ?_
           clear BK399 HB hb hbox hg
           intro BK399 HB BK406 GW406 GE406 NB399_406 NB406_399
           refine hK.out _ _ (cz10_ BK399) (fun hHeld => ?_)
           clear hK K
           refine norm_ (show Act.put _ (some 10) _ = _ from pt_) ?_
           exact norm_ pa_ (hJ3_7_13 (gb406) _ ⟨hHeld, (bk_ BK399), (bk_ BK406), GW406.out, GE406.out, NB399_406.out, NB406_399.out, (bl2_ HB GE399 GE406)⟩)
        ·skip
         rintro ⟨gb405, gb406⟩ w17 ⟨hS_, h0_, h1_, h2_, h3_, h4_, h5_, h6_, h7_, h8_, h9_, h10_, h11_, h12_, h13_⟩
         have n0_ : Aside0 (w17.heap[gb399]? = some (.cells #[.int .i64 a0_0, .slice A0_1 l0_1.length c0_1, .slice A0_2 l0_2.length c0_2, .int .i64 a0_3, .int .i64 a0_4, .int .i64 a0_5, .int .i64 a0_6, .int .i64 a0_7, .slice A0_8 l0_8.length c0_8, .int .i64 a0_9] 34 (0, 0))) := ⟨h0_⟩
         have n1_ : Aside0 (w17.heap[gb405]? = some (.cells #[.int .i64 0, .int .i64 0] 113 (0, 0))) := ⟨h1_⟩
         have n2_ : Aside0 (w17.heap[gb406]? = some (.cells #[.int .i64 0, .int .i64 0] 113 (0, 0))) := ⟨h2_⟩
         have n3_ : Aside0 (w.heap.size ≤ gb405) := ⟨h3_⟩
         have n4_ : Aside0 (w.heap.size ≤ gb405) := ⟨h4_⟩
         have n5_ : Aside0 (gb399 ≠ gb405) := ⟨h5_⟩
         have n6_ : Aside0 (gb405 ≠ gb399) := ⟨h6_⟩
         have n7_ : Aside0 (gb406 ≠ gb405) := ⟨h7_⟩
         have n8_ : Aside0 (gb405 ≠ gb406) := ⟨h8_⟩
         have n9_ : Aside0 (w.heap.size ≤ gb406) := ⟨h9_⟩
         have n10_ : Aside0 (w.heap.size ≤ gb406) := ⟨h10_⟩
         have n11_ : Aside0 (gb399 ≠ gb406) := ⟨h11_⟩
         have n12_ : Aside0 (gb406 ≠ gb399) := ⟨h12_⟩
         have n13_ : Aside0 (Below w.heap.size w w17) := ⟨h13_⟩
         clear BK399
         clear HB
         clear h0_ h1_ h2_ h3_ h4_ h5_ h6_ h7_ h8_ h9_ h10_ h11_ h12_ h13_
         have BK399 := n0_
         have BK405 := n1_
         have BK406 := n2_
         have GW405 := n3_
         have GE405 := n4_
         have NB399_405 := n5_
         have NB405_399 := n6_
         have NB406_405 := n7_
         have NB405_406 := n8_
         have GW406 := n9_
         have GE406 := n10_
         have NB399_406 := n11_
         have NB406_399 := n12_
         have HB := n13_
         clear n0_ n1_ n2_ n3_ n4_ n5_ n6_ n7_ n8_ n9_ n10_ n11_ n12_ n13_
         have hHeld : Cz10 w17 gb399 (.int .i64 a0_0) (.slice A0_1 l0_1.length c0_1) (.slice A0_2 l0_2.length c0_2) (.int .i64 a0_3) (.int .i64 a0_4) (.int .i64 a0_5) (.int .i64 a0_6) (.int .i64 a0_7) (.slice A0_8 l0_8.length c0_8) (.int .i64 a0_9) := hS_
         refine norm_ (a' := ?_) ?_ ?_
         rotate_left
         ·simp only [putAll, Act.put, List.setIfInBounds_toArray, List.set_cons_zero, List.set_cons_succ]
          rfl
         refine onc_ 7 #[true, true, true, true, true, true, true, true, true, true, true, false, true, true, false, false, false] (some 21) HT_ Try.func106 (impl_NodeAt.calls a0_0 _ _ l0_1 _ _ l0_2 a0_3 a0_4 a0_5 a0_6 a0_7 _ _ l0_8 a0_9 a2 a3 t402 t403 _ (ck_ HR0_1 HB) HC0_1.out (ck_ HR0_2 HB) HC0_2.out (ck_ HR0_8 HB) HC0_8.out A6.out) ?_
         rintro e w18 ⟨rfl, hb⟩
         refine sh4_ (blk_below (bk_ BK399) hb) (blk_below (bk_ BK405) hb) (blk_below (bk_ BK406) hb) (below_step (bl3_ HB GE399 GE405 GE406) hb) ?_
         clear BK399 BK405 BK406 HB hb
         intro BK399 BK405 BK406 HB
         refine ⟨_, _, rfl, (cz10_ BK399), pt_, fun hHeld => ?_⟩
         exact norm_ pa_ (hJ3_7_12_13 (gb405, gb406) _ ⟨hHeld, (bk_ BK399), (bk_ BK405), (bk_ BK406), GW405.out, GE405.out, NB399_405.out, NB405_399.out, NB406_405.out, NB405_406.out, GW406.out, GE406.out, NB399_406.out, NB406_399.out, (bl3_ HB GE399 GE405 GE406)⟩)
       ·skip
        rintro gb406 w17 ⟨hS_, h0_, h1_, h2_, h3_, h4_, h5_, h6_⟩
        have n0_ : Aside0 (w17.heap[gb399]? = some (.cells #[.int .i64 a0_0, .slice A0_1 l0_1.length c0_1, .slice A0_2 l0_2.length c0_2, .int .i64 a0_3, .int .i64 a0_4, .int .i64 a0_5, .int .i64 a0_6, .int .i64 a0_7, .slice A0_8 l0_8.length c0_8, .int .i64 a0_9] 34 (0, 0))) := ⟨h0_⟩
        have n1_ : Aside0 (w17.heap[gb406]? = some (.cells #[.int .i64 0, .int .i64 0] 113 (0, 0))) := ⟨h1_⟩
        have n2_ : Aside0 (w.heap.size ≤ gb406) := ⟨h2_⟩
        have n3_ : Aside0 (w.heap.size ≤ gb406) := ⟨h3_⟩
        have n4_ : Aside0 (gb399 ≠ gb406) := ⟨h4_⟩
        have n5_ : Aside0 (gb406 ≠ gb399) := ⟨h5_⟩
        have n6_ : Aside0 (Below w.heap.size w w17) := ⟨h6_⟩
        clear BK399
        clear HB
        clear h0_ h1_ h2_ h3_ h4_ h5_ h6_
        have BK399 := n0_
        have BK406 := n1_
        have GW406 := n2_
        have GE406 := n3_
        have NB399_406 := n4_
        have NB406_399 := n5_
        have HB := n6_
        clear n0_ n1_ n2_ n3_ n4_ n5_ n6_
        have hHeld : Cz10 w17 gb399 (.int .i64 a0_0) (.slice A0_1 l0_1.length c0_1) (.slice A0_2 l0_2.length c0_2) (.int .i64 a0_3) (.int .i64 a0_4) (.int .i64 a0_5) (.int .i64 a0_6) (.int .i64 a0_7) (.slice A0_8 l0_8.length c0_8) (.int .i64 a0_9) := hS_
        refine norm_ (a' := ?_) ?_ ?_
        rotate_left
        ·simp only [putAll, Act.put, List.setIfInBounds_toArray, List.set_cons_zero, List.set_cons_succ]
         rfl
        refine two_ (i := 11) (j := 12) (Ni := some 25) (Nj := some 9) #[true, true, true, true, true, true, true, true, true, true, true, true, false, true, false, false, false] #[true, true, true, true, true, true, true, true, true, true, true, false, true, true, false, false, false] rfl rfl rfl rfl (two_of HT_.out (by kernel_rfl)) (by decide) (by decide) (fun K hK => ?_) (fun K hK => ?_)
        ·skip
         refine goes_ Try.func113 (by kernel_rfl) rfl #[.agg #[.int .i64 a0_0, .slice A0_1 l0_1.length c0_1, .slice A0_2 l0_2.length c0_2, .int .i64 a0_3, .int .i64 a0_4, .int .i64 a0_5, .int .i64 a0_6, .int .i64 a0_7, .slice A0_8 l0_8.length c0_8, .int .i64 a0_9], .int .i64 a1, .int .i64 a2] (by rfl) rfl rfl mp_ ?_
         with_reducible refine (impl_LimitOf.calls k a0_0 _ _ l0_1 _ _ l0_2 a0_3 a0_4 a0_5 a0_6 a0_7 _ _ l0_8 a0_9 a1 a2 t404 _ ?side1 ?side2 ?side3 ?side4 ?side5 ?side6 A7.out).mono ?_
         (case side1 => exact ck_ HR0_1 HB)
         (case side2 => exact HC0_1.out)
         (case side3 => exact ck_ HR0_2 HB)
         (case side4 => exact HC0_2.out)
         (case side5 => exact ck_ HR0_8 HB)
         (case side6 => exact HC0_8.out)
         rintro e w18 ⟨rfl, hb⟩
         refine ⟨_, rfl, sh3_ (blk_below (bk_ BK399) hb) (blk_below (bk_ BK406) hb) (below_step (bl2_ HB GE399 GE406) hb) ?_⟩
         clear BK399 BK406 HB hb
         intro BK399 BK406 HB
         refine hK.out _ _ (cz10_ BK399) (fun hHeld => ?_)
         clear hK K
         refine norm_ (show Act.put _ (some 25) _ = _ from pt_) ?_
         exact norm_ pa_ (hJ3_7_11_13 (gb406) _ ⟨hHeld, (bk_ BK399), (bk_ BK406), GW406.out, GE406.out, NB399_406.out, NB406_399.out, (bl2_ HB GE399 GE406)⟩)
        ·skip
         refine bxs_ 9 113 #[.int .i64 0, .int .i64 0] ?_
         intro gb405 hg w18 hbox hb
         refine sh10_ (blk_below (bk_ BK399) hb) (blk_below (bk_ BK406) hb) (below_step (bl2_ HB GE399 GE406) hb) hbox (ge_ hg (bl2_ HB GE399 GE406)) (ge_ hg (bl2_ HB GE399 GE406)) (nl_ hg (bk_ BK399)) (ng_ hg (bk_ BK399)) (nl_ hg (bk_ BK406)) (ng_ hg (bk_ BK406)) ?_
         clear BK399 BK406 HB hb hbox hg
         intro BK399 BK406 HB BK405 GW405 GE405 NB399_405 NB405_399 NB406_405 NB405_406
         refine hK.out _ _ (cz10_ BK399) (fun hHeld => ?_)
         clear hK K
         refine norm_ (show Act.put _ (some 9) _ = _ from pt_) ?_
         exact norm_ pa_ (hJ3_7_12_13 (gb405, gb406) _ ⟨hHeld, (bk_ BK399), (bk_ BK405), (bk_ BK406), GW405.out, GE405.out, NB399_405.out, NB405_399.out, NB406_405.out, NB405_406.out, GW406.out, GE406.out, NB399_406.out, NB406_399.out, (bl3_ HB GE399 GE406 GE405)⟩)
      ·skip
       rintro gb405 w17 ⟨hS_, h0_, h1_, h2_, h3_, h4_, h5_, h6_⟩
       have n0_ : Aside0 (w17.heap[gb399]? = some (.cells #[.int .i64 a0_0, .slice A0_1 l0_1.length c0_1, .slice A0_2 l0_2.length c0_2, .int .i64 a0_3, .int .i64 a0_4, .int .i64 a0_5, .int .i64 a0_6, .int .i64 a0_7, .slice A0_8 l0_8.length c0_8, .int .i64 a0_9] 34 (0, 0))) := ⟨h0_⟩
       have n1_ : Aside0 (w17.heap[gb405]? = some (.cells #[.int .i64 0, .int .i64 0] 113 (0, 0))) := ⟨h1_⟩
       have n2_ : Aside0 (w.heap.size ≤ gb405) := ⟨h2_⟩
       have n3_ : Aside0 (w.heap.size ≤ gb405) := ⟨h3_⟩
       have n4_ : Aside0 (gb399 ≠ gb405) := ⟨h4_⟩
       have n5_ : Aside0 (gb405 ≠ gb399) := ⟨h5_⟩
       have n6_ : Aside0 (Below w.heap.size w w17) := ⟨h6_⟩
       clear BK399
       clear HB
       clear h0_ h1_ h2_ h3_ h4_ h5_ h6_
       have BK399 := n0_
       have BK405 := n1_
       have GW405 := n2_
       have GE405 := n3_
       have NB399_405 := n4_
       have NB405_399 := n5_
       have HB := n6_
       clear n0_ n1_ n2_ n3_ n4_ n5_ n6_
       have hHeld : Cz10 w17 gb399 (.int .i64 a0_0) (.slice A0_1 l0_1.length c0_1) (.slice A0_2 l0_2.length c0_2) (.int .i64 a0_3) (.int .i64 a0_4) (.int .i64 a0_5) (.int .i64 a0_6) (.int .i64 a0_7) (.slice A0_8 l0_8.length c0_8) (.int .i64 a0_9) := hS_
       refine norm_ (a' := ?_) ?_ ?_
       rotate_left
       ·simp only [putAll, Act.put, List.setIfInBounds_toArray, List.set_cons_zero, List.set_cons_succ]
        rfl
       refine two_ (i := 11) (j := 13) (Ni := some 25) (Nj := some 10) #[true, true, true, true, true, true, true, true, true, true, true, true, true, false, false, false, false] #[true, true, true, true, true, true, true, true, true, true, true, false, true, true, false, false, false] rfl rfl rfl rfl (two_of HT_.out (by kernel_rfl)) (by decide) (by decide) (fun K hK => ?_) (fun K hK => ?_)
       ·skip
        refine goes_ Try.func113 (by kernel_rfl) rfl #[.agg #[.int .i64 a0_0, .slice A0_1 l0_1.length c0_1, .slice A0_2 l0_2.length c0_2, .int .i64 a0_3, .int .i64 a0_4, .int .i64 a0_5, .int .i64 a0_6, .int .i64 a0_7, .slice A0_8 l0_8.length c0_8, .int .i64 a0_9], .int .i64 a1, .int .i64 a2] (by rfl) rfl rfl mp_ ?_
        with_reducible refine (impl_LimitOf.calls k a0_0 _ _ l0_1 _ _ l0_2 a0_3 a0_4 a0_5 a0_6 a0_7 _ _ l0_8 a0_9 a1 a2 t404 _ ?side1 ?side2 ?side3 ?side4 ?side5 ?side6 A7.out).mono ?_
        (case side1 => exact ck_ HR0_1 HB)
        (case side2 => exact HC0_1.out)
        (case side3 => exact ck_ HR0_2 HB)
        (case side4 => exact HC0_2.out)
        (case side5 => exact ck_ HR0_8 HB)
        (case side6 => exact HC0_8.out)
        rintro e w18 ⟨rfl, hb⟩
        refine ⟨_, rfl, sh3_ (blk_below (bk_ BK399) hb) (blk_below (bk_ BK405) hb) (below_step (bl2_ HB GE399 GE405) hb) ?_⟩
        clear BK399 BK405 HB hb
        intro BK399 BK405 HB
        refine hK.out _ _ (cz10_ BK399) (fun hHeld => ?_)
        clear hK K
        refine norm_ (show Act.put _ (some 25) _ = _ from pt_) ?_
        exact norm_ pa_ (hJ3_7_11_12 (gb405) _ ⟨hHeld, (bk_ BK399), (bk_ BK405), GW405.out, GE405.out, NB399_405.out, NB405_399.out, (bl2_ HB GE399 GE405)⟩)
       ·skip
        refine bxs_ 10 113 #[.int .i64 0, .int .i64 0] ?_
        intro gb406 hg w18 hbox hb
        refine sh10_ (blk_below (bk_ BK399) hb) (blk_below (bk_ BK405) hb) (below_step (bl2_ HB GE399 GE405) hb) hbox (ge_ hg (bl2_ HB GE399 GE405)) (ge_ hg (bl2_ HB GE399 GE405)) (nl_ hg (bk_ BK399)) (ng_ hg (bk_ BK399)) (nl_ hg (bk_ BK405)) (ng_ hg (bk_ BK405)) ?_
        clear BK399 BK405 HB hb hbox hg
        intro BK399 BK405 HB BK406 GW406 GE406 NB399_406 NB406_399 NB405_406 NB406_405
        refine hK.out _ _ (cz10_ BK399) (fun hHeld => ?_)
        clear hK K
        refine norm_ (show Act.put _ (some 10) _ = _ from pt_) ?_
        exact norm_ pa_ (hJ3_7_12_13 (gb405, gb406) _ ⟨hHeld, (bk_ BK399), (bk_ BK405), (bk_ BK406), GW405.out, GE405.out, NB399_405.out, NB405_399.out, NB406_405.out, NB405_406.out, GW406.out, GE406.out, NB399_406.out, NB406_399.out, (bl3_ HB GE399 GE405 GE406)⟩)
     ·skip
      rintro _ w17 ⟨hS_, h0_, h1_⟩
      have n0_ : Aside0 (w17.heap[gb399]? = some (.cells #[.int .i64 a0_0, .slice A0_1 l0_1.length c0_1, .slice A0_2 l0_2.length c0_2, .int .i64 a0_3, .int .i64 a0_4, .int .i64 a0_5, .int .i64 a0_6, .int .i64 a0_7, .slice A0_8 l0_8.length c0_8, .int .i64 a0_9] 34 (0, 0))) := ⟨h0_⟩
      have n1_ : Aside0 (Below w.heap.size w w17) := ⟨h1_⟩
      clear BK399
      clear HB
      clear h0_ h1_
      have BK399 := n0_
      have HB := n1_
      clear n0_ n1_
      have hHeld : Cz10 w17 gb399 (.int .i64 a0_0) (.slice A0_1 l0_1.length c0_1) (.slice A0_2 l0_2.length c0_2) (.int .i64 a0_3) (.int .i64 a0_4) (.int .i64 a0_5) (.int .i64 a0_6) (.int .i64 a0_7) (.slice A0_8 l0_8.length c0_8) (.int .i64 a0_9) := hS_
      refine norm_ (a' := ?_) ?_ ?_
      rotate_left
      ·simp only [putAll, Act.put, List.setIfInBounds_toArray, List.set_cons_zero, List.set_cons_succ]
       rfl
      refine two_ (i := 12) (j := 13) (Ni := some 9) (Nj := some 10) #[true, true, true, true, true, true, true, true, true, true, true, true, true, false, false, false, false] #[true, true, true, true, true, true, true, true, true, true, true, true, false, true, false, false, false] rfl rfl rfl rfl (two_of HT_.out (by kernel_rfl)) (by decide) (by decide) (fun K hK => ?_) (fun K hK => ?_)
      ·skip
       refine bxs_ 9 113 #[.int .i64 0, .int .i64 0] ?_
       intro gb405 hg w18 hbox hb
       refine sh7_ (blk_below (bk_ BK399) hb) (below_step (bl1_ HB GE399) hb) hbox (ge_ hg (bl1_ HB GE399)) (ge_ hg (bl1_ HB GE399)) (nl_ hg (bk_ BK399)) (ng_ hg (bk_ BK399)) ?_
       clear BK399 HB hb hbox hg
       intro BK399 HB BK405 GW405 GE405 NB399_405 NB405_399
       refine hK.out _ _ (cz10_ BK399) (fun hHeld => ?_)
       clear hK K
       refine norm_ (show Act.put _ (some 9) _ = _ from pt_) ?_
       exact norm_ pa_ (hJ3_7_11_12 (gb405) _ ⟨hHeld, (bk_ BK399), (bk_ BK405), GW405.out, GE405.out, NB399_405.out, NB405_399.out, (bl2_ HB GE399 GE405)⟩)
      ·skip
       refine bxs_ 10 113 #[.int .i64 0, .int .i64 0] ?_
       intro gb406 hg w18 hbox hb
       refine sh7_ (blk_below (bk_ BK399) hb) (below_step (bl1_ HB GE399) hb) hbox (ge_ hg (bl1_ HB GE399)) (ge_ hg (bl1_ HB GE399)) (nl_ hg (bk_ BK399)) (ng_ hg (bk_ BK399)) ?_
       clear BK399 HB hb hbox hg
       intro BK399 HB BK406 GW406 GE406 NB399_406 NB406_399
       refine hK.out _ _ (cz10_ BK399) (fun hHeld => ?_)
       clear hK K
       refine norm_ (show Act.put _ (some 10) _ = _ from pt_) ?_
       exact norm_ pa_ (hJ3_7_11_13 (gb406) _ ⟨hHeld, (bk_ BK399), (bk_ BK406), GW406.out, GE406.out, NB399_406.out, NB406_399.out, (bl2_ HB GE399 GE406)⟩)
    ·skip
     rintro ⟨gb405, gb406⟩ w18 ⟨hS_, h0_, h1_, h2_, h3_, h4_, h5_, h6_, h7_, h8_, h9_, h10_, h11_, h12_, h13_⟩
     have n0_ : Aside0 (w18.heap[gb399]? = some (.cells #[.int .i64 a0_0, .slice A0_1 l0_1.length c0_1, .slice A0_2 l0_2.length c0_2, .int .i64 a0_3, .int .i64 a0_4, .int .i64 a0_5, .int .i64 a0_6, .int .i64 a0_7, .slice A0_8 l0_8.length c0_8, .int .i64 a0_9] 34 (0, 0))) := ⟨h0_⟩
     have n1_ : Aside0 (w18.heap[gb405]? = some (.cells #[.int .i64 0, .int .i64 0] 113 (0, 0))) := ⟨h1_⟩
     have n2_ : Aside0 (w18.heap[gb406]? = some (.cells #[.int .i64 0, .int .i64 0] 113 (0, 0))) := ⟨h2_⟩
     have n3_ : Aside0 (w.heap.size ≤ gb405) := ⟨h3_⟩
     have n4_ : Aside0 (w.heap.size ≤ gb405) := ⟨h4_⟩
     have n5_ : Aside0 (gb399 ≠ gb405) := ⟨h5_⟩
     have n6_ : Aside0 (gb405 ≠ gb399) := ⟨h6_⟩
     have n7_ : Aside0 (gb406 ≠ gb405) := ⟨h7_⟩
     have n8_ : Aside0 (gb405 ≠ gb406) := ⟨h8_⟩
     have n9_ : Aside0 (w.heap.size ≤ gb406) := ⟨h9_⟩
     have n10_ : Aside0 (w.heap.size ≤ gb406) := ⟨h10_⟩
     have n11_ : Aside0 (gb399 ≠ gb406) := ⟨h11_⟩
     have n12_ : Aside0 (gb406 ≠ gb399) := ⟨h12_⟩
     have n13_ : Aside0 (Below w.heap.size w w18) := ⟨h13_⟩
     clear BK399
     clear HB
     clear h0_ h1_ h2_ h3_ h4_ h5_ h6_ h7_ h8_ h9_ h10_ h11_ h12_ h13_
     have BK399 := n0_
     have BK405 := n1_
     have BK406 := n2_
     have GW405 := n3_
     have GE405 := n4_
     have NB399_405 := n5_
     have NB405_399 := n6_
     have NB406_405 := n7_
     have NB405_406 := n8_
     have GW406 := n9_
     have GE406 := n10_
     have NB399_406 := n11_
     have NB406_399 := n12_
     have HB := n13_
     clear n0_ n1_ n2_ n3_ n4_ n5_ n6_ n7_ n8_ n9_ n10_ n11_ n12_ n13_
     have hHeld : Cz10 w18 gb399 (.int .i64 a0_0) (.slice A0_1 l0_1.length c0_1) (.slice A0_2 l0_2.length c0_2) (.int .i64 a0_3) (.int .i64 a0_4) (.int .i64 a0_5) (.int .i64 a0_6) (.int .i64 a0_7) (.slice A0_8 l0_8.length c0_8) (.int .i64 a0_9) := hS_
     refine norm_ (a' := ?_) ?_ ?_
     rotate_left
     ·simp only [putAll, Act.put, List.setIfInBounds_toArray, List.set_cons_zero, List.set_cons_succ]
      rfl
     refine onc_ 11 #[true, true, true, true, true, true, true, true, true, true, true, true, true, true, false, false, false] (some 25) HT_ Try.func113 (impl_LimitOf.calls k a0_0 _ _ l0_1 _ _ l0_2 a0_3 a0_4 a0_5 a0_6 a0_7 _ _ l0_8 a0_9 a1 a2 t404 _ (ck_ HR0_1 HB) HC0_1.out (ck_ HR0_2 HB) HC0_2.out (ck_ HR0_8 HB) HC0_8.out A7.out) ?_
     rintro e w19 ⟨rfl, hb⟩
     refine sh4_ (blk_below (bk_ BK399) hb) (blk_below (bk_ BK405) hb) (blk_below (bk_ BK406) hb) (below_step (bl3_ HB GE399 GE405 GE406) hb) ?_
     clear BK399 BK405 BK406 HB hb
     intro BK399 BK405 BK406 HB
     refine ⟨_, _, rfl, (cz10_ BK399), pt_, fun hHeld => ?_⟩
     exact norm_ pa_ (hJ3_7_11_12_13 (gb405, gb406) _ ⟨hHeld, (bk_ BK399), (bk_ BK405), (bk_ BK406), GW405.out, GE405.out, NB399_405.out, NB405_399.out, NB406_405.out, NB405_406.out, GW406.out, GE406.out, NB399_406.out, NB406_399.out, (bl3_ HB GE399 GE405 GE406)⟩)
   ·skip
    rintro gb406 w18 ⟨hS_, h0_, h1_, h2_, h3_, h4_, h5_, h6_⟩
    have n0_ : Aside0 (w18.heap[gb399]? = some (.cells #[.int .i64 a0_0, .slice A0_1 l0_1.length c0_1, .slice A0_2 l0_2.length c0_2, .int .i64 a0_3, .int .i64 a0_4, .int .i64 a0_5, .int .i64 a0_6, .int .i64 a0_7, .slice A0_8 l0_8.length c0_8, .int .i64 a0_9] 34 (0, 0))) := ⟨h0_⟩
    have n1_ : Aside0 (w18.heap[gb406]? = some (.cells #[.int .i64 0, .int .i64 0] 113 (0, 0))) := ⟨h1_⟩
    have n2_ : Aside0 (w.heap.size ≤ gb406) := ⟨h2_⟩
    have n3_ : Aside0 (w.heap.size ≤ gb406) := ⟨h3_⟩
    have n4_ : Aside0 (gb399 ≠ gb406) := ⟨h4_⟩
    have n5_ : Aside0 (gb406 ≠ gb399) := ⟨h5_⟩
    have n6_ : Aside0 (Below w.heap.size w w18) := ⟨h6_⟩
    clear BK399
    clear HB
    clear h0_ h1_ h2_ h3_ h4_ h5_ h6_
    have BK399 := n0_
    have BK406 := n1_
    have GW406 := n2_
    have GE406 := n3_
    have NB399_406 := n4_
    have NB406_399 := n5_
    have HB := n6_
    clear n0_ n1_ n2_ n3_ n4_ n5_ n6_
    have hHeld : Cz10 w18 gb399 (.int .i64 a0_0) (.slice A0_1 l0_1.length c0_1) (.slice A0_2 l0_2.length c0_2) (.int .i64 a0_3) (.int .i64 a0_4) (.int .i64 a0_5) (.int .i64 a0_6) (.int .i64 a0_7) (.slice A0_8 l0_8.length c0_8) (.int .i64 a0_9) := hS_
    refine norm_ (a' := ?_) ?_ ?_
    rotate_left
    ·simp only [putAll, Act.put, List.setIfInBounds_toArray, List.set_cons_zero, List.set_cons_succ]
     rfl
    refine one_ (i := 12) (N := some 9) #[true, true, true, true, true, true, true, true, true, true, true, true, true, true, false, false, false] rfl rfl (one_of HT_.out (by kernel_rfl)) (by decide) (fun K hK => ?_)
    refine bxs_ 9 113 #[.int .i64 0, .int .i64 0] ?_
    intro gb405 hg w19 hbox hb
    refine sh10_ (blk_below (bk_ BK399) hb) (blk_below (bk_ BK406) hb) (below_step (bl2_ HB GE399 GE406) hb) hbox (ge_ hg (bl2_ HB GE399 GE406)) (ge_ hg (bl2_ HB GE399 GE406)) (nl_ hg (bk_ BK399)) (ng_ hg (bk_ BK399)) (nl_ hg (bk_ BK406)) (ng_ hg (bk_ BK406)) ?_
    clear BK399 BK406 HB hb hbox hg
    intro BK399 BK406 HB BK405 GW405 GE405 NB399_405 NB405_399 NB406_405 NB405_406
    refine hK.out _ _ (cz10_ BK399) (fun hHeld => ?_)
    clear hK K
    refine norm_ (show Act.put _ (some 9) _ = _ from pt_) ?_
    exact norm_ pa_ (hJ3_7_11_12_13 (gb405, gb406) _ ⟨hHeld, (bk_ BK399), (bk_ BK405), (bk_ BK406), GW405.out, GE405.out, NB399_405.out, NB405_399.out, NB406_405.out, NB405_406.out, GW406.out, GE406.out, NB399_406.out, NB406_399.out, (bl3_ HB GE399 GE406 GE405)⟩)
  ·skip
   rintro gb405 w18 ⟨hS_, h0_, h1_, h2_, h3_, h4_, h5_, h6_⟩
   have n0_ : Aside0 (w18.heap[gb399]? = some (.cells #[.int .i64 a0_0, .slice A0_1 l0_1.length c0_1, .slice A0_2 l0_2.length c0_2, .int .i64 a0_3, .int .i64 a0_4, .int .i64 a0_5, .int .i64 a0_6, .int .i64 a0_7, .slice A0_8 l0_8.length c0_8, .int .i64 a0_9] 34 (0, 0))) := ⟨h0_⟩
   have n1_ : Aside0 (w18.heap[gb405]? = some (.cells #[.int .i64 0, .int .i64 0] 113 (0, 0))) := ⟨h1_⟩
   have n2_ : Aside0 (w.heap.size ≤ gb405) := ⟨h2_⟩
   have n3_ : Aside0 (w.heap.size ≤ gb405) := ⟨h3_⟩
   have n4_ : Aside0 (gb399 ≠ gb405) := ⟨h4_⟩
   have n5_ : Aside0 (gb405 ≠ gb399) := ⟨h5_⟩
   have n6_ : Aside0 (Below w.heap.size w w18) := ⟨h6_⟩
   clear BK399
   clear HB
   clear h0_ h1_ h2_ h3_ h4_ h5_ h6_
   have BK399 := n0_
   have BK405 := n1_
   have GW405 := n2_
   have GE405 := n3_
   have NB399_405 := n4_
   have NB405_399 := n5_
   have HB := n6_
   clear n0_ n1_ n2_ n3_ n4_ n5_ n6_
   have hHeld : Cz10 w18 gb399 (.int .i64 a0_0) (.slice A0_1 l0_1.length c0_1) (.slice A0_2 l0_2.length c0_2) (.int .i64 a0_3) (.int .i64 a0_4) (.int .i64 a0_5) (.int .i64 a0_6) (.int .i64 a0_7) (.slice A0_8 l0_8.length c0_8) (.int .i64 a0_9) := hS_
   refine norm_ (a' := ?_) ?_ ?_
   rotate_left
   ·simp only [putAll, Act.put, List.setIfInBounds_toArray, List.set_cons_zero, List.set_cons_succ]
    rfl
   refine one_ (i := 13) (N := some 10) #[true, true, true, true, true, true, true, true, true, true, true, true, true, true, false, false, false] rfl rfl (one_of HT_.out (by kernel_rfl)) (by decide) (fun K hK => ?_)
   refine bxs_ 10 113 #[.int .i64 0, .int .i64 0] ?_
   intro gb406 hg w19 hbox hb
   refine sh10_ (blk_below (bk_ BK399) hb) (blk_below (bk_ BK405) hb) (below_step (bl2_ HB GE399 GE405) hb) hbox (ge_ hg (bl2_ HB GE399 GE405)) (ge_ hg (bl2_ HB GE399 GE405)) (nl_ hg (bk_ BK399)) (ng_ hg (bk_ BK399)) (nl_ hg (bk_ BK405)) (ng_ hg (bk_ BK405)) ?_
   clear BK399 BK405 HB hb hbox hg
   intro BK399 BK405 HB BK406 GW406 GE406 NB399_406 NB406_399 NB405_406 NB406_405
   refine hK.out _ _ (cz10_ BK399) (fun hHeld => ?_)
   clear hK K
   refine norm_ (show Act.put _ (some 10) _ = _ from pt_) ?_
   exact norm_ pa_ (hJ3_7_11_12_13 (gb405, gb406) _ ⟨hHeld, (bk_ BK399), (bk_ BK405), (bk_ BK406), GW405.out, GE405.out, NB399_405.out, NB405_399.out, NB406_405.out, NB405_406.out, GW406.out, GE406.out, NB399_406.out, NB406_399.out, (bl3_ HB GE399 GE405 GE406)⟩)
 rintro ⟨gb405, gb406⟩ w19 ⟨hS_, h0_, h1_, h2_, h3_, h4_, h5_, h6_, h7_, h8_, h9_, h10_, h11_, h12_, h13_⟩
 have n0_ : Aside0 (w19.heap[gb399]? = some (.cells #[.int .i64 a0_0, .slice A0_1 l0_1.length c0_1, .slice A0_2 l0_2.length c0_2, .int .i64 a0_3, .int .i64 a0_4, .int .i64 a0_5, .int .i64 a0_6, .int .i64 a0_7, .slice A0_8 l0_8.length c0_8, .int .i64 a0_9] 34 (0, 0))) := ⟨h0_⟩
 have n1_ : Aside0 (w19.heap[gb405]? = some (.cells #[.int .i64 0, .int .i64 0] 113 (0, 0))) := ⟨h1_⟩
 have n2_ : Aside0 (w19.heap[gb406]? = some (.cells #[.int .i64 0, .int .i64 0] 113 (0, 0))) := ⟨h2_⟩
 have n3_ : Aside0 (w.heap.size ≤ gb405) := ⟨h3_⟩
 have n4_ : Aside0 (w.heap.size ≤ gb405) := ⟨h4_⟩
 have n5_ : Aside0 (gb399 ≠ gb405) := ⟨h5_⟩
 have n6_ : Aside0 (gb405 ≠ gb399) := ⟨h6_⟩
 have n7_ : Aside0 (gb406 ≠ gb405) := ⟨h7_⟩
 have n8_ : Aside0 (gb405 ≠ gb406) := ⟨h8_⟩
 have n9_ : Aside0 (w.heap.size ≤ gb406) := ⟨h9_⟩
 have n10_ : Aside0 (w.heap.size ≤ gb406) := ⟨h10_⟩
 have n11_ : Aside0 (gb399 ≠ gb406) := ⟨h11_⟩
 have n12_ : Aside0 (gb406 ≠ gb399) := ⟨h12_⟩
 have n13_ : Aside0 (Below w.heap.size w w19) := ⟨h13_⟩
 clear BK399
 clear HB
 clear h0_ h1_ h2_ h3_ h4_ h5_ h6_ h7_ h8_ h9_ h10_ h11_ h12_ h13_
 have BK399 := n0_
 have BK405 := n1_
 have BK406 := n2_
 have GW405 := n3_
 have GE405 := n4_
 have NB399_405 := n5_
 have NB405_399 := n6_
 have NB406_405 := n7_
 have NB405_406 := n8_
 have GW406 := n9_
 have GE406 := n10_
 have NB399_406 := n11_
 have NB406_399 := n12_
 have HB := n13_
 clear n0_ n1_ n2_ n3_ n4_ n5_ n6_ n7_ n8_ n9_ n10_ n11_ n12_ n13_
 have hHeld : Cz10 w19 gb399 (.int .i64 a0_0) (.slice A0_1 l0_1.length c0_1) (.slice A0_2 l0_2.length c0_2) (.int .i64 a0_3) (.int .i64 a0_4) (.int .i64 a0_5) (.int .i64 a0_6) (.int .i64 a0_7) (.slice A0_8 l0_8.length c0_8) (.int .i64 a0_9) := hS_
 refine norm_ (a' := ?_) ?_ ?_
 rotate_left
 ·simp only [putAll, Act.put, List.setIfInBounds_toArray, List.set_cons_zero, List.set_cons_succ]
  rfl
 refine one_ (i := 14) (N := none) #[true, true, true, true, true, true, true, true, true, true, true, true, true, true, true, false, false] rfl rfl (one_of HT_.out (by kernel_rfl)) (by decide) (fun K hK => ?_)
 have hs20 : w19.cell? ⟨gb405, 0, none⟩ = some (.int .i64 0) := bc_ BK405 0 rfl
 have hfs20 := bf_ BK405 0
 have hns20_0 := NB399_405.out
 have hns20_2 := NB406_405.out
 have hms20_0 := NB405_399.out
 have hms20_2 := NB405_406.out
 have hs21 : w19.cell? ⟨gb405, 1, none⟩ = some (.int .i64 0) := bc_ BK405 1 rfl
 have hfs21 := bf_ BK405 1
 have hns21_0 := NB399_405.out
 have hns21_2 := NB406_405.out
 have hms21_0 := NB405_399.out
 have hms21_2 := NB405_406.out
 refine skip_ (w1 := ?_) (by rfl) rfl ?_ ?_
 rotate_left
 ·go_simp
  rfl
 refine hK.out _ _ ⟨((cell_far (p := ⟨gb405, _, none⟩) NB399_405.out _).trans (((cell_far (p := ⟨gb405, _, none⟩) NB399_405.out _).trans (hHeld.1)))), ((cell_far (p := ⟨gb405, _, none⟩) NB399_405.out _).trans (((cell_far (p := ⟨gb405, _, none⟩) NB399_405.out _).trans (hHeld.2.1)))), ((cell_far (p := ⟨gb405, _, none⟩) NB399_405.out _).trans (((cell_far (p := ⟨gb405, _, none⟩) NB399_405.out _).trans (hHeld.2.2.1)))), ((cell_far (p := ⟨gb405, _, none⟩) NB399_405.out _).trans (((cell_far (p := ⟨gb405, _, none⟩) NB399_405.out _).trans (hHeld.2.2.2.1)))), ((cell_far (p := ⟨gb405, _, none⟩) NB399_405.out _).trans (((cell_far (p := ⟨gb405, _, none⟩) NB399_405.out _).trans (hHeld.2.2.2.2.1)))), ((cell_far (p := ⟨gb405, _, none⟩) NB399_405.out _).trans (((cell_far (p := ⟨gb405, _, none⟩) NB399_405.out _).trans (hHeld.2.2.2.2.2.1)))), ((cell_far (p := ⟨gb405, _, none⟩) NB399_405.out _).trans (((cell_far (p := ⟨gb405, _, none⟩) NB399_405.out _).trans (hHeld.2.2.2.2.2.2.1)))), ((cell_far (p := ⟨gb405, _, none⟩) NB399_405.out _).trans (((cell_far (p := ⟨gb405, _, none⟩) NB399_405.out _).trans (hHeld.2.2.2.2.2.2.2.1)))), ((cell_far (p := ⟨gb405, _, none⟩) NB399_405.out _).trans (((cell_far (p := ⟨gb405, _, none⟩) NB399_405.out _).trans (hHeld.2.2.2.2.2.2.2.2.1)))), ((cell_far (p := ⟨gb405, _, none⟩) NB399_405.out _).trans (((cell_far (p := ⟨gb405, _, none⟩) NB399_405.out _).trans (hHeld.2.2.2.2.2.2.2.2.2))))⟩ (fun hHeld => ?_)
 clear hK K
 refine one_ (i := 15) (N := none) #[true, true, true, true, true, true, true, true, true, true, true, true, true, true, true, true, false] rfl rfl (one_of HT_.out (by kernel_rfl)) (by decide) (fun K hK => ?_)
 have hs22 : w19.cell? ⟨gb406, 0, none⟩ = some (.int .i64 0) := bc_ BK406 0 rfl
 have hfs22 := bf_ BK406 0
 have hns22_0 := NB399_406.out
 have hns22_1 := NB405_406.out
 have hms22_0 := NB406_399.out
 have hms22_1 := NB406_405.out
 have hs23 : w19.cell? ⟨gb406, 1, none⟩ = some (.int .i64 0) := bc_ BK406 1 rfl
 have hfs23 := bf_ BK406 1
 have hns23_0 := NB399_406.out
 have hns23_1 := NB405_406.out
 have hms23_0 := NB406_399.out
 have hms23_1 := NB406_405.out
 refine skip_ (w1 := ?_) (by rfl) rfl ?_ ?_
 rotate_left
 ·go_simp
  rfl
 refine hK.out _ _ ⟨((cell_far (p := ⟨gb406, _, none⟩) NB399_406.out _).trans (((cell_far (p := ⟨gb406, _, none⟩) NB399_406.out _).trans (hHeld.1)))), ((cell_far (p := ⟨gb406, _, none⟩) NB399_406.out _).trans (((cell_far (p := ⟨gb406, _, none⟩) NB399_406.out _).trans (hHeld.2.1)))), ((cell_far (p := ⟨gb406, _, none⟩) NB399_406.out _).trans (((cell_far (p := ⟨gb406, _, none⟩) NB399_406.out _).trans (hHeld.2.2.1)))), ((cell_far (p := ⟨gb406, _, none⟩) NB399_406.out _).trans (((cell_far (p := ⟨gb406, _, none⟩) NB399_406.out _).trans (hHeld.2.2.2.1)))), ((cell_far (p := ⟨gb406, _, none⟩) NB399_406.out _).trans (((cell_far (p := ⟨gb406, _, none⟩) NB399_406.out _).trans (hHeld.2.2.2.2.1)))), ((cell_far (p := ⟨gb406, _, none⟩) NB399_406.out _).trans (((cell_far (p := ⟨gb406, _, none⟩) NB399_406.out _).trans (hHeld.2.2.2.2.2.1)))), ((cell_far (p := ⟨gb406, _, none⟩) NB399_406.out _).trans (((cell_far (p := ⟨gb406, _, none⟩) NB399_406.out _).trans (hHeld.2.2.2.2.2.2.1)))), ((cell_far (p := ⟨gb406, _, none⟩) NB399_406.out _).trans (((cell_far (p := ⟨gb406, _, none⟩) NB399_406.out _).trans (hHeld.2.2.2.2.2.2.2.1)))), ((cell_far (p := ⟨gb406, _, none⟩) NB399_406.out _).trans (((cell_far (p := ⟨gb406, _, none⟩) NB399_406.out _).trans (hHeld.2.2.2.2.2.2.2.2.1)))), ((cell_far (p := ⟨gb406, _, none⟩) NB399_406.out _).trans (((cell_far (p := ⟨gb406, _, none⟩) NB399_406.out _).trans (hHeld.2.2.2.2.2.2.2.2.2))))⟩ (fun hHeld => ?_)
 clear hK K
 refine pur_ 16 #[true, true, true, true, true, true, true, true, true, true, true, true, true, true, true, true, true] (some 11) HT_ ?_
 refine done_ (done_of HT_.out (by kernel_rfl)) ?_
 try go_wp2
 have n0_ : Aside0 (((((w19.setCell ⟨gb405, 0, none⟩ (.int .i64 t400)).setCell ⟨gb405, 1, none⟩ (.int .i64 t401)).setCell ⟨gb406, 0, none⟩ (.int .i64 t402)).setCell ⟨gb406, 1, none⟩ (.int .i64 t403)).heap[gb399]? = some (.cells #[.int .i64 a0_0, .slice A0_1 l0_1.length c0_1, .slice A0_2 l0_2.length c0_2, .int .i64 a0_3, .int .i64 a0_4, .int .i64 a0_5, .int .i64 a0_6, .int .i64 a0_7, .slice A0_8 l0_8.length c0_8, .int .i64 a0_9] 34 (0, 0))) := ⟨by (with_reducible repeat (first | refine blk_drewN ?_ _ | refine blk_drew ?_ | refine blk_alloc ?_ _)); refine blk_far ?_ NB399_406.out _; (with_reducible repeat (first | refine blk_drewN ?_ _ | refine blk_drew ?_ | refine blk_alloc ?_ _)); refine blk_far ?_ NB399_406.out _; (with_reducible repeat (first | refine blk_drewN ?_ _ | refine blk_drew ?_ | refine blk_alloc ?_ _)); refine blk_far ?_ NB399_405.out _; (with_reducible repeat (first | refine blk_drewN ?_ _ | refine blk_drew ?_ | refine blk_alloc ?_ _)); refine blk_far ?_ NB399_405.out _; (with_reducible repeat (first | refine blk_drewN ?_ _ | refine blk_drew ?_ | refine blk_alloc ?_ _)); exact BK399.out⟩
 have n1_ : Aside0 (((((w19.setCell ⟨gb405, 0, none⟩ (.int .i64 t400)).setCell ⟨gb405, 1, none⟩ (.int .i64 t401)).setCell ⟨gb406, 0, none⟩ (.int .i64 t402)).setCell ⟨gb406, 1, none⟩ (.int .i64 t403)).heap[gb405]? = some (.cells #[.int .i64 t400, .int .i64 t401] 113 (0, 0))) := ⟨by (with_reducible repeat (first | refine blk_drewN ?_ _ | refine blk_drew ?_ | refine blk_alloc ?_ _)); refine blk_far ?_ NB405_406.out _; (with_reducible repeat (first | refine blk_drewN ?_ _ | refine blk_drew ?_ | refine blk_alloc ?_ _)); refine blk_far ?_ NB405_406.out _; (with_reducible repeat (first | refine blk_drewN ?_ _ | refine blk_drew ?_ | refine blk_alloc ?_ _)); refine blk_put (cs := #[.int .i64 t400, .int .i64 0]) ?_ 1 _ rfl; (with_reducible repeat (first | refine blk_drewN ?_ _ | refine blk_drew ?_ | refine blk_alloc ?_ _)); refine blk_put (cs := #[.int .i64 0, .int .i64 0]) ?_ 0 _ rfl; (with_reducible repeat (first | refine blk_drewN ?_ _ | refine blk_drew ?_ | refine blk_alloc ?_ _)); exact BK405.out⟩
 have n2_ : Aside0 (((((w19.setCell ⟨gb405, 0, none⟩ (.int .i64 t400)).setCell ⟨gb405, 1, none⟩ (.int .i64 t401)).setCell ⟨gb406, 0, none⟩ (.int .i64 t402)).setCell ⟨gb406, 1, none⟩ (.int .i64 t403)).heap[gb406]? = some (.cells #[.int .i64 t402, .int .i64 t403] 113 (0, 0))) := ⟨by (with_reducible repeat (first | refine blk_drewN ?_ _ | refine blk_drew ?_ | refine blk_alloc ?_ _)); refine blk_put (cs := #[.int .i64 t402, .int .i64 0]) ?_ 1 _ rfl; (with_reducible repeat (first | refine blk_drewN ?_ _ | refine blk_drew ?_ | refine blk_alloc ?_ _)); refine blk_put (cs := #[.int .i64 0, .int .i64 0]) ?_ 0 _ rfl; (with_reducible repeat (first | refine blk_drewN ?_ _ | refine blk_drew ?_ | refine blk_alloc ?_ _)); refine blk_far ?_ NB406_405.out _; (with_reducible repeat (first | refine blk_drewN ?_ _ | refine blk_drew ?_ | refine blk_alloc ?_ _)); refine blk_far ?_ NB406_405.out _; (with_reducible repeat (first | refine blk_drewN ?_ _ | refine blk_drew ?_ | refine blk_alloc ?_ _)); exact BK406.out⟩
 have n3_ : Aside0 (Below w.heap.size w ((((w19.setCell ⟨gb405, 0, none⟩ (.int .i64 t400)).setCell ⟨gb405, 1, none⟩ (.int .i64 t401)).setCell ⟨gb406, 0, none⟩ (.int .i64 t402)).setCell ⟨gb406, 1, none⟩ (.int .i64 t403))) := ⟨bl3_ HB GE399 GE405 GE406⟩
 (try clear BK399)
 (try clear BK405)
 (try clear BK406)
 (try clear HB)
 generalize ((((w19.setCell ⟨gb405, 0, none⟩ (.int .i64 t400)).setCell ⟨gb405, 1, none⟩ (.int .i64 t401)).setCell ⟨gb406, 0, none⟩ (.int .i64 t402)).setCell ⟨gb406, 1, none⟩ (.int .i64 t403)) = w24 at n0_ n1_ n2_ n3_ ⊢
 have BK399 := n0_
 have BK405 := n1_
 have BK406 := n2_
 have HB := n3_
 clear n0_ n1_ n2_ n3_
 refine sh4_ (blk_drew BK399.out) (blk_drew BK405.out) (blk_drew BK406.out) (below_drew1 HB.out) ?_
 clear BK399 BK405 BK406 HB
 intro BK399 BK405 BK406 HB
 refine start_ (n := 13) (S := fun w' => Ck2 w' gb405 (.int .i64 t400) (.int .i64 t401) (Cz2 w' gb406 (.int .i64 t402) (.int .i64 t403))) (ds := []) #[false, false, false, false, false, false, false, false, false, false, false, false, false] (by kernel_rfl) rfl rfl ⟨(bc_ BK405 0 rfl), (bc_ BK405 1 rfl), cz2_ BK406⟩ (fun hHeld => ?_); refine with_tabW impl_SightAt.tab2 impl_SightAt.bits2 (fun HT_ HW_ => ?_)
 generalize w24.drew = w25 at BK399 BK405 BK406 HB hHeld ⊢
 refine pur_ 5 #[false, false, false, false, false, true, false, false, false, false, false, false, false] (some 31) HT_ ?_
 refine pur_ 7 #[false, false, false, false, false, true, false, true, false, false, false, false, false] (some 33) HT_ ?_
 refine tak_ 0 #[true, false, false, false, false, true, false, true, false, false, false, false, false] (some 26) HT_ HW_ hHeld ?_
 refine tak_ 2 #[true, false, true, false, false, true, false, true, false, false, false, false, false] (some 28) HT_ HW_ hHeld ?_
 refine tak_ 6 #[true, false, true, false, false, true, true, true, false, false, false, false, false] (some 32) HT_ HW_ hHeld ?_
 refine tak_ 8 #[true, false, true, false, false, true, true, true, true, false, false, false, false] (some 34) HT_ HW_ hHeld ?_
 refine pur_ 9 #[true, false, true, false, false, true, true, true, true, true, false, false, false] (some 35) HT_ ?_
 refine pur_ 10 #[true, false, true, false, false, true, true, true, true, true, true, false, false] (some 36) HT_ ?_
 refine onc_ 1 #[true, true, true, false, false, true, true, true, true, true, true, false, false] (some 27) HT_ Try.func115 (impl_MiddleOf.calls t400 t401 t407 _ A8.out) ?_
 rintro e w26 ⟨rfl, hb⟩
 refine sh4_ (blk_below (bk_ BK399) hb) (blk_below (bk_ BK405) hb) (blk_below (bk_ BK406) hb) (below_step (bl3_ HB GE399 GE405 GE406) hb) ?_
 clear BK399 BK405 BK406 HB hb
 intro BK399 BK405 BK406 HB
 refine ⟨_, _, rfl, ⟨(bc_ BK405 0 rfl), (bc_ BK405 1 rfl), cz2_ BK406⟩, pt_, fun hHeld => ?_⟩
 refine onc_ 3 #[true, true, true, true, false, true, true, true, true, true, true, false, false] (some 29) HT_ Try.func115 (impl_MiddleOf.calls t402 t403 t408 _ A9.out) ?_
 rintro e w27 ⟨rfl, hb⟩
 refine sh4_ (blk_below (bk_ BK399) hb) (blk_below (bk_ BK405) hb) (blk_below (bk_ BK406) hb) (below_step (bl3_ HB GE399 GE405 GE406) hb) ?_
 clear BK399 BK405 BK406 HB hb
 intro BK399 BK405 BK406 HB
 refine ⟨_, _, rfl, ⟨(bc_ BK405 0 rfl), (bc_ BK405 1 rfl), cz2_ BK406⟩, pt_, fun hHeld => ?_⟩
 refine onc_ 4 #[true, true, true, true, true, true, true, true, true, true, true, false, false] (some 30) HT_ Try.func114 (impl_GapOf.calls t407 t408 t409 _ A10.out) ?_
 rintro e w28 ⟨rfl, hb⟩
 refine sh4_ (blk_below (bk_ BK399) hb) (blk_below (bk_ BK405) hb) (blk_below (bk_ BK406) hb) (below_step (bl3_ HB GE399 GE405 GE406) hb) ?_
 clear BK399 BK405 BK406 HB hb
 intro BK399 BK405 BK406 HB
 refine ⟨_, _, rfl, ⟨(bc_ BK405 0 rfl), (bc_ BK405 1 rfl), cz2_ BK406⟩, pt_, fun hHeld => ?_⟩
 refine pur_ 11 #[true, true, true, true, true, true, true, true, true, true, true, true, false] (some 12) HT_ ?_
 refine pur_ 12 #[true, true, true, true, true, true, true, true, true, true, true, true, true] (some 13) HT_ ?_
 refine done_ (done_of HT_.out (by kernel_rfl)) ?_
 go_upto_region 3 with (fail)
 go_cut [37] (fun v37 wc => ∃ (kq : Nat) (x37_10 : Bool), v37 = .bool x37_10 ∧ Aside0 (impl_SightAt.j0 kq t404 t409 (wrap64 (Int.tdiv (wrap64 (t401 + t403)) 2)) x37_10 = some r) ∧ Aside0 (kq ≤ k) ∧ Aside0 (wc.heap[gb399]? = some (.cells #[.int .i64 a0_0, (.slice A0_1 l0_1.length c0_1), (.slice A0_2 l0_2.length c0_2), .int .i64 a0_3, .int .i64 a0_4, .int .i64 a0_5, .int .i64 a0_6, .int .i64 a0_7, (.slice A0_8 l0_8.length c0_8), .int .i64 a0_9] 34 (0, 0))) ∧ Aside0 (wc.heap[gb405]? = some (.cells #[.int .i64 t400, .int .i64 t401] 113 (0, 0))) ∧ Aside0 (wc.heap[gb406]? = some (.cells #[.int .i64 t402, .int .i64 t403] 113 (0, 0))) ∧ Aside0 (Below w.heap.size w wc))
 case first =>
  have H := HC11.out
  clear HC11
  by_cases c29 : t404 < 0
  ·rw [if_pos c29] at H
   have c29b0 := decide_eq_true c29
   clear c29
   (first | rw [c29b0] | (simp only [i64_w, i32_w]; rw [c29b0]) | skip)
   have H' := Aside0.mk H
   clear H
   go_wp2
   go_meet
   case rel => exact ⟨_, (true), (by first | rfl | (simp; done) | (simp [*]; done)), H', ⟨by first | omega | exact Nat.le_refl _⟩, ⟨by (with_reducible repeat (first | refine blk_drewN ?_ _ | refine blk_drew ?_ | refine blk_alloc ?_ _)); exact BK399.out⟩, ⟨by (with_reducible repeat (first | refine blk_drewN ?_ _ | refine blk_drew ?_ | refine blk_alloc ?_ _)); exact BK405.out⟩, ⟨by (with_reducible repeat (first | refine blk_drewN ?_ _ | refine blk_drew ?_ | refine blk_alloc ?_ _)); exact BK406.out⟩, ⟨bl3_ HB GE399 GE405 GE406⟩⟩
  ·rw [if_neg c29] at H
   have c29b0 := decide_eq_false c29
   clear c29
   (first | rw [c29b0] | (simp only [i64_w, i32_w]; rw [c29b0]) | skip)
   have H' := Aside0.mk H
   clear H
   go_wp2
   go_meet
   case rel => exact ⟨_, (decide ((wrap64 (t409 - (wrap64 (Int.tdiv (wrap64 (t401 + t403)) 2)))) > t404)), (by first | rfl | (simp; done) | (simp [*]; done)), H', ⟨by first | omega | exact Nat.le_refl _⟩, ⟨by (with_reducible repeat (first | refine blk_drewN ?_ _ | refine blk_drew ?_ | refine blk_alloc ?_ _)); exact BK399.out⟩, ⟨by (with_reducible repeat (first | refine blk_drewN ?_ _ | refine blk_drew ?_ | refine blk_alloc ?_ _)); exact BK405.out⟩, ⟨by (with_reducible repeat (first | refine blk_drewN ?_ _ | refine blk_drew ?_ | refine blk_alloc ?_ _)); exact BK406.out⟩, ⟨bl3_ HB GE399 GE405 GE406⟩⟩
 case rest =>
  clear HC11
  try clear c1
  try clear c2
  try clear p2
  try clear p6
  try clear c11
  try clear c29
  try clear c29b0
  obtain ⟨kq, x37_10, rfl, HA, HJ10, BK399, BK405, BK406, HB⟩ := hcut
  cases kq with
  | zero => exact absurd HA.out (by simp [impl_SightAt.j0])
  | succ kj10 =>
   have H := HA.out
   clear HA
   simp only [impl_SightAt.j0] at H
   by_cases c30 : x37_10 = true
   ·subst c30
    rw [if_pos rfl] at H
    obtain rfl := Option.some.inj H
    go_wp2
    go_ret
    exact ⟨er_, bl3_ HB GE399 GE405 GE406⟩
   ·replace c30 := Bool.eq_false_iff.mpr c30
    subst c30
    have H1 : (if (wrap64 (t409 + (wrap64 (Int.tdiv (wrap64 (t401 + t403)) 2)))) ≤ t404 then (some 2) else (some 1)) = some r := by rw [if_neg (show ¬ (false = true) by decide)] at H; exact H
    clear H
    have H := H1
    clear H1
    by_cases c31 : (wrap64 (t409 + (wrap64 (Int.tdiv (wrap64 (t401 + t403)) 2)))) ≤ t404
    ·rw [if_pos c31] at H
     have c31b0 := decide_eq_true c31
     clear c31
     obtain rfl := Option.some.inj H
     go_wp2
     go_ret
     exact ⟨er_, bl3_ HB GE399 GE405 GE406⟩
    ·rw [if_neg c31] at H
     have c31b0 := decide_eq_false c31
     clear c31
     obtain rfl := Option.some.inj H
     go_wp2
     go_ret
     exact ⟨er_, bl3_ HB GE399 GE405 GE406⟩

end Go.Proofs.Ytcjfalmhohcifaa.PFnExactSpeakingSpans
