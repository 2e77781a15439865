-- Written by a program of this session for this claim (the kit's printer with changes).
import Derived.Test.YtopbkdcicidajaaQFnSightx0
import Derived.Test.YtopbkdcicidajaaQFnSightx4
import Derived.Test.YtopbkdcicidajaaQFnSightx5
namespace Go.Proofs.Ytopbkdcicidajaa.PFnSight
open Go.RowKit Go.Proofs.YtopbkdcicidajaaW.PrintWords Go.Proofs.YtopbkdcicidajaaW.PrintLast Go.Proofs.YtopbkdcicidajaaW.PrintMore
attribute [local go_sem] max2_int min2_int max_two min_two max_three min_three max_four min_four   -- for this text's walks alone
set_option linter.unusedVariables false
set_option linter.unusedSimpArgs false

/-! ### impl_SightAt: function 10 -/
def impl_SightAt.j0 : Nat → Int → Int → Int → Bool → Option (Int)
 | 0, _, _, _, _ => none
 | k + 1, x11, x12, x13, x37 => if x37 = true then (some 0) else (if (wrap64 (x12 + x13)) ≤ x11 then (some 2) else (some 1))
def impl_SightAt.f (k : Nat) (a0_0 : Int) (l0_1 : List (S72)) (l0_2 : List (S74)) (a0_3 : Int) (a0_4 : Int) (a0_5 : Int) (a0_6 : Int) (a0_7 : Int) (l0_8 : List (S88)) (a0_9 : Int) (a1 : Int) (a2 : Int) (a3 : Int) : Option (Int) := (impl_NodeAt.f a0_0 l0_1 l0_2 a0_3 a0_4 a0_5 a0_6 a0_7 l0_8 a0_9 a1 a3).bind fun bt466 => ((impl_NodeAt.f a0_0 l0_1 l0_2 a0_3 a0_4 a0_5 a0_6 a0_7 l0_8 a0_9 a2 a3).bind fun bt468 => ((impl_LimitOf.f k a0_0 l0_1 l0_2 a0_3 a0_4 a0_5 a0_6 a0_7 l0_8 a0_9 a1 a2).bind fun t470 => ((impl_MiddleOf.f bt466.1 bt466.2).bind fun t473 => ((impl_MiddleOf.f bt468.1 bt468.2).bind fun t474 => ((impl_GapOf.f t473 t474).bind fun t475 => (if t470 < 0 then (impl_SightAt.j0 k t470 t475 (wrap64 (Int.tdiv (wrap64 (bt466.2 + bt468.2)) 2)) true) else (impl_SightAt.j0 k t470 t475 (wrap64 (Int.tdiv (wrap64 (bt466.2 + bt468.2)) 2)) (decide ((wrap64 (t475 - (wrap64 (Int.tdiv (wrap64 (bt466.2 + bt468.2)) 2)))) > t470)))))))))
theorem impl_SightAt.mono_l : ∀ k, (∀ y0 y1 y2 y3, LeO (impl_SightAt.j0 k y0 y1 y2 y3) (impl_SightAt.j0 (k + 1) y0 y1 y2 y3))
 | 0 => fun _ _ _ _ r h => by simp [impl_SightAt.j0] at h
 | k + 1 => by
  have ih0 := impl_SightAt.mono_l k
  ·intro y0 y1 y2 y3
   unfold impl_SightAt.j0
   repeat' first | (with_reducible first | exact ih0 _ _ _ _ | exact impl_LimitOf.mono _ _ _ _ _ _ _ _ _ _ _ _ _ | exact LeO.refl _ | exact LeO.none _ | refine LeO.ite ?_ ?_ | refine LeO.bind ?_ (fun _ => ?_)) | exact LeO.none _ | refine LeO.ite ?_ ?_ | refine LeO.bind ?_ (fun _ => ?_)
theorem impl_SightAt.mono : ∀ a0 a1 a2 a3 a4 a5 a6 a7 a8 a9 a10 a11 a12 k, LeO (impl_SightAt.f k a0 a1 a2 a3 a4 a5 a6 a7 a8 a9 a10 a11 a12) (impl_SightAt.f (k + 1) a0 a1 a2 a3 a4 a5 a6 a7 a8 a9 a10 a11 a12) := by
 intro a0 a1 a2 a3 a4 a5 a6 a7 a8 a9 a10 a11 a12 k
 have ih0 := impl_SightAt.mono_l k
 unfold impl_SightAt.f
 repeat' first | (with_reducible first | exact ih0 _ _ _ _ | exact impl_LimitOf.mono _ _ _ _ _ _ _ _ _ _ _ _ _ | exact LeO.refl _ | exact LeO.none _ | refine LeO.ite ?_ ?_ | refine LeO.bind ?_ (fun _ => ?_)) | exact LeO.none _ | refine LeO.ite ?_ ?_ | refine LeO.bind ?_ (fun _ => ?_)
def impl_SightAt.T1 : Bool × List (List Nat × List Nat) := (true, [([], []), ([], []), ([], []), ([0, 1, 2], [0, 1, 2]), ([], []), ([], []), ([], []), ([4, 5, 6, 3], [4, 5, 6]), ([], []), ([], []), ([], []), ([8, 9, 10, 7], [8, 9, 10]), ([], []), ([], []), ([12, 3, 11, 0, 1, 2, 3, 12, 13], [3, 12]), ([13, 7, 14, 0, 1, 2, 3, 4, 5, 6, 7, 12, 13, 14], [7, 13]), ([11, 15, 0, 1, 2, 3, 4, 5, 6, 7, 8, 9, 10, 11, 12, 13, 14, 15], [11])])
def impl_SightAt.B1 : List Nat := [0, 0, 0, 7, 0, 0, 0, 127, 0, 0, 0, 2047, 0, 0, 16383, 32767, 65535]
theorem impl_SightAt.tab1 : rtab .any (opsOf Try.f10 1) = impl_SightAt.T1 := by kernel_rfl
theorem impl_SightAt.bits1 : waitsOk impl_SightAt.T1.2 impl_SightAt.B1 = true := by kernel_rfl
def impl_SightAt.T2 : Bool × List (List Nat × List Nat) := (true, [([], []), ([0], [0]), ([], []), ([2, 1], [2]), ([1, 3, 3], [1, 3]), ([], []), ([5], [5]), ([], []), ([7], [7]), ([6, 8], [6, 8]), ([9], [9]), ([4, 4, 0, 1, 2, 3, 4], [4]), ([10, 11, 0, 1, 2, 3, 4, 5, 6, 7, 8, 9, 10, 11], [10])])
def impl_SightAt.B2 : List Nat := [0, 1, 0, 7, 15, 0, 32, 0, 128, 480, 992, 31, 4095]
theorem impl_SightAt.tab2 : rtab .any (opsOf Try.f10 2) = impl_SightAt.T2 := by kernel_rfl
theorem impl_SightAt.bits2 : waitsOk impl_SightAt.T2.2 impl_SightAt.B2 = true := by kernel_rfl
set_option maxHeartbeats 8000000 in
set_option maxRecDepth 100000 in
theorem impl_SightAt.calls (k : Nat) (a0_0 : Int) (A0_1 : Option Addr) (c0_1 : Nat) (l0_1 : List (S72)) (A0_2 : Option Addr) (c0_2 : Nat) (l0_2 : List (S74)) (a0_3 : Int) (a0_4 : Int) (a0_5 : Int) (a0_6 : Int) (a0_7 : Int) (A0_8 : Option Addr) (c0_8 : Nat) (l0_8 : List (S88)) (a0_9 : Int) (a1 : Int) (a2 : Int) (a3 : Int) (r : Int) (w : World) (hr0_1 : Kd.C k72 w A0_1 l0_1.length l0_1) (hc0_1 : l0_1.length ≤ c0_1) (hr0_2 : Kd.C k74 w A0_2 l0_2.length l0_2) (hc0_2 : l0_2.length ≤ c0_2) (hr0_8 : Kd.C k88 w A0_8 l0_8.length l0_8) (hc0_8 : l0_8.length ≤ c0_8) (h : impl_SightAt.f k a0_0 l0_1 l0_2 a0_3 a0_4 a0_5 a0_6 a0_7 l0_8 a0_9 a1 a2 a3 = some r) :
  Calls Try.prog 10 #[.agg #[iv_ a0_0, .slice A0_1 l0_1.length c0_1, .slice A0_2 l0_2.length c0_2, iv_ a0_3, iv_ a0_4, iv_ a0_5, iv_ a0_6, iv_ a0_7, .slice A0_8 l0_8.length c0_8, iv_ a0_9], iv_ a1, iv_ a2, iv_ a3] w fun e w' => e = .returned (iv_ r) ∧ Below w.heap.size w w' := by
 have hu28 := Try.underlying28
 have hu35 := Try.underlying35
 have HR0_1 := Aside0.mk hr0_1
 have HC0_1 := Aside0.mk hc0_1
 clear hr0_1 hc0_1
 have HR0_2 := Aside0.mk hr0_2
 have HC0_2 := Aside0.mk hc0_2
 clear hr0_2 hc0_2
 have HR0_8 := Aside0.mk hr0_8
 have HC0_8 := Aside0.mk hc0_8
 clear hr0_8 hc0_8
 have HB := Aside0.mk (Below.refl w.heap.size w)
 have H := h
 clear h
 unfold impl_SightAt.f at H
 replace H := bs_ H
 obtain ⟨⟨t466, t467⟩, A5, H⟩ := H
 dsimp only at H
 replace H := bs_ H
 obtain ⟨⟨t468, t469⟩, A6, H⟩ := H
 dsimp only at H
 replace H := bs_ H
 obtain ⟨t470, A7, H⟩ := H
 replace H := bs_ H
 obtain ⟨t473, A8, H⟩ := H
 replace H := bs_ H
 obtain ⟨t474, A9, H⟩ := H
 replace H := bs_ H
 obtain ⟨t475, A10, H⟩ := H
 have HC11 := Aside0.mk H
 clear H
 go_enter Try.func10, Try.ntmps10
 try go_wp2_with (first | ((with_reducible refine gd_ 4 ?_); refine bx_ 4 28 #[iv_ a0_0, .slice A0_1 l0_1.length c0_1, .slice A0_2 l0_2.length c0_2, iv_ a0_3, iv_ a0_4, iv_ a0_5, iv_ a0_6, iv_ a0_7, .slice A0_8 l0_8.length c0_8, iv_ a0_9] ?_; intro gb465 hg w12 hbox hb; refine sh3_ (below_step (bl_ HB) hb) hbox (ge_ hg (bl_ HB)) ?_; clear HB hb hbox hg; intro HB BK465 GE465))
 refine sh2_ (blk_drew BK465.out) (below_drew1 HB.out) ?_
 clear BK465 HB
 intro BK465 HB
 refine start_ (n := 17) (S := fun w' => Cz10 w' gb465 (iv_ a0_0) (.slice A0_1 l0_1.length c0_1) (.slice A0_2 l0_2.length c0_2) (iv_ a0_3) (iv_ a0_4) (iv_ a0_5) (iv_ a0_6) (iv_ a0_7) (.slice A0_8 l0_8.length c0_8) (iv_ a0_9)) (ds := []) (bo_ 17 0) (by kernel_rfl) rfl rfl (cz10_ BK465) (fun hHeld => ?_); refine with_tabW impl_SightAt.tab1 impl_SightAt.bits1 (fun HT_ HW_ => ?_)
 generalize w12.drew = w13 at BK465 HB hHeld ⊢
 refine pur_ 1 (bo_ 17 2) (some 15) HT_ ?_
 refine pur_ 2 (bo_ 17 6) (some 16) HT_ ?_
 refine pur_ 5 (bo_ 17 38) (some 19) HT_ ?_
 refine pur_ 6 (bo_ 17 102) (some 20) HT_ ?_
 refine pur_ 9 (bo_ 17 614) (some 23) HT_ ?_
 refine pur_ 10 (bo_ 17 1638) (some 24) HT_ ?_
 refine tak_ 0 (bo_ 17 1639) (some 14) HT_ HW_ hHeld ?_
 refine tak_ 4 (bo_ 17 1655) (some 18) HT_ HW_ hHeld ?_
 refine tak_ 8 (bo_ 17 1911) (some 22) HT_ HW_ hHeld ?_
 refine join_ (σ := Nat × Nat) 3 (bo_ 17 16383) (fun s_ => [(17, .agg #[iv_ t466, iv_ t467]), (21, .agg #[iv_ t468, iv_ t469]), (25, iv_ t470), (9, .pointer (some ⟨s_.1, 0, none⟩)), (10, .pointer (some ⟨s_.2, 0, none⟩))]) (fun s_ w' => (Cz10 w' gb465 (iv_ a0_0) (.slice A0_1 l0_1.length c0_1) (.slice A0_2 l0_2.length c0_2) (iv_ a0_3) (iv_ a0_4) (iv_ a0_5) (iv_ a0_6) (iv_ a0_7) (.slice A0_8 l0_8.length c0_8) (iv_ a0_9)) ∧ (w'.heap[gb465]? = some (.cells #[iv_ a0_0, .slice A0_1 l0_1.length c0_1, .slice A0_2 l0_2.length c0_2, iv_ a0_3, iv_ a0_4, iv_ a0_5, iv_ a0_6, iv_ a0_7, .slice A0_8 l0_8.length c0_8, iv_ a0_9] 28 (0, 0))) ∧ (w'.heap[s_.1]? = some (.cells #[iv_ 0, iv_ 0] 35 (0, 0))) ∧ (w'.heap[s_.2]? = some (.cells #[iv_ 0, iv_ 0] 35 (0, 0))) ∧ (w.heap.size ≤ s_.1) ∧ (w.heap.size ≤ s_.1) ∧ (gb465 ≠ s_.1) ∧ (s_.1 ≠ gb465) ∧ (s_.2 ≠ s_.1) ∧ (s_.1 ≠ s_.2) ∧ (w.heap.size ≤ s_.2) ∧ (w.heap.size ≤ s_.2) ∧ (gb465 ≠ s_.2) ∧ (s_.2 ≠ gb465) ∧ (Below w.heap.size w w')) ?_ ?_
 rotate_left
 ·intro hJ3_7_11_12_13
  refine join_ (σ := Nat) 4 (bo_ 17 8191) (fun s_ => [(17, .agg #[iv_ t466, iv_ t467]), (21, .agg #[iv_ t468, iv_ t469]), (25, iv_ t470), (9, .pointer (some ⟨s_, 0, none⟩))]) (fun s_ w' => (Cz10 w' gb465 (iv_ a0_0) (.slice A0_1 l0_1.length c0_1) (.slice A0_2 l0_2.length c0_2) (iv_ a0_3) (iv_ a0_4) (iv_ a0_5) (iv_ a0_6) (iv_ a0_7) (.slice A0_8 l0_8.length c0_8) (iv_ a0_9)) ∧ (w'.heap[gb465]? = some (.cells #[iv_ a0_0, .slice A0_1 l0_1.length c0_1, .slice A0_2 l0_2.length c0_2, iv_ a0_3, iv_ a0_4, iv_ a0_5, iv_ a0_6, iv_ a0_7, .slice A0_8 l0_8.length c0_8, iv_ a0_9] 28 (0, 0))) ∧ (w'.heap[s_]? = some (.cells #[iv_ 0, iv_ 0] 35 (0, 0))) ∧ (w.heap.size ≤ s_) ∧ (w.heap.size ≤ s_) ∧ (gb465 ≠ s_) ∧ (s_ ≠ gb465) ∧ (Below w.heap.size w w')) ?_ ?_
  rotate_left
  ·intro hJ3_7_11_12
   refine join_ (σ := Nat) 4 (bo_ 17 12287) (fun s_ => [(17, .agg #[iv_ t466, iv_ t467]), (21, .agg #[iv_ t468, iv_ t469]), (25, iv_ t470), (10, .pointer (some ⟨s_, 0, none⟩))]) (fun s_ w' => (Cz10 w' gb465 (iv_ a0_0) (.slice A0_1 l0_1.length c0_1) (.slice A0_2 l0_2.length c0_2) (iv_ a0_3) (iv_ a0_4) (iv_ a0_5) (iv_ a0_6) (iv_ a0_7) (.slice A0_8 l0_8.length c0_8) (iv_ a0_9)) ∧ (w'.heap[gb465]? = some (.cells #[iv_ a0_0, .slice A0_1 l0_1.length c0_1, .slice A0_2 l0_2.length c0_2, iv_ a0_3, iv_ a0_4, iv_ a0_5, iv_ a0_6, iv_ a0_7, .slice A0_8 l0_8.length c0_8, iv_ a0_9] 28 (0, 0))) ∧ (w'.heap[s_]? = some (.cells #[iv_ 0, iv_ 0] 35 (0, 0))) ∧ (w.heap.size ≤ s_) ∧ (w.heap.size ≤ s_) ∧ (gb465 ≠ s_) ∧ (s_ ≠ gb465) ∧ (Below w.heap.size w w')) ?_ ?_
   rotate_left
   ·intro hJ3_7_11_13
    refine join_ (σ := Nat × Nat) 4 (bo_ 17 14335) (fun s_ => [(17, .agg #[iv_ t466, iv_ t467]), (21, .agg #[iv_ t468, iv_ t469]), (9, .pointer (some ⟨s_.1, 0, none⟩)), (10, .pointer (some ⟨s_.2, 0, none⟩))]) (fun s_ w' => (Cz10 w' gb465 (iv_ a0_0) (.slice A0_1 l0_1.length c0_1) (.slice A0_2 l0_2.length c0_2) (iv_ a0_3) (iv_ a0_4) (iv_ a0_5) (iv_ a0_6) (iv_ a0_7) (.slice A0_8 l0_8.length c0_8) (iv_ a0_9)) ∧ (w'.heap[gb465]? = some (.cells #[iv_ a0_0, .slice A0_1 l0_1.length c0_1, .slice A0_2 l0_2.length c0_2, iv_ a0_3, iv_ a0_4, iv_ a0_5, iv_ a0_6, iv_ a0_7, .slice A0_8 l0_8.length c0_8, iv_ a0_9] 28 (0, 0))) ∧ (w'.heap[s_.1]? = some (.cells #[iv_ 0, iv_ 0] 35 (0, 0))) ∧ (w'.heap[s_.2]? = some (.cells #[iv_ 0, iv_ 0] 35 (0, 0))) ∧ (w.heap.size ≤ s_.1) ∧ (w.heap.size ≤ s_.1) ∧ (gb465 ≠ s_.1) ∧ (s_.1 ≠ gb465) ∧ (s_.2 ≠ s_.1) ∧ (s_.1 ≠ s_.2) ∧ (w.heap.size ≤ s_.2) ∧ (w.heap.size ≤ s_.2) ∧ (gb465 ≠ s_.2) ∧ (s_.2 ≠ gb465) ∧ (Below w.heap.size w w')) ?_ ?_
    rotate_left
    ·intro hJ3_7_12_13
     refine join_ (σ := Unit) 5 (bo_ 17 4095) (fun s_ => [(17, .agg #[iv_ t466, iv_ t467]), (21, .agg #[iv_ t468, iv_ t469]), (25, iv_ t470)]) (fun s_ w' => (Cz10 w' gb465 (iv_ a0_0) (.slice A0_1 l0_1.length c0_1) (.slice A0_2 l0_2.length c0_2) (iv_ a0_3) (iv_ a0_4) (iv_ a0_5) (iv_ a0_6) (iv_ a0_7) (.slice A0_8 l0_8.length c0_8) (iv_ a0_9)) ∧ (w'.heap[gb465]? = some (.cells #[iv_ a0_0, .slice A0_1 l0_1.length c0_1, .slice A0_2 l0_2.length c0_2, iv_ a0_3, iv_ a0_4, iv_ a0_5, iv_ a0_6, iv_ a0_7, .slice A0_8 l0_8.length c0_8, iv_ a0_9] 28 (0, 0))) ∧ (Below w.heap.size w w')) ?_ ?_
     rotate_left
     ·intro hJ3_7_11
      refine join_ (σ := Nat) 5 (bo_ 17 6143) (fun s_ => [(17, .agg #[iv_ t466, iv_ t467]), (21, .agg #[iv_ t468, iv_ t469]), (9, .pointer (some ⟨s_, 0, none⟩))]) (fun s_ w' => (Cz10 w' gb465 (iv_ a0_0) (.slice A0_1 l0_1.length c0_1) (.slice A0_2 l0_2.length c0_2) (iv_ a0_3) (iv_ a0_4) (iv_ a0_5) (iv_ a0_6) (iv_ a0_7) (.slice A0_8 l0_8.length c0_8) (iv_ a0_9)) ∧ (w'.heap[gb465]? = some (.cells #[iv_ a0_0, .slice A0_1 l0_1.length c0_1, .slice A0_2 l0_2.length c0_2, iv_ a0_3, iv_ a0_4, iv_ a0_5, iv_ a0_6, iv_ a0_7, .slice A0_8 l0_8.length c0_8, iv_ a0_9] 28 (0, 0))) ∧ (w'.heap[s_]? = some (.cells #[iv_ 0, iv_ 0] 35 (0, 0))) ∧ (w.heap.size ≤ s_) ∧ (w.heap.size ≤ s_) ∧ (gb465 ≠ s_) ∧ (s_ ≠ gb465) ∧ (Below w.heap.size w w')) ?_ ?_
      rotate_left
      ·intro hJ3_7_12
       refine join_ (σ := Nat) 5 (bo_ 17 10239) (fun s_ => [(17, .agg #[iv_ t466, iv_ t467]), (21, .agg #[iv_ t468, iv_ t469]), (10, .pointer (some ⟨s_, 0, none⟩))]) (fun s_ w' => (Cz10 w' gb465 (iv_ a0_0) (.slice A0_1 l0_1.length c0_1) (.slice A0_2 l0_2.length c0_2) (iv_ a0_3) (iv_ a0_4) (iv_ a0_5) (iv_ a0_6) (iv_ a0_7) (.slice A0_8 l0_8.length c0_8) (iv_ a0_9)) ∧ (w'.heap[gb465]? = some (.cells #[iv_ a0_0, .slice A0_1 l0_1.length c0_1, .slice A0_2 l0_2.length c0_2, iv_ a0_3, iv_ a0_4, iv_ a0_5, iv_ a0_6, iv_ a0_7, .slice A0_8 l0_8.length c0_8, iv_ a0_9] 28 (0, 0))) ∧ (w'.heap[s_]? = some (.cells #[iv_ 0, iv_ 0] 35 (0, 0))) ∧ (w.heap.size ≤ s_) ∧ (w.heap.size ≤ s_) ∧ (gb465 ≠ s_) ∧ (s_ ≠ gb465) ∧ (Below w.heap.size w w')) ?_ ?_
       rotate_left
       ·intro hJ3_7_13
        refine join_ (σ := Nat × Nat) 5 (bo_ 17 14207) (fun s_ => [(17, .agg #[iv_ t466, iv_ t467]), (9, .pointer (some ⟨s_.1, 0, none⟩)), (10, .pointer (some ⟨s_.2, 0, none⟩))]) (fun s_ w' => (Cz10 w' gb465 (iv_ a0_0) (.slice A0_1 l0_1.length c0_1) (.slice A0_2 l0_2.length c0_2) (iv_ a0_3) (iv_ a0_4) (iv_ a0_5) (iv_ a0_6) (iv_ a0_7) (.slice A0_8 l0_8.length c0_8) (iv_ a0_9)) ∧ (w'.heap[gb465]? = some (.cells #[iv_ a0_0, .slice A0_1 l0_1.length c0_1, .slice A0_2 l0_2.length c0_2, iv_ a0_3, iv_ a0_4, iv_ a0_5, iv_ a0_6, iv_ a0_7, .slice A0_8 l0_8.length c0_8, iv_ a0_9] 28 (0, 0))) ∧ (w'.heap[s_.1]? = some (.cells #[iv_ 0, iv_ 0] 35 (0, 0))) ∧ (w'.heap[s_.2]? = some (.cells #[iv_ 0, iv_ 0] 35 (0, 0))) ∧ (w.heap.size ≤ s_.1) ∧ (w.heap.size ≤ s_.1) ∧ (gb465 ≠ s_.1) ∧ (s_.1 ≠ gb465) ∧ (s_.2 ≠ s_.1) ∧ (s_.1 ≠ s_.2) ∧ (w.heap.size ≤ s_.2) ∧ (w.heap.size ≤ s_.2) ∧ (gb465 ≠ s_.2) ∧ (s_.2 ≠ gb465) ∧ (Below w.heap.size w w')) ?_ ?_
        rotate_left
        ·intro hJ3_12_13
         refine join_ (σ := Unit) 6 (bo_ 17 2047) (fun s_ => [(17, .agg #[iv_ t466, iv_ t467]), (21, .agg #[iv_ t468, iv_ t469])]) (fun s_ w' => (Cz10 w' gb465 (iv_ a0_0) (.slice A0_1 l0_1.length c0_1) (.slice A0_2 l0_2.length c0_2) (iv_ a0_3) (iv_ a0_4) (iv_ a0_5) (iv_ a0_6) (iv_ a0_7) (.slice A0_8 l0_8.length c0_8) (iv_ a0_9)) ∧ (w'.heap[gb465]? = some (.cells #[iv_ a0_0, .slice A0_1 l0_1.length c0_1, .slice A0_2 l0_2.length c0_2, iv_ a0_3, iv_ a0_4, iv_ a0_5, iv_ a0_6, iv_ a0_7, .slice A0_8 l0_8.length c0_8, iv_ a0_9] 28 (0, 0))) ∧ (Below w.heap.size w w')) ?_ ?_
         rotate_left
         ·intro hJ3_7
          refine join_ (σ := Nat) 6 (bo_ 17 6015) (fun s_ => [(17, .agg #[iv_ t466, iv_ t467]), (9, .pointer (some ⟨s_, 0, none⟩))]) (fun s_ w' => (Cz10 w' gb465 (iv_ a0_0) (.slice A0_1 l0_1.length c0_1) (.slice A0_2 l0_2.length c0_2) (iv_ a0_3) (iv_ a0_4) (iv_ a0_5) (iv_ a0_6) (iv_ a0_7) (.slice A0_8 l0_8.length c0_8) (iv_ a0_9)) ∧ (w'.heap[gb465]? = some (.cells #[iv_ a0_0, .slice A0_1 l0_1.length c0_1, .slice A0_2 l0_2.length c0_2, iv_ a0_3, iv_ a0_4, iv_ a0_5, iv_ a0_6, iv_ a0_7, .slice A0_8 l0_8.length c0_8, iv_ a0_9] 28 (0, 0))) ∧ (w'.heap[s_]? = some (.cells #[iv_ 0, iv_ 0] 35 (0, 0))) ∧ (w.heap.size ≤ s_) ∧ (w.heap.size ≤ s_) ∧ (gb465 ≠ s_) ∧ (s_ ≠ gb465) ∧ (Below w.heap.size w w')) ?_ ?_
          rotate_left
          ·intro hJ3_12
           refine join_ (σ := Nat) 6 (bo_ 17 10111) (fun s_ => [(17, .agg #[iv_ t466, iv_ t467]), (10, .pointer (some ⟨s_, 0, none⟩))]) (fun s_ w' => (Cz10 w' gb465 (iv_ a0_0) (.slice A0_1 l0_1.length c0_1) (.slice A0_2 l0_2.length c0_2) (iv_ a0_3) (iv_ a0_4) (iv_ a0_5) (iv_ a0_6) (iv_ a0_7) (.slice A0_8 l0_8.length c0_8) (iv_ a0_9)) ∧ (w'.heap[gb465]? = some (.cells #[iv_ a0_0, .slice A0_1 l0_1.length c0_1, .slice A0_2 l0_2.length c0_2, iv_ a0_3, iv_ a0_4, iv_ a0_5, iv_ a0_6, iv_ a0_7, .slice A0_8 l0_8.length c0_8, iv_ a0_9] 28 (0, 0))) ∧ (w'.heap[s_]? = some (.cells #[iv_ 0, iv_ 0] 35 (0, 0))) ∧ (w.heap.size ≤ s_) ∧ (w.heap.size ≤ s_) ∧ (gb465 ≠ s_) ∧ (s_ ≠ gb465) ∧ (Below w.heap.size w w')) ?_ ?_
           rotate_left
           ·intro hJ3_13
            refine join_ (σ := Nat × Nat) 6 (bo_ 17 14199) (fun s_ => [(9, .pointer (some ⟨s_.1, 0, none⟩)), (10, .pointer (some ⟨s_.2, 0, none⟩))]) (fun s_ w' => (Cz10 w' gb465 (iv_ a0_0) (.slice A0_1 l0_1.length c0_1) (.slice A0_2 l0_2.length c0_2) (iv_ a0_3) (iv_ a0_4) (iv_ a0_5) (iv_ a0_6) (iv_ a0_7) (.slice A0_8 l0_8.length c0_8) (iv_ a0_9)) ∧ (w'.heap[gb465]? = some (.cells #[iv_ a0_0, .slice A0_1 l0_1.length c0_1, .slice A0_2 l0_2.length c0_2, iv_ a0_3, iv_ a0_4, iv_ a0_5, iv_ a0_6, iv_ a0_7, .slice A0_8 l0_8.length c0_8, iv_ a0_9] 28 (0, 0))) ∧ (w'.heap[s_.1]? = some (.cells #[iv_ 0, iv_ 0] 35 (0, 0))) ∧ (w'.heap[s_.2]? = some (.cells #[iv_ 0, iv_ 0] 35 (0, 0))) ∧ (w.heap.size ≤ s_.1) ∧ (w.heap.size ≤ s_.1) ∧ (gb465 ≠ s_.1) ∧ (s_.1 ≠ gb465) ∧ (s_.2 ≠ s_.1) ∧ (s_.1 ≠ s_.2) ∧ (w.heap.size ≤ s_.2) ∧ (w.heap.size ≤ s_.2) ∧ (gb465 ≠ s_.2) ∧ (s_.2 ≠ gb465) ∧ (Below w.heap.size w w')) ?_ ?_
            rotate_left
            ·intro hJ12_13
             refine join_ (σ := Unit) 7 (bo_ 17 1919) (fun s_ => [(17, .agg #[iv_ t466, iv_ t467])]) (fun s_ w' => (Cz10 w' gb465 (iv_ a0_0) (.slice A0_1 l0_1.length c0_1) (.slice A0_2 l0_2.length c0_2) (iv_ a0_3) (iv_ a0_4) (iv_ a0_5) (iv_ a0_6) (iv_ a0_7) (.slice A0_8 l0_8.length c0_8) (iv_ a0_9)) ∧ (w'.heap[gb465]? = some (.cells #[iv_ a0_0, .slice A0_1 l0_1.length c0_1, .slice A0_2 l0_2.length c0_2, iv_ a0_3, iv_ a0_4, iv_ a0_5, iv_ a0_6, iv_ a0_7, .slice A0_8 l0_8.length c0_8, iv_ a0_9] 28 (0, 0))) ∧ (Below w.heap.size w w')) ?_ ?_
             rotate_left
             ·intro hJ3
              refine join_ (σ := Nat) 7 (bo_ 17 6007) (fun s_ => [(9, .pointer (some ⟨s_, 0, none⟩))]) (fun s_ w' => (Cz10 w' gb465 (iv_ a0_0) (.slice A0_1 l0_1.length c0_1) (.slice A0_2 l0_2.length c0_2) (iv_ a0_3) (iv_ a0_4) (iv_ a0_5) (iv_ a0_6) (iv_ a0_7) (.slice A0_8 l0_8.length c0_8) (iv_ a0_9)) ∧ (w'.heap[gb465]? = some (.cells #[iv_ a0_0, .slice A0_1 l0_1.length c0_1, .slice A0_2 l0_2.length c0_2, iv_ a0_3, iv_ a0_4, iv_ a0_5, iv_ a0_6, iv_ a0_7, .slice A0_8 l0_8.length c0_8, iv_ a0_9] 28 (0, 0))) ∧ (w'.heap[s_]? = some (.cells #[iv_ 0, iv_ 0] 35 (0, 0))) ∧ (w.heap.size ≤ s_) ∧ (w.heap.size ≤ s_) ∧ (gb465 ≠ s_) ∧ (s_ ≠ gb465) ∧ (Below w.heap.size w w')) ?_ ?_
              rotate_left
              ·intro hJ12
               refine join_ (σ := Nat) 7 (bo_ 17 10103) (fun s_ => [(10, .pointer (some ⟨s_, 0, none⟩))]) (fun s_ w' => (Cz10 w' gb465 (iv_ a0_0) (.slice A0_1 l0_1.length c0_1) (.slice A0_2 l0_2.length c0_2) (iv_ a0_3) (iv_ a0_4) (iv_ a0_5) (iv_ a0_6) (iv_ a0_7) (.slice A0_8 l0_8.length c0_8) (iv_ a0_9)) ∧ (w'.heap[gb465]? = some (.cells #[iv_ a0_0, .slice A0_1 l0_1.length c0_1, .slice A0_2 l0_2.length c0_2, iv_ a0_3, iv_ a0_4, iv_ a0_5, iv_ a0_6, iv_ a0_7, .slice A0_8 l0_8.length c0_8, iv_ a0_9] 28 (0, 0))) ∧ (w'.heap[s_]? = some (.cells #[iv_ 0, iv_ 0] 35 (0, 0))) ∧ (w.heap.size ≤ s_) ∧ (w.heap.size ≤ s_) ∧ (gb465 ≠ s_) ∧ (s_ ≠ gb465) ∧ (Below w.heap.size w w')) ?_ ?_
               rotate_left
               ·intro hJ13
                refine three_ (i := 3) (j := 12) (k := 13) (Ni := some 17) (Nj := some 9) (Nk := some 10) (bo_ 17 1919) (bo_ 17 6007) (bo_ 17 10103) rfl rfl rfl rfl rfl rfl (three_of HT_.out (by kernel_rfl)) (by decide) (by decide) (by decide) (fun K hK => ?_) (fun K hK => ?_) (fun K hK => ?_)
                ·skip
                 refine goes_ Try.func13 (by kernel_rfl) rfl #[.agg #[iv_ a0_0, .slice A0_1 l0_1.length c0_1, .slice A0_2 l0_2.length c0_2, iv_ a0_3, iv_ a0_4, iv_ a0_5, iv_ a0_6, iv_ a0_7, .slice A0_8 l0_8.length c0_8, iv_ a0_9], iv_ a1, iv_ a3] (by rfl) rfl rfl mp_ ?_
                 with_reducible refine (impl_NodeAt.calls a0_0 _ _ l0_1 _ _ l0_2 a0_3 a0_4 a0_5 a0_6 a0_7 _ _ l0_8 a0_9 a1 a3 t466 t467 _ ?side1 ?side2 ?side3 ?side4 ?side5 ?side6 A5.out).mono ?_
                 (case side1 => exact ck_ HR0_1 HB)
                 (case side2 => exact HC0_1.out)
                 (case side3 => exact ck_ HR0_2 HB)
                 (case side4 => exact HC0_2.out)
                 (case side5 => exact ck_ HR0_8 HB)
                 (case side6 => exact HC0_8.out)
                 rintro e w14 ⟨rfl, hb⟩
                 refine ⟨_, rfl, sh2_ (blk_below (bk_ BK465) hb) (below_step (bl1_ HB GE465) hb) ?_⟩
                 clear BK465 HB hb
                 intro BK465 HB
                 refine hK.out _ _ (cz10_ BK465) (fun hHeld => ?_)
                 clear hK K
                 refine norm_ (show Act.put _ (some 17) _ = _ from pt_) ?_
                 exact norm_ pa_ (hJ3 () _ ⟨hHeld, (bk_ BK465), (bl1_ HB GE465)⟩)
                ·skip
                 refine bxs_ 9 35 #[iv_ 0, iv_ 0] ?_
                 intro gb471 hg w14 hbox hb
                 refine sh7_ (blk_below (bk_ BK465) hb) (below_step (bl1_ HB GE465) hb) hbox (ge_ hg (bl1_ HB GE465)) (ge_ hg (bl1_ HB GE465)) (nl_ hg (bk_ BK465)) (ng_ hg (bk_ BK465)) ?_
                 clear BK465 HB hb hbox hg
                 intro BK465 HB BK471 GW471 GE471 NB465_471 NB471_465
                 refine hK.out _ _ (cz10_ BK465) (fun hHeld => ?_)
                 clear hK K
                 refine norm_ (show Act.put _ (some 9) _ = _ from pt_) ?_
                 exact norm_ pa_ (hJ12 (gb471) _ ⟨hHeld, (bk_ BK465), (bk_ BK471), GW471.out, GE471.out, NB465_471.out, NB471_465.out, (bl2_ HB GE465 GE471)⟩)
                ·skip
                 refine bxs_ 10 35 #[iv_ 0, iv_ 0] ?_
                 intro gb472 hg w14 hbox hb
                 refine sh7_ (blk_below (bk_ BK465) hb) (below_step (bl1_ HB GE465) hb) hbox (ge_ hg (bl1_ HB GE465)) (ge_ hg (bl1_ HB GE465)) (nl_ hg (bk_ BK465)) (ng_ hg (bk_ BK465)) ?_
                 clear BK465 HB hb hbox hg
                 intro BK465 HB BK472 GW472 GE472 NB465_472 NB472_465
                 refine hK.out _ _ (cz10_ BK465) (fun hHeld => ?_)
                 clear hK K
                 refine norm_ (show Act.put _ (some 10) _ = _ from pt_) ?_
                 exact norm_ pa_ (hJ13 (gb472) _ ⟨hHeld, (bk_ BK465), (bk_ BK472), GW472.out, GE472.out, NB465_472.out, NB472_465.out, (bl2_ HB GE465 GE472)⟩)
               ·skip
                rintro gb472 w15 ⟨hS_, h0_, h1_, h2_, h3_, h4_, h5_, h6_⟩
                have n0_ : Aside0 (w15.heap[gb465]? = some (.cells #[iv_ a0_0, .slice A0_1 l0_1.length c0_1, .slice A0_2 l0_2.length c0_2, iv_ a0_3, iv_ a0_4, iv_ a0_5, iv_ a0_6, iv_ a0_7, .slice A0_8 l0_8.length c0_8, iv_ a0_9] 28 (0, 0))) := ⟨h0_⟩
                have n1_ : Aside0 (w15.heap[gb472]? = some (.cells #[iv_ 0, iv_ 0] 35 (0, 0))) := ⟨h1_⟩
                have n2_ : Aside0 (w.heap.size ≤ gb472) := ⟨h2_⟩
                have n3_ : Aside0 (w.heap.size ≤ gb472) := ⟨h3_⟩
                have n4_ : Aside0 (gb465 ≠ gb472) := ⟨h4_⟩
                have n5_ : Aside0 (gb472 ≠ gb465) := ⟨h5_⟩
                have n6_ : Aside0 (Below w.heap.size w w15) := ⟨h6_⟩
                clear BK465
                clear HB
                clear h0_ h1_ h2_ h3_ h4_ h5_ h6_
                have BK465 := n0_
                have BK472 := n1_
                have GW472 := n2_
                have GE472 := n3_
                have NB465_472 := n4_
                have NB472_465 := n5_
                have HB := n6_
                clear n0_ n1_ n2_ n3_ n4_ n5_ n6_
                have hHeld : Cz10 w15 gb465 (iv_ a0_0) (.slice A0_1 l0_1.length c0_1) (.slice A0_2 l0_2.length c0_2) (iv_ a0_3) (iv_ a0_4) (iv_ a0_5) (iv_ a0_6) (iv_ a0_7) (.slice A0_8 l0_8.length c0_8) (iv_ a0_9) := hS_
                refine norm_ (a' := ?_) ?_ ?_
                rotate_left
                ·simp only [putAll, Act.put, List.setIfInBounds_toArray, List.set_cons_zero, List.set_cons_succ]
                 rfl
                refine two_ (i := 3) (j := 12) (Ni := some 17) (Nj := some 9) (bo_ 17 10111) (bo_ 17 14199) rfl rfl rfl rfl (two_of HT_.out (by kernel_rfl)) (by decide) (by decide) (fun K hK => ?_) (fun K hK => ?_)
                ·skip
                 refine goes_ Try.func13 (by kernel_rfl) rfl #[.agg #[iv_ a0_0, .slice A0_1 l0_1.length c0_1, .slice A0_2 l0_2.length c0_2, iv_ a0_3, iv_ a0_4, iv_ a0_5, iv_ a0_6, iv_ a0_7, .slice A0_8 l0_8.length c0_8, iv_ a0_9], iv_ a1, iv_ a3] (by rfl) rfl rfl mp_ ?_
                 with_reducible refine (impl_NodeAt.calls a0_0 _ _ l0_1 _ _ l0_2 a0_3 a0_4 a0_5 a0_6 a0_7 _ _ l0_8 a0_9 a1 a3 t466 t467 _ ?side1 ?side2 ?side3 ?side4 ?side5 ?side6 A5.out).mono ?_
                 (case side1 => exact ck_ HR0_1 HB)
                 (case side2 => exact HC0_1.out)
                 (case side3 => exact ck_ HR0_2 HB)
                 (case side4 => exact HC0_2.out)
                 (case side5 => exact ck_ HR0_8 HB)
                 (case side6 => exact HC0_8.out)
                 rintro e w16 ⟨rfl, hb⟩
                 refine ⟨_, rfl, sh3_ (blk_below (bk_ BK465) hb) (blk_below (bk_ BK472) hb) (below_step (bl2_ HB GE465 GE472) hb) ?_⟩
                 clear BK465 BK472 HB hb
                 intro BK465 BK472 HB
                 refine hK.out _ _ (cz10_ BK465) (fun hHeld => ?_)
                 clear hK K
                 refine norm_ (show Act.put _ (some 17) _ = _ from pt_) ?_
                 exact norm_ pa_ (hJ3_13 (gb472) _ ⟨hHeld, (bk_ BK465), (bk_ BK472), GW472.out, GE472.out, NB465_472.out, NB472_465.out, (bl2_ HB GE465 GE472)⟩)
                ·skip
                 refine bxs_ 9 35 #[iv_ 0, iv_ 0] ?_
                 intro gb471 hg w16 hbox hb
                 refine sh10_ (blk_below (bk_ BK465) hb) (blk_below (bk_ BK472) hb) (below_step (bl2_ HB GE465 GE472) hb) hbox (ge_ hg (bl2_ HB GE465 GE472)) (ge_ hg (bl2_ HB GE465 GE472)) (nl_ hg (bk_ BK465)) (ng_ hg (bk_ BK465)) (nl_ hg (bk_ BK472)) (ng_ hg (bk_ BK472)) ?_
                 clear BK465 BK472 HB hb hbox hg
                 intro BK465 BK472 HB BK471 GW471 GE471 NB465_471 NB471_465 NB472_471 NB471_472
                 refine hK.out _ _ (cz10_ BK465) (fun hHeld => ?_)
                 clear hK K
                 refine norm_ (show Act.put _ (some 9) _ = _ from pt_) ?_
                 exact norm_ pa_ (hJ12_13 (gb471, gb472) _ ⟨hHeld, (bk_ BK465), (bk_ BK471), (bk_ BK472), GW471.out, GE471.out, NB465_471.out, NB471_465.out, NB472_471.out, NB471_472.out, GW472.out, GE472.out, NB465_472.out, NB472_465.out, (bl3_ HB GE465 GE472 GE471)⟩)
              ·skip
               rintro gb471 w15 ⟨hS_, h0_, h1_, h2_, h3_, h4_, h5_, h6_⟩
               have n0_ : Aside0 (w15.heap[gb465]? = some (.cells #[iv_ a0_0, .slice A0_1 l0_1.length c0_1, .slice A0_2 l0_2.length c0_2, iv_ a0_3, iv_ a0_4, iv_ a0_5, iv_ a0_6, iv_ a0_7, .slice A0_8 l0_8.length c0_8, iv_ a0_9] 28 (0, 0))) := ⟨h0_⟩
               have n1_ : Aside0 (w15.heap[gb471]? = some (.cells #[iv_ 0, iv_ 0] 35 (0, 0))) := ⟨h1_⟩
               have n2_ : Aside0 (w.heap.size ≤ gb471) := ⟨h2_⟩
               have n3_ : Aside0 (w.heap.size ≤ gb471) := ⟨h3_⟩
               have n4_ : Aside0 (gb465 ≠ gb471) := ⟨h4_⟩
               have n5_ : Aside0 (gb471 ≠ gb465) := ⟨h5_⟩
               have n6_ : Aside0 (Below w.heap.size w w15) := ⟨h6_⟩
               clear BK465
               clear HB
               clear h0_ h1_ h2_ h3_ h4_ h5_ h6_
               have BK465 := n0_
               have BK471 := n1_
               have GW471 := n2_
               have GE471 := n3_
               have NB465_471 := n4_
               have NB471_465 := n5_
               have HB := n6_
               clear n0_ n1_ n2_ n3_ n4_ n5_ n6_
               have hHeld : Cz10 w15 gb465 (iv_ a0_0) (.slice A0_1 l0_1.length c0_1) (.slice A0_2 l0_2.length c0_2) (iv_ a0_3) (iv_ a0_4) (iv_ a0_5) (iv_ a0_6) (iv_ a0_7) (.slice A0_8 l0_8.length c0_8) (iv_ a0_9) := hS_
               refine norm_ (a' := ?_) ?_ ?_
               rotate_left
               ·simp only [putAll, Act.put, List.setIfInBounds_toArray, List.set_cons_zero, List.set_cons_succ]
                rfl
               refine two_ (i := 3) (j := 13) (Ni := some 17) (Nj := some 10) (bo_ 17 6015) (bo_ 17 14199) rfl rfl rfl rfl (two_of HT_.out (by kernel_rfl)) (by decide) (by decide) (fun K hK => ?_) (fun K hK => ?_)
               ·skip
                refine goes_ Try.func13 (by kernel_rfl) rfl #[.agg #[iv_ a0_0, .slice A0_1 l0_1.length c0_1, .slice A0_2 l0_2.length c0_2, iv_ a0_3, iv_ a0_4, iv_ a0_5, iv_ a0_6, iv_ a0_7, .slice A0_8 l0_8.length c0_8, iv_ a0_9], iv_ a1, iv_ a3] (by rfl) rfl rfl mp_ ?_
                with_reducible refine (impl_NodeAt.calls a0_0 _ _ l0_1 _ _ l0_2 a0_3 a0_4 a0_5 a0_6 a0_7 _ _ l0_8 a0_9 a1 a3 t466 t467 _ ?side1 ?side2 ?side3 ?side4 ?side5 ?side6 A5.out).mono ?_
                (case side1 => exact ck_ HR0_1 HB)
                (case side2 => exact HC0_1.out)
                (case side3 => exact ck_ HR0_2 HB)
                (case side4 => exact HC0_2.out)
                (case side5 => exact ck_ HR0_8 HB)
                (case side6 => exact HC0_8.out)
                rintro e w16 ⟨rfl, hb⟩
                refine ⟨_, rfl, sh3_ (blk_below (bk_ BK465) hb) (blk_below (bk_ BK471) hb) (below_step (bl2_ HB GE465 GE471) hb) ?_⟩
                clear BK465 BK471 HB hb
                intro BK465 BK471 HB
                refine hK.out _ _ (cz10_ BK465) (fun hHeld => ?_)
                clear hK K
                refine norm_ (show Act.put _ (some 17) _ = _ from pt_) ?_
                exact norm_ pa_ (hJ3_12 (gb471) _ ⟨hHeld, (bk_ BK465), (bk_ BK471), GW471.out, GE471.out, NB465_471.out, NB471_465.out, (bl2_ HB GE465 GE471)⟩)
               ·skip
                refine bxs_ 10 35 #[iv_ 0, iv_ 0] ?_
                intro gb472 hg w16 hbox hb
                refine sh10_ (blk_below (bk_ BK465) hb) (blk_below (bk_ BK471) hb) (below_step (bl2_ HB GE465 GE471) hb) hbox (ge_ hg (bl2_ HB GE465 GE471)) (ge_ hg (bl2_ HB GE465 GE471)) (nl_ hg (bk_ BK465)) (ng_ hg (bk_ BK465)) (nl_ hg (bk_ BK471)) (ng_ hg (bk_ BK471)) ?_
                clear BK465 BK471 HB hb hbox hg
                intro BK465 BK471 HB BK472 GW472 GE472 NB465_472 NB472_465 NB471_472 NB472_471
                refine hK.out _ _ (cz10_ BK465) (fun hHeld => ?_)
                clear hK K
                refine norm_ (show Act.put _ (some 10) _ = _ from pt_) ?_
                exact norm_ pa_ (hJ12_13 (gb471, gb472) _ ⟨hHeld, (bk_ BK465), (bk_ BK471), (bk_ BK472), GW471.out, GE471.out, NB465_471.out, NB471_465.out, NB472_471.out, NB471_472.out, GW472.out, GE472.out, NB465_472.out, NB472_465.out, (bl3_ HB GE465 GE471 GE472)⟩)
             ·skip
              rintro _ w15 ⟨hS_, h0_, h1_⟩
              have n0_ : Aside0 (w15.heap[gb465]? = some (.cells #[iv_ a0_0, .slice A0_1 l0_1.length c0_1, .slice A0_2 l0_2.length c0_2, iv_ a0_3, iv_ a0_4, iv_ a0_5, iv_ a0_6, iv_ a0_7, .slice A0_8 l0_8.length c0_8, iv_ a0_9] 28 (0, 0))) := ⟨h0_⟩
              have n1_ : Aside0 (Below w.heap.size w w15) := ⟨h1_⟩
              clear BK465
              clear HB
              clear h0_ h1_
              have BK465 := n0_
              have HB := n1_
              clear n0_ n1_
              have hHeld : Cz10 w15 gb465 (iv_ a0_0) (.slice A0_1 l0_1.length c0_1) (.slice A0_2 l0_2.length c0_2) (iv_ a0_3) (iv_ a0_4) (iv_ a0_5) (iv_ a0_6) (iv_ a0_7) (.slice A0_8 l0_8.length c0_8) (iv_ a0_9) := hS_
              refine norm_ (a' := ?_) ?_ ?_
              rotate_left
              ·simp only [putAll, Act.put, List.setIfInBounds_toArray, List.set_cons_zero, List.set_cons_succ]
               rfl
              refine three_ (i := 7) (j := 12) (k := 13) (Ni := some 21) (Nj := some 9) (Nk := some 10) (bo_ 17 2047) (bo_ 17 6015) (bo_ 17 10111) rfl rfl rfl rfl rfl rfl (three_of HT_.out (by kernel_rfl)) (by decide) (by decide) (by decide) (fun K hK => ?_) (fun K hK => ?_) (fun K hK => ?_)
              ·skip
               refine goes_ Try.func13 (by kernel_rfl) rfl #[.agg #[iv_ a0_0, .slice A0_1 l0_1.length c0_1, .slice A0_2 l0_2.length c0_2, iv_ a0_3, iv_ a0_4, iv_ a0_5, iv_ a0_6, iv_ a0_7, .slice A0_8 l0_8.length c0_8, iv_ a0_9], iv_ a2, iv_ a3] (by rfl) rfl rfl mp_ ?_
               with_reducible refine (impl_NodeAt.calls a0_0 _ _ l0_1 _ _ l0_2 a0_3 a0_4 a0_5 a0_6 a0_7 _ _ l0_8 a0_9 a2 a3 t468 t469 _ ?side1 ?side2 ?side3 ?side4 ?side5 ?side6 A6.out).mono ?_
               (case side1 => exact ck_ HR0_1 HB)
               (case side2 => exact HC0_1.out)
               (case side3 => exact ck_ HR0_2 HB)
               (case side4 => exact HC0_2.out)
               (case side5 => exact ck_ HR0_8 HB)
               (case side6 => exact HC0_8.out)
               rintro e w16 ⟨rfl, hb⟩
               refine ⟨_, rfl, sh2_ (blk_below (bk_ BK465) hb) (below_step (bl1_ HB GE465) hb) ?_⟩
               clear BK465 HB hb
               intro BK465 HB
               refine hK.out _ _ (cz10_ BK465) (fun hHeld => ?_)
               clear hK K
               refine norm_ (show Act.put _ (some 21) _ = _ from pt_) ?_
               exact norm_ pa_ (hJ3_7 () _ ⟨hHeld, (bk_ BK465), (bl1_ HB GE465)⟩)
              ·skip
               refine bxs_ 9 35 #[iv_ 0, iv_ 0] ?_
               intro gb471 hg w16 hbox hb
               refine sh7_ (blk_below (bk_ BK465) hb) (below_step (bl1_ HB GE465) hb) hbox (ge_ hg (bl1_ HB GE465)) (ge_ hg (bl1_ HB GE465)) (nl_ hg (bk_ BK465)) (ng_ hg (bk_ BK465)) ?_
               clear BK465 HB hb hbox hg
               intro BK465 HB BK471 GW471 GE471 NB465_471 NB471_465
               refine hK.out _ _ (cz10_ BK465) (fun hHeld => ?_)
               clear hK K
               refine norm_ (show Act.put _ (some 9) _ = _ from pt_) ?_
               exact norm_ pa_ (hJ3_12 (gb471) _ ⟨hHeld, (bk_ BK465), (bk_ BK471), GW471.out, GE471.out, NB465_471.out, NB471_465.out, (bl2_ HB GE465 GE471)⟩)
              ·skip
               refine bxs_ 10 35 #[iv_ 0, iv_ 0] ?_
               intro gb472 hg w16 hbox hb
               refine sh7_ (blk_below (bk_ BK465) hb) (below_step (bl1_ HB GE465) hb) hbox (ge_ hg (bl1_ HB GE465)) (ge_ hg (bl1_ HB GE465)) (nl_ hg (bk_ BK465)) (ng_ hg (bk_ BK465)) ?_
               clear BK465 HB hb hbox hg
               intro BK465 HB BK472 GW472 GE472 NB465_472 NB472_465
               refine hK.out _ _ (cz10_ BK465) (fun hHeld => ?_)
               clear hK K
               refine norm_ (show Act.put _ (some 10) _ = _ from pt_) ?_
               exact norm_ pa_ (hJ3_13 (gb472) _ ⟨hHeld, (bk_ BK465), (bk_ BK472), GW472.out, GE472.out, NB465_472.out, NB472_465.out, (bl2_ HB GE465 GE472)⟩)
            ·skip
             rintro ⟨gb471, gb472⟩ w16 ⟨hS_, h0_, h1_, h2_, h3_, h4_, h5_, h6_, h7_, h8_, h9_, h10_, h11_, h12_, h13_⟩
             have n0_ : Aside0 (w16.heap[gb465]? = some (.cells #[iv_ a0_0, .slice A0_1 l0_1.length c0_1, .slice A0_2 l0_2.length c0_2, iv_ a0_3, iv_ a0_4, iv_ a0_5, iv_ a0_6, iv_ a0_7, .slice A0_8 l0_8.length c0_8, iv_ a0_9] 28 (0, 0))) := ⟨h0_⟩
             have n1_ : Aside0 (w16.heap[gb471]? = some (.cells #[iv_ 0, iv_ 0] 35 (0, 0))) := ⟨h1_⟩
             have n2_ : Aside0 (w16.heap[gb472]? = some (.cells #[iv_ 0, iv_ 0] 35 (0, 0))) := ⟨h2_⟩
             have n3_ : Aside0 (w.heap.size ≤ gb471) := ⟨h3_⟩
             have n4_ : Aside0 (w.heap.size ≤ gb471) := ⟨h4_⟩
             have n5_ : Aside0 (gb465 ≠ gb471) := ⟨h5_⟩
             have n6_ : Aside0 (gb471 ≠ gb465) := ⟨h6_⟩
             have n7_ : Aside0 (gb472 ≠ gb471) := ⟨h7_⟩
             have n8_ : Aside0 (gb471 ≠ gb472) := ⟨h8_⟩
             have n9_ : Aside0 (w.heap.size ≤ gb472) := ⟨h9_⟩
             have n10_ : Aside0 (w.heap.size ≤ gb472) := ⟨h10_⟩
             have n11_ : Aside0 (gb465 ≠ gb472) := ⟨h11_⟩
             have n12_ : Aside0 (gb472 ≠ gb465) := ⟨h12_⟩
             have n13_ : Aside0 (Below w.heap.size w w16) := ⟨h13_⟩
             clear BK465
             clear HB
             clear h0_ h1_ h2_ h3_ h4_ h5_ h6_ h7_ h8_ h9_ h10_ h11_ h12_ h13_
             have BK465 := n0_
             have BK471 := n1_
             have BK472 := n2_
             have GW471 := n3_
             have GE471 := n4_
             have NB465_471 := n5_
             have NB471_465 := n6_
             have NB472_471 := n7_
             have NB471_472 := n8_
             have GW472 := n9_
             have GE472 := n10_
             have NB465_472 := n11_
             have NB472_465 := n12_
             have HB := n13_
             clear n0_ n1_ n2_ n3_ n4_ n5_ n6_ n7_ n8_ n9_ n10_ n11_ n12_ n13_
             have hHeld : Cz10 w16 gb465 (iv_ a0_0) (.slice A0_1 l0_1.length c0_1) (.slice A0_2 l0_2.length c0_2) (iv_ a0_3) (iv_ a0_4) (iv_ a0_5) (iv_ a0_6) (iv_ a0_7) (.slice A0_8 l0_8.length c0_8) (iv_ a0_9) := hS_
             refine norm_ (a' := ?_) ?_ ?_
             rotate_left
             ·simp only [putAll, Act.put, List.setIfInBounds_toArray, List.set_cons_zero, List.set_cons_succ]
              rfl
             refine onc_ 3 (bo_ 17 14207) (some 17) HT_ Try.func13 (impl_NodeAt.calls a0_0 _ _ l0_1 _ _ l0_2 a0_3 a0_4 a0_5 a0_6 a0_7 _ _ l0_8 a0_9 a1 a3 t466 t467 _ (ck_ HR0_1 HB) HC0_1.out (ck_ HR0_2 HB) HC0_2.out (ck_ HR0_8 HB) HC0_8.out A5.out) ?_
             rintro e w17 ⟨rfl, hb⟩
             refine sh4_ (blk_below (bk_ BK465) hb) (blk_below (bk_ BK471) hb) (blk_below (bk_ BK472) hb) (below_step (bl3_ HB GE465 GE471 GE472) hb) ?_
             clear BK465 BK471 BK472 HB hb
             intro BK465 BK471 BK472 HB
             refine ⟨_, _, rfl, (cz10_ BK465), pt_, fun hHeld => ?_⟩
             exact norm_ pa_ (hJ3_12_13 (gb471, gb472) _ ⟨hHeld, (bk_ BK465), (bk_ BK471), (bk_ BK472), GW471.out, GE471.out, NB465_471.out, NB471_465.out, NB472_471.out, NB471_472.out, GW472.out, GE472.out, NB465_472.out, NB472_465.out, (bl3_ HB GE465 GE471 GE472)⟩)
           ·skip
            rintro gb472 w16 ⟨hS_, h0_, h1_, h2_, h3_, h4_, h5_, h6_⟩
            have n0_ : Aside0 (w16.heap[gb465]? = some (.cells #[iv_ a0_0, .slice A0_1 l0_1.length c0_1, .slice A0_2 l0_2.length c0_2, iv_ a0_3, iv_ a0_4, iv_ a0_5, iv_ a0_6, iv_ a0_7, .slice A0_8 l0_8.length c0_8, iv_ a0_9] 28 (0, 0))) := ⟨h0_⟩
            have n1_ : Aside0 (w16.heap[gb472]? = some (.cells #[iv_ 0, iv_ 0] 35 (0, 0))) := ⟨h1_⟩
            have n2_ : Aside0 (w.heap.size ≤ gb472) := ⟨h2_⟩
            have n3_ : Aside0 (w.heap.size ≤ gb472) := ⟨h3_⟩
            have n4_ : Aside0 (gb465 ≠ gb472) := ⟨h4_⟩
            have n5_ : Aside0 (gb472 ≠ gb465) := ⟨h5_⟩
            have n6_ : Aside0 (Below w.heap.size w w16) := ⟨h6_⟩
            clear BK465
            clear HB
            clear h0_ h1_ h2_ h3_ h4_ h5_ h6_
            have BK465 := n0_
            have BK472 := n1_
            have GW472 := n2_
            have GE472 := n3_
            have NB465_472 := n4_
            have NB472_465 := n5_
            have HB := n6_
            clear n0_ n1_ n2_ n3_ n4_ n5_ n6_
            have hHeld : Cz10 w16 gb465 (iv_ a0_0) (.slice A0_1 l0_1.length c0_1) (.slice A0_2 l0_2.length c0_2) (iv_ a0_3) (iv_ a0_4) (iv_ a0_5) (iv_ a0_6) (iv_ a0_7) (.slice A0_8 l0_8.length c0_8) (iv_ a0_9) := hS_
            refine norm_ (a' := ?_) ?_ ?_
            rotate_left
            ·simp only [putAll, Act.put, List.setIfInBounds_toArray, List.set_cons_zero, List.set_cons_succ]
             rfl
            refine two_ (i := 7) (j := 12) (Ni := some 21) (Nj := some 9) (bo_ 17 10239) (bo_ 17 14207) rfl rfl rfl rfl (two_of HT_.out (by kernel_rfl)) (by decide) (by decide) (fun K hK => ?_) (fun K hK => ?_)
            ·skip
             refine goes_ Try.func13 (by kernel_rfl) rfl #[.agg #[iv_ a0_0, .slice A0_1 l0_1.length c0_1, .slice A0_2 l0_2.length c0_2, iv_ a0_3, iv_ a0_4, iv_ a0_5, iv_ a0_6, iv_ a0_7, .slice A0_8 l0_8.length c0_8, iv_ a0_9], iv_ a2, iv_ a3] (by rfl) rfl rfl mp_ ?_
             with_reducible refine (impl_NodeAt.calls a0_0 _ _ l0_1 _ _ l0_2 a0_3 a0_4 a0_5 a0_6 a0_7 _ _ l0_8 a0_9 a2 a3 t468 t469 _ ?side1 ?side2 ?side3 ?side4 ?side5 ?side6 A6.out).mono ?_
             (case side1 => exact ck_ HR0_1 HB)
             (case side2 => exact HC0_1.out)
             (case side3 => exact ck_ HR0_2 HB)
             (case side4 => exact HC0_2.out)
             (case side5 => exact ck_ HR0_8 HB)
             (case side6 => exact HC0_8.out)
             rintro e w17 ⟨rfl, hb⟩
             refine ⟨_, rfl, sh3_ (blk_below (bk_ BK465) hb) (blk_below (bk_ BK472) hb) (below_step (bl2_ HB GE465 GE472) hb) ?_⟩
             clear BK465 BK472 HB hb
             intro BK465 BK472 HB
             refine hK.out _ _ (cz10_ BK465) (fun hHeld => ?_)
             clear hK K
             refine norm_ (show Act.put _ (some 21) _ = _ from pt_) ?_
             exact norm_ pa_ (hJ3_7_13 (gb472) _ ⟨hHeld, (bk_ BK465), (bk_ BK472), GW472.out, GE472.out, NB465_472.out, NB472_465.out, (bl2_ HB GE465 GE472)⟩)
            ·skip
             refine bxs_ 9 35 #[iv_ 0, iv_ 0] ?_
             intro gb471 hg w17 hbox hb
             refine sh10_ (blk_below (bk_ BK465) hb) (blk_below (bk_ BK472) hb) (below_step (bl2_ HB GE465 GE472) hb) hbox (ge_ hg (bl2_ HB GE465 GE472)) (ge_ hg (bl2_ HB GE465 GE472)) (nl_ hg (bk_ BK465)) (ng_ hg (bk_ BK465)) (nl_ hg (bk_ BK472)) (ng_ hg (bk_ BK472)) ?_
             clear BK465 BK472 HB hb hbox hg
             intro BK465 BK472 HB BK471 GW471 GE471 NB465_471 NB471_465 NB472_471 NB471_472
             refine hK.out _ _ (cz10_ BK465) (fun hHeld => ?_)
             clear hK K
             refine norm_ (show Act.put _ (some 9) _ = _ from pt_) ?_
             exact norm_ pa_ (hJ3_12_13 (gb471, gb472) _ ⟨hHeld, (bk_ BK465), (bk_ BK471), (bk_ BK472), GW471.out, GE471.out, NB465_471.out, NB471_465.out, NB472_471.out, NB471_472.out, GW472.out, GE472.out, NB465_472.out, NB472_465.out, (bl3_ HB GE465 GE472 GE471)⟩)
          ·skip
           rintro gb471 w16 ⟨hS_, h0_, h1_, h2_, h3_, h4_, h5_, h6_⟩
           have n0_ : Aside0 (w16.heap[gb465]? = some (.cells #[iv_ a0_0, .slice A0_1 l0_1.length c0_1, .slice A0_2 l0_2.length c0_2, iv_ a0_3, iv_ a0_4, iv_ a0_5, iv_ a0_6, iv_ a0_7, .slice A0_8 l0_8.length c0_8, iv_ a0_9] 28 (0, 0))) := ⟨h0_⟩
           have n1_ : Aside0 (w16.heap[gb471]? = some (.cells #[iv_ 0, iv_ 0] 35 (0, 0))) := ⟨h1_⟩
           have n2_ : Aside0 (w.heap.size ≤ gb471) := ⟨h2_⟩
           have n3_ : Aside0 (w.heap.size ≤ gb471) := ⟨h3_⟩
           have n4_ : Aside0 (gb465 ≠ gb471) := ⟨h4_⟩
           have n5_ : Aside0 (gb471 ≠ gb465) := ⟨h5_⟩
           have n6_ : Aside0 (Below w.heap.size w w16) := ⟨h6_⟩
           clear BK465
           clear HB
           clear h0_ h1_ h2_ h3_ h4_ h5_ h6_
           have BK465 := n0_
           have BK471 := n1_
           have GW471 := n2_
           have GE471 := n3_
           have NB465_471 := n4_
           have NB471_465 := n5_
           have HB := n6_
           clear n0_ n1_ n2_ n3_ n4_ n5_ n6_
           have hHeld : Cz10 w16 gb465 (iv_ a0_0) (.slice A0_1 l0_1.length c0_1) (.slice A0_2 l0_2.length c0_2) (iv_ a0_3) (iv_ a0_4) (iv_ a0_5) (iv_ a0_6) (iv_ a0_7) (.slice A0_8 l0_8.length c0_8) (iv_ a0_9) := hS_
           refine norm_ (a' := ?_) ?_ ?_
           rotate_left
           ·simp only [putAll, Act.put, List.setIfInBounds_toArray, List.set_cons_zero, List.set_cons_succ]
            rfl
           refine two_ (i := 7) (j := 13) (Ni := some 21) (Nj := some 10) (bo_ 17 6143) (bo_ 17 14207) rfl rfl rfl rfl (two_of HT_.out (by kernel_rfl)) (by decide) (by decide) (fun K hK => ?_) (fun K hK => ?_)
           ·skip
            refine goes_ Try.func13 (by kernel_rfl) rfl #[.agg #[iv_ a0_0, .slice A0_1 l0_1.length c0_1, .slice A0_2 l0_2.length c0_2, iv_ a0_3, iv_ a0_4, iv_ a0_5, iv_ a0_6, iv_ a0_7, .slice A0_8 l0_8.length c0_8, iv_ a0_9], iv_ a2, iv_ a3] (by rfl) rfl rfl mp_ ?_
            with_reducible refine (impl_NodeAt.calls a0_0 _ _ l0_1 _ _ l0_2 a0_3 a0_4 a0_5 a0_6 a0_7 _ _ l0_8 a0_9 a2 a3 t468 t469 _ ?side1 ?side2 ?side3 ?side4 ?side5 ?side6 A6.out).mono ?_
            (case side1 => exact ck_ HR0_1 HB)
            (case side2 => exact HC0_1.out)
            (case side3 => exact ck_ HR0_2 HB)
            (case side4 => exact HC0_2.out)
            (case side5 => exact ck_ HR0_8 HB)
            (case side6 => exact HC0_8.out)
            rintro e w17 ⟨rfl, hb⟩
            refine ⟨_, rfl, sh3_ (blk_below (bk_ BK465) hb) (blk_below (bk_ BK471) hb) (below_step (bl2_ HB GE465 GE471) hb) ?_⟩
            clear BK465 BK471 HB hb
            intro BK465 BK471 HB
            refine hK.out _ _ (cz10_ BK465) (fun hHeld => ?_)
            clear hK K
            refine norm_ (show Act.put _ (some 21) _ = _ from pt_) ?_
            exact norm_ pa_ (hJ3_7_12 (gb471) _ ⟨hHeld, (bk_ BK465), (bk_ BK471), GW471.out, GE471.out, NB465_471.out, NB471_465.out, (bl2_ HB GE465 GE471)⟩)
           ·skip
            refine bxs_ 10 35 #[iv_ 0, iv_ 0] ?_
            intro gb472 hg w17 hbox hb
            refine sh10_ (blk_below (bk_ BK465) hb) (blk_below (bk_ BK471) hb) (below_step (bl2_ HB GE465 GE471) hb) hbox (ge_ hg (bl2_ HB GE465 GE471)) (ge_ hg (bl2_ HB GE465 GE471)) (nl_ hg (bk_ BK465)) (ng_ hg (bk_ BK465)) (nl_ hg (bk_ BK471)) (ng_ hg (bk_ BK471)) ?_
            clear BK465 BK471 HB hb hbox hg
            intro BK465 BK471 HB BK472 GW472 GE472 NB465_472 NB472_465 NB471_472 NB472_471
            refine hK.out _ _ (cz10_ BK465) (fun hHeld => ?_)
            clear hK K
            refine norm_ (show Act.put _ (some 10) _ = _ from pt_) ?_
            exact norm_ pa_ (hJ3_12_13 (gb471, gb472) _ ⟨hHeld, (bk_ BK465), (bk_ BK471), (bk_ BK472), GW471.out, GE471.out, NB465_471.out, NB471_465.out, NB472_471.out, NB471_472.out, GW472.out, GE472.out, NB465_472.out, NB472_465.out, (bl3_ HB GE465 GE471 GE472)⟩)
         ·skip
          rintro _ w16 ⟨hS_, h0_, h1_⟩
          have n0_ : Aside0 (w16.heap[gb465]? = some (.cells #[iv_ a0_0, .slice A0_1 l0_1.length c0_1, .slice A0_2 l0_2.length c0_2, iv_ a0_3, iv_ a0_4, iv_ a0_5, iv_ a0_6, iv_ a0_7, .slice A0_8 l0_8.length c0_8, iv_ a0_9] 28 (0, 0))) := ⟨h0_⟩
          have n1_ : Aside0 (Below w.heap.size w w16) := ⟨h1_⟩
          clear BK465
          clear HB
          clear h0_ h1_
          have BK465 := n0_
          have HB := n1_
          clear n0_ n1_
          have hHeld : Cz10 w16 gb465 (iv_ a0_0) (.slice A0_1 l0_1.length c0_1) (.slice A0_2 l0_2.length c0_2) (iv_ a0_3) (iv_ a0_4) (iv_ a0_5) (iv_ a0_6) (iv_ a0_7) (.slice A0_8 l0_8.length c0_8) (iv_ a0_9) := hS_
          refine norm_ (a' := ?_) ?_ ?_
          rotate_left
          ·simp only [putAll, Act.put, List.setIfInBounds_toArray, List.set_cons_zero, List.set_cons_succ]
           rfl
          refine three_ (i := 11) (j := 12) (k := 13) (Ni := some 25) (Nj := some 9) (Nk := some 10) (bo_ 17 4095) (bo_ 17 6143) (bo_ 17 10239) rfl rfl rfl rfl rfl rfl (three_of HT_.out (by kernel_rfl)) (by decide) (by decide) (by decide) (fun K hK => ?_) (fun K hK => ?_) (fun K hK => ?_)
          ·skip
           refine goes_ Try.func11 (by kernel_rfl) rfl #[.agg #[iv_ a0_0, .slice A0_1 l0_1.length c0_1, .slice A0_2 l0_2.length c0_2, iv_ a0_3, iv_ a0_4, iv_ a0_5, iv_ a0_6, iv_ a0_7, .slice A0_8 l0_8.length c0_8, iv_ a0_9], iv_ a1, iv_ a2] (by rfl) rfl rfl mp_ ?_
           with_reducible refine (impl_LimitOf.calls k a0_0 _ _ l0_1 _ _ l0_2 a0_3 a0_4 a0_5 a0_6 a0_7 _ _ l0_8 a0_9 a1 a2 t470 _ ?side1 ?side2 ?side3 ?side4 ?side5 ?side6 A7.out).mono ?_
           (case side1 => exact ck_ HR0_1 HB)
           (case side2 => exact HC0_1.out)
           (case side3 => exact ck_ HR0_2 HB)
           (case side4 => exact HC0_2.out)
           (case side5 => exact ck_ HR0_8 HB)
           (case side6 => exact HC0_8.out)
           rintro e w17 ⟨rfl, hb⟩
           refine ⟨_, rfl, sh2_ (blk_below (bk_ BK465) hb) (below_step (bl1_ HB GE465) hb) ?_⟩
           clear BK465 HB hb
           intro BK465 HB
           refine hK.out _ _ (cz10_ BK465) (fun hHeld => ?_)
           clear hK K
           refine norm_ (show Act.put _ (some 25) _ = _ from pt_) ?_
           exact norm_ pa_ (hJ3_7_11 () _ ⟨hHeld, (bk_ BK465), (bl1_ HB GE465)⟩)
          ·skip
           refine bxs_ 9 35 #[iv_ 0, iv_ 0] ?_
           intro gb471 hg w17 hbox hb
           refine sh7_ (blk_below (bk_ BK465) hb) (below_step (bl1_ HB GE465) hb) hbox (ge_ hg (bl1_ HB GE465)) (ge_ hg (bl1_ HB GE465)) (nl_ hg (bk_ BK465)) (ng_ hg (bk_ BK465)) ?_
           clear BK465 HB hb hbox hg
           intro BK465 HB BK471 GW471 GE471 NB465_471 NB471_465
           refine hK.out _ _ (cz10_ BK465) (fun hHeld => ?_)
           clear hK K
           refine norm_ (show Act.put _ (some 9) _ = _ from pt_) ?_
           exact norm_ pa_ (hJ3_7_12 (gb471) _ ⟨hHeld, (bk_ BK465), (bk_ BK471), GW471.out, GE471.out, NB465_471.out, NB471_465.out, (bl2_ HB GE465 GE471)⟩)
          ·skip
           refine bxs_ 10 35 #[iv_ 0, iv_ 0] ?_
           intro gb472 hg w17 hbox hb
           refine sh7_ (blk_below (bk_ BK465) hb) (below_step (bl1_ HB GE465) hb) hbox (ge_ hg (bl1_ HB GE465)) (ge_ hg (bl1_ HB GE465)) (nl_ hg (bk_ BK465)) (ng_ hg (bk_ BK465)) ?_
           clear BK465 HB hb hbox hg
           intro BK465 HB BK472 GW472 GE472 NB465_472 NB472_465
           refine hK.out _ _ (cz10_ BK465) (fun hHeld => ?_)
           clear hK K
           refine norm_ (show Act.put _ (some 10) _ = _ from pt_) ?_
           exact norm_ pa_ (hJ3_7_13 (gb472) _ ⟨hHeld, (bk_ BK465), (bk_ BK472), GW472.out, GE472.out, NB465_472.out, NB472_465.out, (bl2_ HB GE465 GE472)⟩)
        ·skip
         rintro ⟨gb471, gb472⟩ w17 ⟨hS_, h0_, h1_, h2_, h3_, h4_, h5_, h6_, h7_, h8_, h9_, h10_, h11_, h12_, h13_⟩
         have n0_ : Aside0 (w17.heap[gb465]? = some (.cells #[iv_ a0_0, .slice A0_1 l0_1.length c0_1, .slice A0_2 l0_2.length c0_2, iv_ a0_3, iv_ a0_4, iv_ a0_5, iv_ a0_6, iv_ a0_7, .slice A0_8 l0_8.length c0_8, iv_ a0_9] 28 (0, 0))) := ⟨h0_⟩
         have n1_ : Aside0 (w17.heap[gb471]? = some (.cells #[iv_ 0, iv_ 0] 35 (0, 0))) := ⟨h1_⟩
         have n2_ : Aside0 (w17.heap[gb472]? = some (.cells #[iv_ 0, iv_ 0] 35 (0, 0))) := ⟨h2_⟩
         have n3_ : Aside0 (w.heap.size ≤ gb471) := ⟨h3_⟩
         have n4_ : Aside0 (w.heap.size ≤ gb471) := ⟨h4_⟩
         have n5_ : Aside0 (gb465 ≠ gb471) := ⟨h5_⟩
         have n6_ : Aside0 (gb471 ≠ gb465) := ⟨h6_⟩
         have n7_ : Aside0 (gb472 ≠ gb471) := ⟨h7_⟩
         have n8_ : Aside0 (gb471 ≠ gb472) := ⟨h8_⟩
         have n9_ : Aside0 (w.heap.size ≤ gb472) := ⟨h9_⟩
         have n10_ : Aside0 (w.heap.size ≤ gb472) := ⟨h10_⟩
         have n11_ : Aside0 (gb465 ≠ gb472) := ⟨h11_⟩
         have n12_ : Aside0 (gb472 ≠ gb465) := ⟨h12_⟩
         have n13_ : Aside0 (Below w.heap.size w w17) := ⟨h13_⟩
         clear BK465
         clear HB
         clear h0_ h1_ h2_ h3_ h4_ h5_ h6_ h7_ h8_ h9_ h10_ h11_ h12_ h13_
         have BK465 := n0_
         have BK471 := n1_
         have BK472 := n2_
         have GW471 := n3_
         have GE471 := n4_
         have NB465_471 := n5_
         have NB471_465 := n6_
         have NB472_471 := n7_
         have NB471_472 := n8_
         have GW472 := n9_
         have GE472 := n10_
         have NB465_472 := n11_
         have NB472_465 := n12_
         have HB := n13_
         clear n0_ n1_ n2_ n3_ n4_ n5_ n6_ n7_ n8_ n9_ n10_ n11_ n12_ n13_
         have hHeld : Cz10 w17 gb465 (iv_ a0_0) (.slice A0_1 l0_1.length c0_1) (.slice A0_2 l0_2.length c0_2) (iv_ a0_3) (iv_ a0_4) (iv_ a0_5) (iv_ a0_6) (iv_ a0_7) (.slice A0_8 l0_8.length c0_8) (iv_ a0_9) := hS_
         refine norm_ (a' := ?_) ?_ ?_
         rotate_left
         ·simp only [putAll, Act.put, List.setIfInBounds_toArray, List.set_cons_zero, List.set_cons_succ]
          rfl
         refine onc_ 7 (bo_ 17 14335) (some 21) HT_ Try.func13 (impl_NodeAt.calls a0_0 _ _ l0_1 _ _ l0_2 a0_3 a0_4 a0_5 a0_6 a0_7 _ _ l0_8 a0_9 a2 a3 t468 t469 _ (ck_ HR0_1 HB) HC0_1.out (ck_ HR0_2 HB) HC0_2.out (ck_ HR0_8 HB) HC0_8.out A6.out) ?_
         rintro e w18 ⟨rfl, hb⟩
         refine sh4_ (blk_below (bk_ BK465) hb) (blk_below (bk_ BK471) hb) (blk_below (bk_ BK472) hb) (below_step (bl3_ HB GE465 GE471 GE472) hb) ?_
         clear BK465 BK471 BK472 HB hb
         intro BK465 BK471 BK472 HB
         refine ⟨_, _, rfl, (cz10_ BK465), pt_, fun hHeld => ?_⟩
         exact norm_ pa_ (hJ3_7_12_13 (gb471, gb472) _ ⟨hHeld, (bk_ BK465), (bk_ BK471), (bk_ BK472), GW471.out, GE471.out, NB465_471.out, NB471_465.out, NB472_471.out, NB471_472.out, GW472.out, GE472.out, NB465_472.out, NB472_465.out, (bl3_ HB GE465 GE471 GE472)⟩)
       ·skip
        rintro gb472 w17 ⟨hS_, h0_, h1_, h2_, h3_, h4_, h5_, h6_⟩
        have n0_ : Aside0 (w17.heap[gb465]? = some (.cells #[iv_ a0_0, .slice A0_1 l0_1.length c0_1, .slice A0_2 l0_2.length c0_2, iv_ a0_3, iv_ a0_4, iv_ a0_5, iv_ a0_6, iv_ a0_7, .slice A0_8 l0_8.length c0_8, iv_ a0_9] 28 (0, 0))) := ⟨h0_⟩
        have n1_ : Aside0 (w17.heap[gb472]? = some (.cells #[iv_ 0, iv_ 0] 35 (0, 0))) := ⟨h1_⟩
        have n2_ : Aside0 (w.heap.size ≤ gb472) := ⟨h2_⟩
        have n3_ : Aside0 (w.heap.size ≤ gb472) := ⟨h3_⟩
        have n4_ : Aside0 (gb465 ≠ gb472) := ⟨h4_⟩
        have n5_ : Aside0 (gb472 ≠ gb465) := ⟨h5_⟩
        have n6_ : Aside0 (Below w.heap.size w w17) := ⟨h6_⟩
        clear BK465
        clear HB
        clear h0_ h1_ h2_ h3_ h4_ h5_ h6_
        have BK465 := n0_
        have BK472 := n1_
        have GW472 := n2_
        have GE472 := n3_
        have NB465_472 := n4_
        have NB472_465 := n5_
        have HB := n6_
        clear n0_ n1_ n2_ n3_ n4_ n5_ n6_
        have hHeld : Cz10 w17 gb465 (iv_ a0_0) (.slice A0_1 l0_1.length c0_1) (.slice A0_2 l0_2.length c0_2) (iv_ a0_3) (iv_ a0_4) (iv_ a0_5) (iv_ a0_6) (iv_ a0_7) (.slice A0_8 l0_8.length c0_8) (iv_ a0_9) := hS_
        refine norm_ (a' := ?_) ?_ ?_
        rotate_left
        ·simp only [putAll, Act.put, List.setIfInBounds_toArray, List.set_cons_zero, List.set_cons_succ]
         rfl
        refine two_ (i := 11) (j := 12) (Ni := some 25) (Nj := some 9) (bo_ 17 12287) (bo_ 17 14335) rfl rfl rfl rfl (two_of HT_.out (by kernel_rfl)) (by decide) (by decide) (fun K hK => ?_) (fun K hK => ?_)
        ·skip
         refine goes_ Try.func11 (by kernel_rfl) rfl #[.agg #[iv_ a0_0, .slice A0_1 l0_1.length c0_1, .slice A0_2 l0_2.length c0_2, iv_ a0_3, iv_ a0_4, iv_ a0_5, iv_ a0_6, iv_ a0_7, .slice A0_8 l0_8.length c0_8, iv_ a0_9], iv_ a1, iv_ a2] (by rfl) rfl rfl mp_ ?_
         with_reducible refine (impl_LimitOf.calls k a0_0 _ _ l0_1 _ _ l0_2 a0_3 a0_4 a0_5 a0_6 a0_7 _ _ l0_8 a0_9 a1 a2 t470 _ ?side1 ?side2 ?side3 ?side4 ?side5 ?side6 A7.out).mono ?_
         (case side1 => exact ck_ HR0_1 HB)
         (case side2 => exact HC0_1.out)
         (case side3 => exact ck_ HR0_2 HB)
         (case side4 => exact HC0_2.out)
         (case side5 => exact ck_ HR0_8 HB)
         (case side6 => exact HC0_8.out)
         rintro e w18 ⟨rfl, hb⟩
         refine ⟨_, rfl, sh3_ (blk_below (bk_ BK465) hb) (blk_below (bk_ BK472) hb) (below_step (bl2_ HB GE465 GE472) hb) ?_⟩
         clear BK465 BK472 HB hb
         intro BK465 BK472 HB
         refine hK.out _ _ (cz10_ BK465) (fun hHeld => ?_)
         clear hK K
         refine norm_ (show Act.put _ (some 25) _ = _ from pt_) ?_
         exact norm_ pa_ (hJ3_7_11_13 (gb472) _ ⟨hHeld, (bk_ BK465), (bk_ BK472), GW472.out, GE472.out, NB465_472.out, NB472_465.out, (bl2_ HB GE465 GE472)⟩)
        ·skip
         refine bxs_ 9 35 #[iv_ 0, iv_ 0] ?_
         intro gb471 hg w18 hbox hb
         refine sh10_ (blk_below (bk_ BK465) hb) (blk_below (bk_ BK472) hb) (below_step (bl2_ HB GE465 GE472) hb) hbox (ge_ hg (bl2_ HB GE465 GE472)) (ge_ hg (bl2_ HB GE465 GE472)) (nl_ hg (bk_ BK465)) (ng_ hg (bk_ BK465)) (nl_ hg (bk_ BK472)) (ng_ hg (bk_ BK472)) ?_
         clear BK465 BK472 HB hb hbox hg
         intro BK465 BK472 HB BK471 GW471 GE471 NB465_471 NB471_465 NB472_471 NB471_472
         refine hK.out _ _ (cz10_ BK465) (fun hHeld => ?_)
         clear hK K
         refine norm_ (show Act.put _ (some 9) _ = _ from pt_) ?_
         exact norm_ pa_ (hJ3_7_12_13 (gb471, gb472) _ ⟨hHeld, (bk_ BK465), (bk_ BK471), (bk_ BK472), GW471.out, GE471.out, NB465_471.out, NB471_465.out, NB472_471.out, NB471_472.out, GW472.out, GE472.out, NB465_472.out, NB472_465.out, (bl3_ HB GE465 GE472 GE471)⟩)
      ·skip
       rintro gb471 w17 ⟨hS_, h0_, h1_, h2_, h3_, h4_, h5_, h6_⟩
       have n0_ : Aside0 (w17.heap[gb465]? = some (.cells #[iv_ a0_0, .slice A0_1 l0_1.length c0_1, .slice A0_2 l0_2.length c0_2, iv_ a0_3, iv_ a0_4, iv_ a0_5, iv_ a0_6, iv_ a0_7, .slice A0_8 l0_8.length c0_8, iv_ a0_9] 28 (0, 0))) := ⟨h0_⟩
       have n1_ : Aside0 (w17.heap[gb471]? = some (.cells #[iv_ 0, iv_ 0] 35 (0, 0))) := ⟨h1_⟩
       have n2_ : Aside0 (w.heap.size ≤ gb471) := ⟨h2_⟩
       have n3_ : Aside0 (w.heap.size ≤ gb471) := ⟨h3_⟩
       have n4_ : Aside0 (gb465 ≠ gb471) := ⟨h4_⟩
       have n5_ : Aside0 (gb471 ≠ gb465) := ⟨h5_⟩
       have n6_ : Aside0 (Below w.heap.size w w17) := ⟨h6_⟩
       clear BK465
       clear HB
       clear h0_ h1_ h2_ h3_ h4_ h5_ h6_
       have BK465 := n0_
       have BK471 := n1_
       have GW471 := n2_
       have GE471 := n3_
       have NB465_471 := n4_
       have NB471_465 := n5_
       have HB := n6_
       clear n0_ n1_ n2_ n3_ n4_ n5_ n6_
       have hHeld : Cz10 w17 gb465 (iv_ a0_0) (.slice A0_1 l0_1.length c0_1) (.slice A0_2 l0_2.length c0_2) (iv_ a0_3) (iv_ a0_4) (iv_ a0_5) (iv_ a0_6) (iv_ a0_7) (.slice A0_8 l0_8.length c0_8) (iv_ a0_9) := hS_
       refine norm_ (a' := ?_) ?_ ?_
       rotate_left
       ·simp only [putAll, Act.put, List.setIfInBounds_toArray, List.set_cons_zero, List.set_cons_succ]
        rfl
       refine two_ (i := 11) (j := 13) (Ni := some 25) (Nj := some 10) (bo_ 17 8191) (bo_ 17 14335) rfl rfl rfl rfl (two_of HT_.out (by kernel_rfl)) (by decide) (by decide) (fun K hK => ?_) (fun K hK => ?_)
       ·skip
        refine goes_ Try.func11 (by kernel_rfl) rfl #[.agg #[iv_ a0_0, .slice A0_1 l0_1.length c0_1, .slice A0_2 l0_2.length c0_2, iv_ a0_3, iv_ a0_4, iv_ a0_5, iv_ a0_6, iv_ a0_7, .slice A0_8 l0_8.length c0_8, iv_ a0_9], iv_ a1, iv_ a2] (by rfl) rfl rfl mp_ ?_
        with_reducible refine (impl_LimitOf.calls k a0_0 _ _ l0_1 _ _ l0_2 a0_3 a0_4 a0_5 a0_6 a0_7 _ _ l0_8 a0_9 a1 a2 t470 _ ?side1 ?side2 ?side3 ?side4 ?side5 ?side6 A7.out).mono ?_
        (case side1 => exact ck_ HR0_1 HB)
        (case side2 => exact HC0_1.out)
        (case side3 => exact ck_ HR0_2 HB)
        (case side4 => exact HC0_2.out)
        (case side5 => exact ck_ HR0_8 HB)
        (case side6 => exact HC0_8.out)
        rintro e w18 ⟨rfl, hb⟩
        refine ⟨_, rfl, sh3_ (blk_below (bk_ BK465) hb) (blk_below (bk_ BK471) hb) (below_step (bl2_ HB GE465 GE471) hb) ?_⟩
        clear BK465 BK471 HB hb
        intro BK465 BK471 HB
        refine hK.out _ _ (cz10_ BK465) (fun hHeld => ?_)
        clear hK K
        refine norm_ (show Act.put _ (some 25) _ = _ from pt_) ?_
        exact norm_ pa_ (hJ3_7_11_12 (gb471) _ ⟨hHeld, (bk_ BK465), (bk_ BK471), GW471.out, GE471.out, NB465_471.out, NB471_465.out, (bl2_ HB GE465 GE471)⟩)
       ·skip
        refine bxs_ 10 35 #[iv_ 0, iv_ 0] ?_
        intro gb472 hg w18 hbox hb
        refine sh10_ (blk_below (bk_ BK465) hb) (blk_below (bk_ BK471) hb) (below_step (bl2_ HB GE465 GE471) hb) hbox (ge_ hg (bl2_ HB GE465 GE471)) (ge_ hg (bl2_ HB GE465 GE471)) (nl_ hg (bk_ BK465)) (ng_ hg (bk_ BK465)) (nl_ hg (bk_ BK471)) (ng_ hg (bk_ BK471)) ?_
        clear BK465 BK471 HB hb hbox hg
        intro BK465 BK471 HB BK472 GW472 GE472 NB465_472 NB472_465 NB471_472 NB472_471
        refine hK.out _ _ (cz10_ BK465) (fun hHeld => ?_)
        clear hK K
        refine norm_ (show Act.put _ (some 10) _ = _ from pt_) ?_
        exact norm_ pa_ (hJ3_7_12_13 (gb471, gb472) _ ⟨hHeld, (bk_ BK465), (bk_ BK471), (bk_ BK472), GW471.out, GE471.out, NB465_471.out, NB471_465.out, NB472_471.out, NB471_472.out, GW472.out, GE472.out, NB465_472.out, NB472_465.out, (bl3_ HB GE465 GE471 GE472)⟩)
     ·skip
      rintro _ w17 ⟨hS_, h0_, h1_⟩
      have n0_ : Aside0 (w17.heap[gb465]? = some (.cells #[iv_ a0_0, .slice A0_1 l0_1.length c0_1, .slice A0_2 l0_2.length c0_2, iv_ a0_3, iv_ a0_4, iv_ a0_5, iv_ a0_6, iv_ a0_7, .slice A0_8 l0_8.length c0_8, iv_ a0_9] 28 (0, 0))) := ⟨h0_⟩
      have n1_ : Aside0 (Below w.heap.size w w17) := ⟨h1_⟩
      clear BK465
      clear HB
      clear h0_ h1_
      have BK465 := n0_
      have HB := n1_
      clear n0_ n1_
      have hHeld : Cz10 w17 gb465 (iv_ a0_0) (.slice A0_1 l0_1.length c0_1) (.slice A0_2 l0_2.length c0_2) (iv_ a0_3) (iv_ a0_4) (iv_ a0_5) (iv_ a0_6) (iv_ a0_7) (.slice A0_8 l0_8.length c0_8) (iv_ a0_9) := hS_
      refine norm_ (a' := ?_) ?_ ?_
      rotate_left
      ·simp only [putAll, Act.put, List.setIfInBounds_toArray, List.set_cons_zero, List.set_cons_succ]
       rfl
      refine two_ (i := 12) (j := 13) (Ni := some 9) (Nj := some 10) (bo_ 17 8191) (bo_ 17 12287) rfl rfl rfl rfl (two_of HT_.out (by kernel_rfl)) (by decide) (by decide) (fun K hK => ?_) (fun K hK => ?_)
      ·skip
       refine bxs_ 9 35 #[iv_ 0, iv_ 0] ?_
       intro gb471 hg w18 hbox hb
       refine sh7_ (blk_below (bk_ BK465) hb) (below_step (bl1_ HB GE465) hb) hbox (ge_ hg (bl1_ HB GE465)) (ge_ hg (bl1_ HB GE465)) (nl_ hg (bk_ BK465)) (ng_ hg (bk_ BK465)) ?_
       clear BK465 HB hb hbox hg
       intro BK465 HB BK471 GW471 GE471 NB465_471 NB471_465
       refine hK.out _ _ (cz10_ BK465) (fun hHeld => ?_)
       clear hK K
       refine norm_ (show Act.put _ (some 9) _ = _ from pt_) ?_
       exact norm_ pa_ (hJ3_7_11_12 (gb471) _ ⟨hHeld, (bk_ BK465), (bk_ BK471), GW471.out, GE471.out, NB465_471.out, NB471_465.out, (bl2_ HB GE465 GE471)⟩)
      ·skip
       refine bxs_ 10 35 #[iv_ 0, iv_ 0] ?_
       intro gb472 hg w18 hbox hb
       refine sh7_ (blk_below (bk_ BK465) hb) (below_step (bl1_ HB GE465) hb) hbox (ge_ hg (bl1_ HB GE465)) (ge_ hg (bl1_ HB GE465)) (nl_ hg (bk_ BK465)) (ng_ hg (bk_ BK465)) ?_
       clear BK465 HB hb hbox hg
       intro BK465 HB BK472 GW472 GE472 NB465_472 NB472_465
       refine hK.out _ _ (cz10_ BK465) (fun hHeld => ?_)
       clear hK K
       refine norm_ (show Act.put _ (some 10) _ = _ from pt_) ?_
       exact norm_ pa_ (hJ3_7_11_13 (gb472) _ ⟨hHeld, (bk_ BK465), (bk_ BK472), GW472.out, GE472.out, NB465_472.out, NB472_465.out, (bl2_ HB GE465 GE472)⟩)
    ·skip
     rintro ⟨gb471, gb472⟩ w18 ⟨hS_, h0_, h1_, h2_, h3_, h4_, h5_, h6_, h7_, h8_, h9_, h10_, h11_, h12_, h13_⟩
     have n0_ : Aside0 (w18.heap[gb465]? = some (.cells #[iv_ a0_0, .slice A0_1 l0_1.length c0_1, .slice A0_2 l0_2.length c0_2, iv_ a0_3, iv_ a0_4, iv_ a0_5, iv_ a0_6, iv_ a0_7, .slice A0_8 l0_8.length c0_8, iv_ a0_9] 28 (0, 0))) := ⟨h0_⟩
     have n1_ : Aside0 (w18.heap[gb471]? = some (.cells #[iv_ 0, iv_ 0] 35 (0, 0))) := ⟨h1_⟩
     have n2_ : Aside0 (w18.heap[gb472]? = some (.cells #[iv_ 0, iv_ 0] 35 (0, 0))) := ⟨h2_⟩
     have n3_ : Aside0 (w.heap.size ≤ gb471) := ⟨h3_⟩
     have n4_ : Aside0 (w.heap.size ≤ gb471) := ⟨h4_⟩
     have n5_ : Aside0 (gb465 ≠ gb471) := ⟨h5_⟩
     have n6_ : Aside0 (gb471 ≠ gb465) := ⟨h6_⟩
     have n7_ : Aside0 (gb472 ≠ gb471) := ⟨h7_⟩
     have n8_ : Aside0 (gb471 ≠ gb472) := ⟨h8_⟩
     have n9_ : Aside0 (w.heap.size ≤ gb472) := ⟨h9_⟩
     have n10_ : Aside0 (w.heap.size ≤ gb472) := ⟨h10_⟩
     have n11_ : Aside0 (gb465 ≠ gb472) := ⟨h11_⟩
     have n12_ : Aside0 (gb472 ≠ gb465) := ⟨h12_⟩
     have n13_ : Aside0 (Below w.heap.size w w18) := ⟨h13_⟩
     clear BK465
     clear HB
     clear h0_ h1_ h2_ h3_ h4_ h5_ h6_ h7_ h8_ h9_ h10_ h11_ h12_ h13_
     have BK465 := n0_
     have BK471 := n1_
     have BK472 := n2_
     have GW471 := n3_
     have GE471 := n4_
     have NB465_471 := n5_
     have NB471_465 := n6_
     have NB472_471 := n7_
     have NB471_472 := n8_
     have GW472 := n9_
     have GE472 := n10_
     have NB465_472 := n11_
     have NB472_465 := n12_
     have HB := n13_
     clear n0_ n1_ n2_ n3_ n4_ n5_ n6_ n7_ n8_ n9_ n10_ n11_ n12_ n13_
     have hHeld : Cz10 w18 gb465 (iv_ a0_0) (.slice A0_1 l0_1.length c0_1) (.slice A0_2 l0_2.length c0_2) (iv_ a0_3) (iv_ a0_4) (iv_ a0_5) (iv_ a0_6) (iv_ a0_7) (.slice A0_8 l0_8.length c0_8) (iv_ a0_9) := hS_
     refine norm_ (a' := ?_) ?_ ?_
     rotate_left
     ·simp only [putAll, Act.put, List.setIfInBounds_toArray, List.set_cons_zero, List.set_cons_succ]
      rfl
     refine onc_ 11 (bo_ 17 16383) (some 25) HT_ Try.func11 (impl_LimitOf.calls k a0_0 _ _ l0_1 _ _ l0_2 a0_3 a0_4 a0_5 a0_6 a0_7 _ _ l0_8 a0_9 a1 a2 t470 _ (ck_ HR0_1 HB) HC0_1.out (ck_ HR0_2 HB) HC0_2.out (ck_ HR0_8 HB) HC0_8.out A7.out) ?_
     rintro e w19 ⟨rfl, hb⟩
     refine sh4_ (blk_below (bk_ BK465) hb) (blk_below (bk_ BK471) hb) (blk_below (bk_ BK472) hb) (below_step (bl3_ HB GE465 GE471 GE472) hb) ?_
     clear BK465 BK471 BK472 HB hb
     intro BK465 BK471 BK472 HB
     refine ⟨_, _, rfl, (cz10_ BK465), pt_, fun hHeld => ?_⟩
     exact norm_ pa_ (hJ3_7_11_12_13 (gb471, gb472) _ ⟨hHeld, (bk_ BK465), (bk_ BK471), (bk_ BK472), GW471.out, GE471.out, NB465_471.out, NB471_465.out, NB472_471.out, NB471_472.out, GW472.out, GE472.out, NB465_472.out, NB472_465.out, (bl3_ HB GE465 GE471 GE472)⟩)
   ·skip
    rintro gb472 w18 ⟨hS_, h0_, h1_, h2_, h3_, h4_, h5_, h6_⟩
    have n0_ : Aside0 (w18.heap[gb465]? = some (.cells #[iv_ a0_0, .slice A0_1 l0_1.length c0_1, .slice A0_2 l0_2.length c0_2, iv_ a0_3, iv_ a0_4, iv_ a0_5, iv_ a0_6, iv_ a0_7, .slice A0_8 l0_8.length c0_8, iv_ a0_9] 28 (0, 0))) := ⟨h0_⟩
    have n1_ : Aside0 (w18.heap[gb472]? = some (.cells #[iv_ 0, iv_ 0] 35 (0, 0))) := ⟨h1_⟩
    have n2_ : Aside0 (w.heap.size ≤ gb472) := ⟨h2_⟩
    have n3_ : Aside0 (w.heap.size ≤ gb472) := ⟨h3_⟩
    have n4_ : Aside0 (gb465 ≠ gb472) := ⟨h4_⟩
    have n5_ : Aside0 (gb472 ≠ gb465) := ⟨h5_⟩
    have n6_ : Aside0 (Below w.heap.size w w18) := ⟨h6_⟩
    clear BK465
    clear HB
    clear h0_ h1_ h2_ h3_ h4_ h5_ h6_
    have BK465 := n0_
    have BK472 := n1_
    have GW472 := n2_
    have GE472 := n3_
    have NB465_472 := n4_
    have NB472_465 := n5_
    have HB := n6_
    clear n0_ n1_ n2_ n3_ n4_ n5_ n6_
    have hHeld : Cz10 w18 gb465 (iv_ a0_0) (.slice A0_1 l0_1.length c0_1) (.slice A0_2 l0_2.length c0_2) (iv_ a0_3) (iv_ a0_4) (iv_ a0_5) (iv_ a0_6) (iv_ a0_7) (.slice A0_8 l0_8.length c0_8) (iv_ a0_9) := hS_
    refine norm_ (a' := ?_) ?_ ?_
    rotate_left
    ·simp only [putAll, Act.put, List.setIfInBounds_toArray, List.set_cons_zero, List.set_cons_succ]
     rfl
    refine one_ (i := 12) (N := some 9) (bo_ 17 16383) rfl rfl (one_of HT_.out (by kernel_rfl)) (by decide) (fun K hK => ?_)
    refine bxs_ 9 35 #[iv_ 0, iv_ 0] ?_
    intro gb471 hg w19 hbox hb
    refine sh10_ (blk_below (bk_ BK465) hb) (blk_below (bk_ BK472) hb) (below_step (bl2_ HB GE465 GE472) hb) hbox (ge_ hg (bl2_ HB GE465 GE472)) (ge_ hg (bl2_ HB GE465 GE472)) (nl_ hg (bk_ BK465)) (ng_ hg (bk_ BK465)) (nl_ hg (bk_ BK472)) (ng_ hg (bk_ BK472)) ?_
    clear BK465 BK472 HB hb hbox hg
    intro BK465 BK472 HB BK471 GW471 GE471 NB465_471 NB471_465 NB472_471 NB471_472
    refine hK.out _ _ (cz10_ BK465) (fun hHeld => ?_)
    clear hK K
    refine norm_ (show Act.put _ (some 9) _ = _ from pt_) ?_
    exact norm_ pa_ (hJ3_7_11_12_13 (gb471, gb472) _ ⟨hHeld, (bk_ BK465), (bk_ BK471), (bk_ BK472), GW471.out, GE471.out, NB465_471.out, NB471_465.out, NB472_471.out, NB471_472.out, GW472.out, GE472.out, NB465_472.out, NB472_465.out, (bl3_ HB GE465 GE472 GE471)⟩)
  ·skip
   rintro gb471 w18 ⟨hS_, h0_, h1_, h2_, h3_, h4_, h5_, h6_⟩
   have n0_ : Aside0 (w18.heap[gb465]? = some (.cells #[iv_ a0_0, .slice A0_1 l0_1.length c0_1, .slice A0_2 l0_2.length c0_2, iv_ a0_3, iv_ a0_4, iv_ a0_5, iv_ a0_6, iv_ a0_7, .slice A0_8 l0_8.length c0_8, iv_ a0_9] 28 (0, 0))) := ⟨h0_⟩
   have n1_ : Aside0 (w18.heap[gb471]? = some (.cells #[iv_ 0, iv_ 0] 35 (0, 0))) := ⟨h1_⟩
   have n2_ : Aside0 (w.heap.size ≤ gb471) := ⟨h2_⟩
   have n3_ : Aside0 (w.heap.size ≤ gb471) := ⟨h3_⟩
   have n4_ : Aside0 (gb465 ≠ gb471) := ⟨h4_⟩
   have n5_ : Aside0 (gb471 ≠ gb465) := ⟨h5_⟩
   have n6_ : Aside0 (Below w.heap.size w w18) := ⟨h6_⟩
   clear BK465
   clear HB
   clear h0_ h1_ h2_ h3_ h4_ h5_ h6_
   have BK465 := n0_
   have BK471 := n1_
   have GW471 := n2_
   have GE471 := n3_
   have NB465_471 := n4_
   have NB471_465 := n5_
   have HB := n6_
   clear n0_ n1_ n2_ n3_ n4_ n5_ n6_
   have hHeld : Cz10 w18 gb465 (iv_ a0_0) (.slice A0_1 l0_1.length c0_1) (.slice A0_2 l0_2.length c0_2) (iv_ a0_3) (iv_ a0_4) (iv_ a0_5) (iv_ a0_6) (iv_ a0_7) (.slice A0_8 l0_8.length c0_8) (iv_ a0_9) := hS_
   refine norm_ (a' := ?_) ?_ ?_
   rotate_left
   ·simp only [putAll, Act.put, List.setIfInBounds_toArray, List.set_cons_zero, List.set_cons_succ]
    rfl
   refine one_ (i := 13) (N := some 10) (bo_ 17 16383) rfl rfl (one_of HT_.out (by kernel_rfl)) (by decide) (fun K hK => ?_)
   refine bxs_ 10 35 #[iv_ 0, iv_ 0] ?_
   intro gb472 hg w19 hbox hb
   refine sh10_ (blk_below (bk_ BK465) hb) (blk_below (bk_ BK471) hb) (below_step (bl2_ HB GE465 GE471) hb) hbox (ge_ hg (bl2_ HB GE465 GE471)) (ge_ hg (bl2_ HB GE465 GE471)) (nl_ hg (bk_ BK465)) (ng_ hg (bk_ BK465)) (nl_ hg (bk_ BK471)) (ng_ hg (bk_ BK471)) ?_
   clear BK465 BK471 HB hb hbox hg
   intro BK465 BK471 HB BK472 GW472 GE472 NB465_472 NB472_465 NB471_472 NB472_471
   refine hK.out _ _ (cz10_ BK465) (fun hHeld => ?_)
   clear hK K
   refine norm_ (show Act.put _ (some 10) _ = _ from pt_) ?_
   exact norm_ pa_ (hJ3_7_11_12_13 (gb471, gb472) _ ⟨hHeld, (bk_ BK465), (bk_ BK471), (bk_ BK472), GW471.out, GE471.out, NB465_471.out, NB471_465.out, NB472_471.out, NB471_472.out, GW472.out, GE472.out, NB465_472.out, NB472_465.out, (bl3_ HB GE465 GE471 GE472)⟩)
 rintro ⟨gb471, gb472⟩ w19 ⟨hS_, h0_, h1_, h2_, h3_, h4_, h5_, h6_, h7_, h8_, h9_, h10_, h11_, h12_, h13_⟩
 have n0_ : Aside0 (w19.heap[gb465]? = some (.cells #[iv_ a0_0, .slice A0_1 l0_1.length c0_1, .slice A0_2 l0_2.length c0_2, iv_ a0_3, iv_ a0_4, iv_ a0_5, iv_ a0_6, iv_ a0_7, .slice A0_8 l0_8.length c0_8, iv_ a0_9] 28 (0, 0))) := ⟨h0_⟩
 have n1_ : Aside0 (w19.heap[gb471]? = some (.cells #[iv_ 0, iv_ 0] 35 (0, 0))) := ⟨h1_⟩
 have n2_ : Aside0 (w19.heap[gb472]? = some (.cells #[iv_ 0, iv_ 0] 35 (0, 0))) := ⟨h2_⟩
 have n3_ : Aside0 (w.heap.size ≤ gb471) := ⟨h3_⟩
 have n4_ : Aside0 (w.heap.size ≤ gb471) := ⟨h4_⟩
 have n5_ : Aside0 (gb465 ≠ gb471) := ⟨h5_⟩
 have n6_ : Aside0 (gb471 ≠ gb465) := ⟨h6_⟩
 have n7_ : Aside0 (gb472 ≠ gb471) := ⟨h7_⟩
 have n8_ : Aside0 (gb471 ≠ gb472) := ⟨h8_⟩
 have n9_ : Aside0 (w.heap.size ≤ gb472) := ⟨h9_⟩
 have n10_ : Aside0 (w.heap.size ≤ gb472) := ⟨h10_⟩
 have n11_ : Aside0 (gb465 ≠ gb472) := ⟨h11_⟩
 have n12_ : Aside0 (gb472 ≠ gb465) := ⟨h12_⟩
 have n13_ : Aside0 (Below w.heap.size w w19) := ⟨h13_⟩
 clear BK465
 clear HB
 clear h0_ h1_ h2_ h3_ h4_ h5_ h6_ h7_ h8_ h9_ h10_ h11_ h12_ h13_
 have BK465 := n0_
 have BK471 := n1_
 have BK472 := n2_
 have GW471 := n3_
 have GE471 := n4_
 have NB465_471 := n5_
 have NB471_465 := n6_
 have NB472_471 := n7_
 have NB471_472 := n8_
 have GW472 := n9_
 have GE472 := n10_
 have NB465_472 := n11_
 have NB472_465 := n12_
 have HB := n13_
 clear n0_ n1_ n2_ n3_ n4_ n5_ n6_ n7_ n8_ n9_ n10_ n11_ n12_ n13_
 have hHeld : Cz10 w19 gb465 (iv_ a0_0) (.slice A0_1 l0_1.length c0_1) (.slice A0_2 l0_2.length c0_2) (iv_ a0_3) (iv_ a0_4) (iv_ a0_5) (iv_ a0_6) (iv_ a0_7) (.slice A0_8 l0_8.length c0_8) (iv_ a0_9) := hS_
 refine norm_ (a' := ?_) ?_ ?_
 rotate_left
 ·simp only [putAll, Act.put, List.setIfInBounds_toArray, List.set_cons_zero, List.set_cons_succ]
  rfl
 refine one_ (i := 14) (N := none) (bo_ 17 32767) rfl rfl (one_of HT_.out (by kernel_rfl)) (by decide) (fun K hK => ?_)
 have hs20 : w19.cell? ⟨gb471, 0, none⟩ = some (iv_ 0) := bc_ BK471 0 rfl
 have hfs20 := bf_ BK471 0
 have hns20_0 := NB465_471.out
 have hns20_2 := NB472_471.out
 have hms20_0 := NB471_465.out
 have hms20_2 := NB471_472.out
 have hs21 : w19.cell? ⟨gb471, 1, none⟩ = some (iv_ 0) := bc_ BK471 1 rfl
 have hfs21 := bf_ BK471 1
 have hns21_0 := NB465_471.out
 have hns21_2 := NB472_471.out
 have hms21_0 := NB471_465.out
 have hms21_2 := NB471_472.out
 refine skip_ (w1 := ?_) (by rfl) rfl ?_ ?_
 rotate_left
 ·go_simp
  rfl
 refine hK.out _ _ ⟨((cell_far (p := ⟨gb471, _, none⟩) NB465_471.out _).trans (((cell_far (p := ⟨gb471, _, none⟩) NB465_471.out _).trans (hHeld.1)))), ((cell_far (p := ⟨gb471, _, none⟩) NB465_471.out _).trans (((cell_far (p := ⟨gb471, _, none⟩) NB465_471.out _).trans (hHeld.2.1)))), ((cell_far (p := ⟨gb471, _, none⟩) NB465_471.out _).trans (((cell_far (p := ⟨gb471, _, none⟩) NB465_471.out _).trans (hHeld.2.2.1)))), ((cell_far (p := ⟨gb471, _, none⟩) NB465_471.out _).trans (((cell_far (p := ⟨gb471, _, none⟩) NB465_471.out _).trans (hHeld.2.2.2.1)))), ((cell_far (p := ⟨gb471, _, none⟩) NB465_471.out _).trans (((cell_far (p := ⟨gb471, _, none⟩) NB465_471.out _).trans (hHeld.2.2.2.2.1)))), ((cell_far (p := ⟨gb471, _, none⟩) NB465_471.out _).trans (((cell_far (p := ⟨gb471, _, none⟩) NB465_471.out _).trans (hHeld.2.2.2.2.2.1)))), ((cell_far (p := ⟨gb471, _, none⟩) NB465_471.out _).trans (((cell_far (p := ⟨gb471, _, none⟩) NB465_471.out _).trans (hHeld.2.2.2.2.2.2.1)))), ((cell_far (p := ⟨gb471, _, none⟩) NB465_471.out _).trans (((cell_far (p := ⟨gb471, _, none⟩) NB465_471.out _).trans (hHeld.2.2.2.2.2.2.2.1)))), ((cell_far (p := ⟨gb471, _, none⟩) NB465_471.out _).trans (((cell_far (p := ⟨gb471, _, none⟩) NB465_471.out _).trans (hHeld.2.2.2.2.2.2.2.2.1)))), ((cell_far (p := ⟨gb471, _, none⟩) NB465_471.out _).trans (((cell_far (p := ⟨gb471, _, none⟩) NB465_471.out _).trans (hHeld.2.2.2.2.2.2.2.2.2))))⟩ (fun hHeld => ?_)
 clear hK K
 refine one_ (i := 15) (N := none) (bo_ 17 65535) rfl rfl (one_of HT_.out (by kernel_rfl)) (by decide) (fun K hK => ?_)
 have hs22 : w19.cell? ⟨gb472, 0, none⟩ = some (iv_ 0) := bc_ BK472 0 rfl
 have hfs22 := bf_ BK472 0
 have hns22_0 := NB465_472.out
 have hns22_1 := NB471_472.out
 have hms22_0 := NB472_465.out
 have hms22_1 := NB472_471.out
 have hs23 : w19.cell? ⟨gb472, 1, none⟩ = some (iv_ 0) := bc_ BK472 1 rfl
 have hfs23 := bf_ BK472 1
 have hns23_0 := NB465_472.out
 have hns23_1 := NB471_472.out
 have hms23_0 := NB472_465.out
 have hms23_1 := NB472_471.out
 refine skip_ (w1 := ?_) (by rfl) rfl ?_ ?_
 rotate_left
 ·go_simp
  rfl
 refine hK.out _ _ ⟨((cell_far (p := ⟨gb472, _, none⟩) NB465_472.out _).trans (((cell_far (p := ⟨gb472, _, none⟩) NB465_472.out _).trans (hHeld.1)))), ((cell_far (p := ⟨gb472, _, none⟩) NB465_472.out _).trans (((cell_far (p := ⟨gb472, _, none⟩) NB465_472.out _).trans (hHeld.2.1)))), ((cell_far (p := ⟨gb472, _, none⟩) NB465_472.out _).trans (((cell_far (p := ⟨gb472, _, none⟩) NB465_472.out _).trans (hHeld.2.2.1)))), ((cell_far (p := ⟨gb472, _, none⟩) NB465_472.out _).trans (((cell_far (p := ⟨gb472, _, none⟩) NB465_472.out _).trans (hHeld.2.2.2.1)))), ((cell_far (p := ⟨gb472, _, none⟩) NB465_472.out _).trans (((cell_far (p := ⟨gb472, _, none⟩) NB465_472.out _).trans (hHeld.2.2.2.2.1)))), ((cell_far (p := ⟨gb472, _, none⟩) NB465_472.out _).trans (((cell_far (p := ⟨gb472, _, none⟩) NB465_472.out _).trans (hHeld.2.2.2.2.2.1)))), ((cell_far (p := ⟨gb472, _, none⟩) NB465_472.out _).trans (((cell_far (p := ⟨gb472, _, none⟩) NB465_472.out _).trans (hHeld.2.2.2.2.2.2.1)))), ((cell_far (p := ⟨gb472, _, none⟩) NB465_472.out _).trans (((cell_far (p := ⟨gb472, _, none⟩) NB465_472.out _).trans (hHeld.2.2.2.2.2.2.2.1)))), ((cell_far (p := ⟨gb472, _, none⟩) NB465_472.out _).trans (((cell_far (p := ⟨gb472, _, none⟩) NB465_472.out _).trans (hHeld.2.2.2.2.2.2.2.2.1)))), ((cell_far (p := ⟨gb472, _, none⟩) NB465_472.out _).trans (((cell_far (p := ⟨gb472, _, none⟩) NB465_472.out _).trans (hHeld.2.2.2.2.2.2.2.2.2))))⟩ (fun hHeld => ?_)
 clear hK K
 refine pur_ 16 (bo_ 17 131071) (some 11) HT_ ?_
 refine done_ (done_of HT_.out (by kernel_rfl)) ?_
 try go_wp2
 have n0_ : Aside0 (((((w19.setCell ⟨gb471, 0, none⟩ (iv_ t466)).setCell ⟨gb471, 1, none⟩ (iv_ t467)).setCell ⟨gb472, 0, none⟩ (iv_ t468)).setCell ⟨gb472, 1, none⟩ (iv_ t469)).heap[gb465]? = some (.cells #[iv_ a0_0, .slice A0_1 l0_1.length c0_1, .slice A0_2 l0_2.length c0_2, iv_ a0_3, iv_ a0_4, iv_ a0_5, iv_ a0_6, iv_ a0_7, .slice A0_8 l0_8.length c0_8, iv_ a0_9] 28 (0, 0))) := ⟨by (with_reducible repeat (first | refine blk_drewN ?_ _ | refine blk_drew ?_ | refine blk_alloc ?_ _)); refine blk_far ?_ NB465_472.out _; (with_reducible repeat (first | refine blk_drewN ?_ _ | refine blk_drew ?_ | refine blk_alloc ?_ _)); refine blk_far ?_ NB465_472.out _; (with_reducible repeat (first | refine blk_drewN ?_ _ | refine blk_drew ?_ | refine blk_alloc ?_ _)); refine blk_far ?_ NB465_471.out _; (with_reducible repeat (first | refine blk_drewN ?_ _ | refine blk_drew ?_ | refine blk_alloc ?_ _)); refine blk_far ?_ NB465_471.out _; (with_reducible repeat (first | refine blk_drewN ?_ _ | refine blk_drew ?_ | refine blk_alloc ?_ _)); exact BK465.out⟩
 have n1_ : Aside0 (((((w19.setCell ⟨gb471, 0, none⟩ (iv_ t466)).setCell ⟨gb471, 1, none⟩ (iv_ t467)).setCell ⟨gb472, 0, none⟩ (iv_ t468)).setCell ⟨gb472, 1, none⟩ (iv_ t469)).heap[gb471]? = some (.cells #[iv_ t466, iv_ t467] 35 (0, 0))) := ⟨by (with_reducible repeat (first | refine blk_drewN ?_ _ | refine blk_drew ?_ | refine blk_alloc ?_ _)); refine blk_far ?_ NB471_472.out _; (with_reducible repeat (first | refine blk_drewN ?_ _ | refine blk_drew ?_ | refine blk_alloc ?_ _)); refine blk_far ?_ NB471_472.out _; (with_reducible repeat (first | refine blk_drewN ?_ _ | refine blk_drew ?_ | refine blk_alloc ?_ _)); refine blk_put (cs := #[iv_ t466, iv_ 0]) ?_ 1 _ rfl; (with_reducible repeat (first | refine blk_drewN ?_ _ | refine blk_drew ?_ | refine blk_alloc ?_ _)); refine blk_put (cs := #[iv_ 0, iv_ 0]) ?_ 0 _ rfl; (with_reducible repeat (first | refine blk_drewN ?_ _ | refine blk_drew ?_ | refine blk_alloc ?_ _)); exact BK471.out⟩
 have n2_ : Aside0 (((((w19.setCell ⟨gb471, 0, none⟩ (iv_ t466)).setCell ⟨gb471, 1, none⟩ (iv_ t467)).setCell ⟨gb472, 0, none⟩ (iv_ t468)).setCell ⟨gb472, 1, none⟩ (iv_ t469)).heap[gb472]? = some (.cells #[iv_ t468, iv_ t469] 35 (0, 0))) := ⟨by (with_reducible repeat (first | refine blk_drewN ?_ _ | refine blk_drew ?_ | refine blk_alloc ?_ _)); refine blk_put (cs := #[iv_ t468, iv_ 0]) ?_ 1 _ rfl; (with_reducible repeat (first | refine blk_drewN ?_ _ | refine blk_drew ?_ | refine blk_alloc ?_ _)); refine blk_put (cs := #[iv_ 0, iv_ 0]) ?_ 0 _ rfl; (with_reducible repeat (first | refine blk_drewN ?_ _ | refine blk_drew ?_ | refine blk_alloc ?_ _)); refine blk_far ?_ NB472_471.out _; (with_reducible repeat (first | refine blk_drewN ?_ _ | refine blk_drew ?_ | refine blk_alloc ?_ _)); refine blk_far ?_ NB472_471.out _; (with_reducible repeat (first | refine blk_drewN ?_ _ | refine blk_drew ?_ | refine blk_alloc ?_ _)); exact BK472.out⟩
 have n3_ : Aside0 (Below w.heap.size w ((((w19.setCell ⟨gb471, 0, none⟩ (iv_ t466)).setCell ⟨gb471, 1, none⟩ (iv_ t467)).setCell ⟨gb472, 0, none⟩ (iv_ t468)).setCell ⟨gb472, 1, none⟩ (iv_ t469))) := ⟨bl3_ HB GE465 GE471 GE472⟩
 (try clear BK465)
 (try clear BK471)
 (try clear BK472)
 (try clear HB)
 generalize ((((w19.setCell ⟨gb471, 0, none⟩ (iv_ t466)).setCell ⟨gb471, 1, none⟩ (iv_ t467)).setCell ⟨gb472, 0, none⟩ (iv_ t468)).setCell ⟨gb472, 1, none⟩ (iv_ t469)) = w24 at n0_ n1_ n2_ n3_ ⊢
 have BK465 := n0_
 have BK471 := n1_
 have BK472 := n2_
 have HB := n3_
 clear n0_ n1_ n2_ n3_
 refine sh4_ (blk_drew BK465.out) (blk_drew BK471.out) (blk_drew BK472.out) (below_drew1 HB.out) ?_
 clear BK465 BK471 BK472 HB
 intro BK465 BK471 BK472 HB
 refine start_ (n := 13) (S := fun w' => Ck2 w' gb471 (iv_ t466) (iv_ t467) (Cz2 w' gb472 (iv_ t468) (iv_ t469))) (ds := []) (bo_ 13 0) (by kernel_rfl) rfl rfl ⟨(bc_ BK471 0 rfl), (bc_ BK471 1 rfl), cz2_ BK472⟩ (fun hHeld => ?_); refine with_tabW impl_SightAt.tab2 impl_SightAt.bits2 (fun HT_ HW_ => ?_)
 generalize w24.drew = w25 at BK465 BK471 BK472 HB hHeld ⊢
 refine pur_ 5 (bo_ 13 32) (some 31) HT_ ?_
 refine pur_ 7 (bo_ 13 160) (some 33) HT_ ?_
 refine tak_ 0 (bo_ 13 161) (some 26) HT_ HW_ hHeld ?_
 refine tak_ 2 (bo_ 13 165) (some 28) HT_ HW_ hHeld ?_
 refine tak_ 6 (bo_ 13 229) (some 32) HT_ HW_ hHeld ?_
 refine tak_ 8 (bo_ 13 485) (some 34) HT_ HW_ hHeld ?_
 refine pur_ 9 (bo_ 13 997) (some 35) HT_ ?_
 refine pur_ 10 (bo_ 13 2021) (some 36) HT_ ?_
 refine onc_ 1 (bo_ 13 2023) (some 27) HT_ Try.func51 (impl_MiddleOf.calls t466 t467 t473 _ A8.out) ?_
 rintro e w26 ⟨rfl, hb⟩
 refine sh4_ (blk_below (bk_ BK465) hb) (blk_below (bk_ BK471) hb) (blk_below (bk_ BK472) hb) (below_step (bl3_ HB GE465 GE471 GE472) hb) ?_
 clear BK465 BK471 BK472 HB hb
 intro BK465 BK471 BK472 HB
 refine ⟨_, _, rfl, ⟨(bc_ BK471 0 rfl), (bc_ BK471 1 rfl), cz2_ BK472⟩, pt_, fun hHeld => ?_⟩
 refine onc_ 3 (bo_ 13 2031) (some 29) HT_ Try.func51 (impl_MiddleOf.calls t468 t469 t474 _ A9.out) ?_
 rintro e w27 ⟨rfl, hb⟩
 refine sh4_ (blk_below (bk_ BK465) hb) (blk_below (bk_ BK471) hb) (blk_below (bk_ BK472) hb) (below_step (bl3_ HB GE465 GE471 GE472) hb) ?_
 clear BK465 BK471 BK472 HB hb
 intro BK465 BK471 BK472 HB
 refine ⟨_, _, rfl, ⟨(bc_ BK471 0 rfl), (bc_ BK471 1 rfl), cz2_ BK472⟩, pt_, fun hHeld => ?_⟩
 refine onc_ 4 (bo_ 13 2047) (some 30) HT_ Try.func14 (impl_GapOf.calls t473 t474 t475 _ A10.out) ?_
 rintro e w28 ⟨rfl, hb⟩
 refine sh4_ (blk_below (bk_ BK465) hb) (blk_below (bk_ BK471) hb) (blk_below (bk_ BK472) hb) (below_step (bl3_ HB GE465 GE471 GE472) hb) ?_
 clear BK465 BK471 BK472 HB hb
 intro BK465 BK471 BK472 HB
 refine ⟨_, _, rfl, ⟨(bc_ BK471 0 rfl), (bc_ BK471 1 rfl), cz2_ BK472⟩, pt_, fun hHeld => ?_⟩
 refine pur_ 11 (bo_ 13 4095) (some 12) HT_ ?_
 refine pur_ 12 (bo_ 13 8191) (some 13) HT_ ?_
 refine done_ (done_of HT_.out (by kernel_rfl)) ?_
 go_upto_region 3 with (fail)
 go_cut [37] (fun v37 wc => ∃ (kq : Nat) (x37_10 : Bool), v37 = .bool x37_10 ∧ Aside0 (impl_SightAt.j0 kq t470 t475 (wrap64 (Int.tdiv (wrap64 (t467 + t469)) 2)) x37_10 = some r) ∧ Aside0 (kq ≤ k) ∧ Aside0 (wc.heap[gb465]? = some (.cells #[iv_ a0_0, (.slice A0_1 l0_1.length c0_1), (.slice A0_2 l0_2.length c0_2), iv_ a0_3, iv_ a0_4, iv_ a0_5, iv_ a0_6, iv_ a0_7, (.slice A0_8 l0_8.length c0_8), iv_ a0_9] 28 (0, 0))) ∧ Aside0 (wc.heap[gb471]? = some (.cells #[iv_ t466, iv_ t467] 35 (0, 0))) ∧ Aside0 (wc.heap[gb472]? = some (.cells #[iv_ t468, iv_ t469] 35 (0, 0))) ∧ Aside0 (Below w.heap.size w wc))
 case first =>
  have H := HC11.out
  clear HC11
  by_cases c29 : t470 < 0
  ·rw [if_pos c29] at H
   have c29b0 := decide_eq_true c29
   clear c29
   (first | rw [c29b0] | (simp only [i64_w, i32_w]; rw [c29b0]) | skip)
   have H' := Aside0.mk H
   clear H
   go_wp2
   go_meet
   case rel => exact ⟨_, (true), (by first | rfl | (simp; done) | (simp [*]; done)), H', ⟨by first | omega | exact Nat.le_refl _⟩, ⟨by (with_reducible repeat (first | refine blk_drewN ?_ _ | refine blk_drew ?_ | refine blk_alloc ?_ _)); exact BK465.out⟩, ⟨by (with_reducible repeat (first | refine blk_drewN ?_ _ | refine blk_drew ?_ | refine blk_alloc ?_ _)); exact BK471.out⟩, ⟨by (with_reducible repeat (first | refine blk_drewN ?_ _ | refine blk_drew ?_ | refine blk_alloc ?_ _)); exact BK472.out⟩, ⟨bl3_ HB GE465 GE471 GE472⟩⟩
  ·rw [if_neg c29] at H
   have c29b0 := decide_eq_false c29
   clear c29
   (first | rw [c29b0] | (simp only [i64_w, i32_w]; rw [c29b0]) | skip)
   have H' := Aside0.mk H
   clear H
   go_wp2
   go_meet
   case rel => exact ⟨_, (decide ((wrap64 (t475 - (wrap64 (Int.tdiv (wrap64 (t467 + t469)) 2)))) > t470)), (by first | rfl | (simp; done) | (simp [*]; done)), H', ⟨by first | omega | exact Nat.le_refl _⟩, ⟨by (with_reducible repeat (first | refine blk_drewN ?_ _ | refine blk_drew ?_ | refine blk_alloc ?_ _)); exact BK465.out⟩, ⟨by (with_reducible repeat (first | refine blk_drewN ?_ _ | refine blk_drew ?_ | refine blk_alloc ?_ _)); exact BK471.out⟩, ⟨by (with_reducible repeat (first | refine blk_drewN ?_ _ | refine blk_drew ?_ | refine blk_alloc ?_ _)); exact BK472.out⟩, ⟨bl3_ HB GE465 GE471 GE472⟩⟩
 case rest =>
  clear HC11
  obtain ⟨kq, x37_10, rfl, HA, HJ10, BK465, BK471, BK472, HB⟩ := hcut
  cases kq with
  | zero => exact absurd HA.out (by simp [impl_SightAt.j0])
  | succ kj10 =>
   have H := HA.out
   clear HA
   simp only [impl_SightAt.j0] at H
   by_cases c30 : x37_10 = true
   ·subst c30
    rw [if_pos rfl] at H
    obtain rfl := Option.some.inj H
    go_wp2
    go_ret
    exact ⟨by first | (rw [hRT_.out]; rfl) | exact er_, bl3_ HB GE465 GE471 GE472⟩
   ·replace c30 := Bool.eq_false_iff.mpr c30
    subst c30
    have H1 : (if (wrap64 (t475 + (wrap64 (Int.tdiv (wrap64 (t467 + t469)) 2)))) ≤ t470 then (some 2) else (some 1)) = some r := by rw [if_neg (show ¬ (false = true) by decide)] at H; exact H
    clear H
    have H := H1
    clear H1
    by_cases c31 : (wrap64 (t475 + (wrap64 (Int.tdiv (wrap64 (t467 + t469)) 2)))) ≤ t470
    ·rw [if_pos c31] at H
     have c31b0 := decide_eq_true c31
     clear c31
     obtain rfl := Option.some.inj H
     go_wp2
     go_ret
     exact ⟨by first | (rw [hRT_.out]; rfl) | exact er_, bl3_ HB GE465 GE471 GE472⟩
    ·rw [if_neg c31] at H
     have c31b0 := decide_eq_false c31
     clear c31
     obtain rfl := Option.some.inj H
     go_wp2
     go_ret
     exact ⟨by first | (rw [hRT_.out]; rfl) | exact er_, bl3_ HB GE465 GE471 GE472⟩

end Go.Proofs.Ytopbkdcicidajaa.PFnSight
