-- Written by a program of this session for this claim (the kit's printer with changes).
import Derived.Test.YtopbkdcicidajaaQFnContactsx0
import Derived.Test.YtopbkdcicidajaaQFnContactsx2
import Derived.Test.YtopbkdcicidajaaQFnContactsx3
namespace Go.Proofs.Ytopbkdcicidajaa.PFnContacts
open Go.RowKit Go.Proofs.YtopbkdcicidajaaW.PrintWords Go.Proofs.YtopbkdcicidajaaW.PrintLast Go.Proofs.YtopbkdcicidajaaW.PrintMore
attribute [local go_sem] max2_int min2_int max_two min_two max_three min_three max_four min_four   -- for this text's walks alone
set_option linter.unusedVariables false
set_option maxHeartbeats 8000000
set_option maxRecDepth 100000
set_option linter.unusedSimpArgs false

/-! ### impl_SightAt: function 10 -/
def impl_SightAt.j0 : Nat → Int → Int → Int → Bool → Option (Int)
 | 0, _, _, _, _ => none
 | k + 1, j, l, m, s => if s = true then (some 0) else (if (wrap64 (l + m)) ≤ j then (some 2) else (some 1))
def impl_SightAt.f (k : Nat) (s : Int) (E : List S72) (G : List S74) (u x y z B : Int) (I : List S88) (D L M O : Int) : Option (Int) := (impl_NodeAt.f s E G u x y z B I D L O).bind fun j => ((impl_NodeAt.f s E G u x y z B I D M O).bind fun l => ((impl_LimitOf.f k s E G u x y z B I D L M).bind fun m => ((impl_MiddleOf.f j.1 j.2).bind fun T => ((impl_MiddleOf.f l.1 l.2).bind fun U => ((impl_GapOf.f T U).bind fun J => (if m < 0 then (impl_SightAt.j0 k m J (wrap64 (Int.tdiv (wrap64 (j.2 + l.2)) 2)) true) else (impl_SightAt.j0 k m J (wrap64 (Int.tdiv (wrap64 (j.2 + l.2)) 2)) (decide ((wrap64 (J - (wrap64 (Int.tdiv (wrap64 (j.2 + l.2)) 2)))) > m)))))))))
def impl_SightAt.T1 : Bool × List (List Nat × List Nat) := (true, [([], []), ([], []), ([], []), ([0, 1, 2], [0, 1, 2]), ([], []), ([], []), ([], []), ([4, 5, 6, 3], [4, 5, 6]), ([], []), ([], []), ([], []), ([8, 9, 10, 7], [8, 9, 10]), ([], []), ([], []), ([12, 3, 11, 0, 1, 2, 3, 12, 13], [3, 12]), ([13, 7, 14, 0, 1, 2, 3, 4, 5, 6, 7, 12, 13, 14], [7, 13]), ([11, 15, 0, 1, 2, 3, 4, 5, 6, 7, 8, 9, 10, 11, 12, 13, 14, 15], [11])])
def impl_SightAt.B1 : List Nat := [0, 0, 0, 7, 0, 0, 0, 127, 0, 0, 0, 2047, 0, 0, 16383, 32767, 65535]
theorem impl_SightAt.tab1 : rtab .any (opsOf Try.f10 1) = impl_SightAt.T1 := by kernel_rfl
theorem impl_SightAt.bits1 : waitsOk impl_SightAt.T1.2 impl_SightAt.B1 = true := by kernel_rfl
def impl_SightAt.T2 : Bool × List (List Nat × List Nat) := (true, [([], []), ([0], [0]), ([], []), ([2, 1], [2]), ([1, 3, 3], [1, 3]), ([], []), ([5], [5]), ([], []), ([7], [7]), ([6, 8], [6, 8]), ([9], [9]), ([4, 4, 0, 1, 2, 3, 4], [4]), ([10, 11, 0, 1, 2, 3, 4, 5, 6, 7, 8, 9, 10, 11], [10])])
def impl_SightAt.B2 : List Nat := [0, 1, 0, 7, 15, 0, 32, 0, 128, 480, 992, 31, 4095]
theorem impl_SightAt.tab2 : rtab .any (opsOf Try.f10 2) = impl_SightAt.T2 := by kernel_rfl
theorem impl_SightAt.bits2 : waitsOk impl_SightAt.T2.2 impl_SightAt.B2 = true := by kernel_rfl
theorem impl_SightAt.calls (k : Nat) (G : Int) (Y : Option Addr) (a4 : Nat) (B : List S72) (Z : Option Addr) (a5 : Nat) (D : List S74) (I J L M O : Int) (a0 : Option Addr) (a6 : Nat) (E : List S88) (T a1 a2 a3 r : Int) (w : World) (j5 : Kd.C k72 w Y B.length B) (j2 : B.length ≤ a4) (j6 : Kd.C k74 w Z D.length D) (j3 : D.length ≤ a5) (j7 : Kd.C k88 w a0 E.length E) (j4 : E.length ≤ a6) (h : impl_SightAt.f k G B D I J L M O E T a1 a2 a3 = some r) :
  Calls Try.prog 10 #[.agg #[iv_ G, .slice Y B.length a4, .slice Z D.length a5, iv_ I, iv_ J, iv_ L, iv_ M, iv_ O, .slice a0 E.length a6, iv_ T], iv_ a1, iv_ a2, iv_ a3] w fun e w' => e = .returned (iv_ r) ∧ Below w.heap.size w w' := by
 have n8 := Try.underlying28
 have n9 := Try.underlying35
 have f3 := Aside0.mk j5
 have f0 := Aside0.mk j2
 clear j5 j2
 have f4 := Aside0.mk j6
 have f1 := Aside0.mk j3
 clear j6 j3
 have f5 := Aside0.mk j7
 have f2 := Aside0.mk j4
 clear j7 j4
 have HB := Aside0.mk (Below.refl w.heap.size w)
 have H := h
 clear h
 unfold impl_SightAt.f at H
 replace H := bs_ H
 obtain ⟨⟨d9, d5⟩, A5, H⟩ := H
 dsimp only at H
 replace H := bs_ H
 obtain ⟨⟨e2, e1⟩, A6, H⟩ := H
 dsimp only at H
 replace H := bs_ H
 obtain ⟨e8, A7, H⟩ := H
 replace H := bs_ H
 obtain ⟨j8, A8, H⟩ := H
 replace H := bs_ H
 obtain ⟨j9, A9, H⟩ := H
 replace H := bs_ H
 obtain ⟨h3, k1, H⟩ := H
 have h9 := Aside0.mk H
 clear H
 go_enter Try.func10, Try.ntmps10
 try go_wp2_with (first | ((with_reducible refine gd_ 4 ?_); refine bx_ 4 28 #[iv_ G, .slice Y B.length a4, .slice Z D.length a5, iv_ I, iv_ J, iv_ L, iv_ M, iv_ O, .slice a0 E.length a6, iv_ T] ?_; intro m hg l1 hbox hb; refine sh3_ (below_step (bl_ HB) hb) hbox (ge_ hg (bl_ HB)) ?_; clear HB hb hbox hg; intro HB l z))
 refine sh2_ (blk_drew l.out) (below_drew1 HB.out) ?_
 clear l HB
 intro l HB
 refine start_ (n := 17) (S := fun w' => Cz10 w' m (iv_ G) (.slice Y B.length a4) (.slice Z D.length a5) (iv_ I) (iv_ J) (iv_ L) (iv_ M) (iv_ O) (.slice a0 E.length a6) (iv_ T)) (ds := []) (bo_ 17 0) (by kernel_rfl) rfl rfl (cz10_ l) (fun hHeld => ?_); refine with_tabW impl_SightAt.tab1 impl_SightAt.bits1 (fun HT_ HW_ => ?_)
 generalize l1.drew = o1 at l HB hHeld ⊢
 refine pur_ 1 (bo_ 17 2) (some 15) HT_ ?_
 refine pur_ 2 (bo_ 17 6) (some 16) HT_ ?_
 refine pur_ 5 (bo_ 17 38) (some 19) HT_ ?_
 refine pur_ 6 (bo_ 17 102) (some 20) HT_ ?_
 refine pur_ 9 (bo_ 17 614) (some 23) HT_ ?_
 refine pur_ 10 (bo_ 17 1638) (some 24) HT_ ?_
 refine tak_ 0 (bo_ 17 1639) (some 14) HT_ HW_ hHeld ?_
 refine tak_ 4 (bo_ 17 1655) (some 18) HT_ HW_ hHeld ?_
 refine tak_ 8 (bo_ 17 1911) (some 22) HT_ HW_ hHeld ?_
 refine join_ (σ := Nat × Nat) 3 (bo_ 17 16383) (fun s_ => [(17, .agg #[iv_ d9, iv_ d5]), (21, .agg #[iv_ e2, iv_ e1]), (25, iv_ e8), (9, .pointer (some ⟨s_.1, 0, none⟩)), (10, .pointer (some ⟨s_.2, 0, none⟩))]) (fun s_ w' => (Cz10 w' m (iv_ G) (.slice Y B.length a4) (.slice Z D.length a5) (iv_ I) (iv_ J) (iv_ L) (iv_ M) (iv_ O) (.slice a0 E.length a6) (iv_ T)) ∧ (w'.heap[m]? = some (.cells #[iv_ G, .slice Y B.length a4, .slice Z D.length a5, iv_ I, iv_ J, iv_ L, iv_ M, iv_ O, .slice a0 E.length a6, iv_ T] 28 (0, 0))) ∧ (w'.heap[s_.1]? = some (.cells #[iv_ 0, iv_ 0] 35 (0, 0))) ∧ (w'.heap[s_.2]? = some (.cells #[iv_ 0, iv_ 0] 35 (0, 0))) ∧ (w.heap.size ≤ s_.1) ∧ (w.heap.size ≤ s_.1) ∧ (m ≠ s_.1) ∧ (s_.1 ≠ m) ∧ (s_.2 ≠ s_.1) ∧ (s_.1 ≠ s_.2) ∧ (w.heap.size ≤ s_.2) ∧ (w.heap.size ≤ s_.2) ∧ (m ≠ s_.2) ∧ (s_.2 ≠ m) ∧ (Below w.heap.size w w')) ?_ ?_
 rotate_left
 ·intro i1
  refine join_ (σ := Nat) 4 (bo_ 17 8191) (fun s_ => [(17, .agg #[iv_ d9, iv_ d5]), (21, .agg #[iv_ e2, iv_ e1]), (25, iv_ e8), (9, .pointer (some ⟨s_, 0, none⟩))]) (fun s_ w' => (Cz10 w' m (iv_ G) (.slice Y B.length a4) (.slice Z D.length a5) (iv_ I) (iv_ J) (iv_ L) (iv_ M) (iv_ O) (.slice a0 E.length a6) (iv_ T)) ∧ (w'.heap[m]? = some (.cells #[iv_ G, .slice Y B.length a4, .slice Z D.length a5, iv_ I, iv_ J, iv_ L, iv_ M, iv_ O, .slice a0 E.length a6, iv_ T] 28 (0, 0))) ∧ (w'.heap[s_]? = some (.cells #[iv_ 0, iv_ 0] 35 (0, 0))) ∧ (w.heap.size ≤ s_) ∧ (w.heap.size ≤ s_) ∧ (m ≠ s_) ∧ (s_ ≠ m) ∧ (Below w.heap.size w w')) ?_ ?_
  rotate_left
  ·intro i7
   refine join_ (σ := Nat) 4 (bo_ 17 12287) (fun s_ => [(17, .agg #[iv_ d9, iv_ d5]), (21, .agg #[iv_ e2, iv_ e1]), (25, iv_ e8), (10, .pointer (some ⟨s_, 0, none⟩))]) (fun s_ w' => (Cz10 w' m (iv_ G) (.slice Y B.length a4) (.slice Z D.length a5) (iv_ I) (iv_ J) (iv_ L) (iv_ M) (iv_ O) (.slice a0 E.length a6) (iv_ T)) ∧ (w'.heap[m]? = some (.cells #[iv_ G, .slice Y B.length a4, .slice Z D.length a5, iv_ I, iv_ J, iv_ L, iv_ M, iv_ O, .slice a0 E.length a6, iv_ T] 28 (0, 0))) ∧ (w'.heap[s_]? = some (.cells #[iv_ 0, iv_ 0] 35 (0, 0))) ∧ (w.heap.size ≤ s_) ∧ (w.heap.size ≤ s_) ∧ (m ≠ s_) ∧ (s_ ≠ m) ∧ (Below w.heap.size w w')) ?_ ?_
   rotate_left
   ·intro i8
    refine join_ (σ := Nat × Nat) 4 (bo_ 17 14335) (fun s_ => [(17, .agg #[iv_ d9, iv_ d5]), (21, .agg #[iv_ e2, iv_ e1]), (9, .pointer (some ⟨s_.1, 0, none⟩)), (10, .pointer (some ⟨s_.2, 0, none⟩))]) (fun s_ w' => (Cz10 w' m (iv_ G) (.slice Y B.length a4) (.slice Z D.length a5) (iv_ I) (iv_ J) (iv_ L) (iv_ M) (iv_ O) (.slice a0 E.length a6) (iv_ T)) ∧ (w'.heap[m]? = some (.cells #[iv_ G, .slice Y B.length a4, .slice Z D.length a5, iv_ I, iv_ J, iv_ L, iv_ M, iv_ O, .slice a0 E.length a6, iv_ T] 28 (0, 0))) ∧ (w'.heap[s_.1]? = some (.cells #[iv_ 0, iv_ 0] 35 (0, 0))) ∧ (w'.heap[s_.2]? = some (.cells #[iv_ 0, iv_ 0] 35 (0, 0))) ∧ (w.heap.size ≤ s_.1) ∧ (w.heap.size ≤ s_.1) ∧ (m ≠ s_.1) ∧ (s_.1 ≠ m) ∧ (s_.2 ≠ s_.1) ∧ (s_.1 ≠ s_.2) ∧ (w.heap.size ≤ s_.2) ∧ (w.heap.size ≤ s_.2) ∧ (m ≠ s_.2) ∧ (s_.2 ≠ m) ∧ (Below w.heap.size w w')) ?_ ?_
    rotate_left
    ·intro i2
     refine join_ (σ := Unit) 5 (bo_ 17 4095) (fun s_ => [(17, .agg #[iv_ d9, iv_ d5]), (21, .agg #[iv_ e2, iv_ e1]), (25, iv_ e8)]) (fun s_ w' => (Cz10 w' m (iv_ G) (.slice Y B.length a4) (.slice Z D.length a5) (iv_ I) (iv_ J) (iv_ L) (iv_ M) (iv_ O) (.slice a0 E.length a6) (iv_ T)) ∧ (w'.heap[m]? = some (.cells #[iv_ G, .slice Y B.length a4, .slice Z D.length a5, iv_ I, iv_ J, iv_ L, iv_ M, iv_ O, .slice a0 E.length a6, iv_ T] 28 (0, 0))) ∧ (Below w.heap.size w w')) ?_ ?_
     rotate_left
     ·intro k9
      refine join_ (σ := Nat) 5 (bo_ 17 6143) (fun s_ => [(17, .agg #[iv_ d9, iv_ d5]), (21, .agg #[iv_ e2, iv_ e1]), (9, .pointer (some ⟨s_, 0, none⟩))]) (fun s_ w' => (Cz10 w' m (iv_ G) (.slice Y B.length a4) (.slice Z D.length a5) (iv_ I) (iv_ J) (iv_ L) (iv_ M) (iv_ O) (.slice a0 E.length a6) (iv_ T)) ∧ (w'.heap[m]? = some (.cells #[iv_ G, .slice Y B.length a4, .slice Z D.length a5, iv_ I, iv_ J, iv_ L, iv_ M, iv_ O, .slice a0 E.length a6, iv_ T] 28 (0, 0))) ∧ (w'.heap[s_]? = some (.cells #[iv_ 0, iv_ 0] 35 (0, 0))) ∧ (w.heap.size ≤ s_) ∧ (w.heap.size ≤ s_) ∧ (m ≠ s_) ∧ (s_ ≠ m) ∧ (Below w.heap.size w w')) ?_ ?_
      rotate_left
      ·intro i9
       refine join_ (σ := Nat) 5 (bo_ 17 10239) (fun s_ => [(17, .agg #[iv_ d9, iv_ d5]), (21, .agg #[iv_ e2, iv_ e1]), (10, .pointer (some ⟨s_, 0, none⟩))]) (fun s_ w' => (Cz10 w' m (iv_ G) (.slice Y B.length a4) (.slice Z D.length a5) (iv_ I) (iv_ J) (iv_ L) (iv_ M) (iv_ O) (.slice a0 E.length a6) (iv_ T)) ∧ (w'.heap[m]? = some (.cells #[iv_ G, .slice Y B.length a4, .slice Z D.length a5, iv_ I, iv_ J, iv_ L, iv_ M, iv_ O, .slice a0 E.length a6, iv_ T] 28 (0, 0))) ∧ (w'.heap[s_]? = some (.cells #[iv_ 0, iv_ 0] 35 (0, 0))) ∧ (w.heap.size ≤ s_) ∧ (w.heap.size ≤ s_) ∧ (m ≠ s_) ∧ (s_ ≠ m) ∧ (Below w.heap.size w w')) ?_ ?_
       rotate_left
       ·intro j1
        refine join_ (σ := Nat × Nat) 5 (bo_ 17 14207) (fun s_ => [(17, .agg #[iv_ d9, iv_ d5]), (9, .pointer (some ⟨s_.1, 0, none⟩)), (10, .pointer (some ⟨s_.2, 0, none⟩))]) (fun s_ w' => (Cz10 w' m (iv_ G) (.slice Y B.length a4) (.slice Z D.length a5) (iv_ I) (iv_ J) (iv_ L) (iv_ M) (iv_ O) (.slice a0 E.length a6) (iv_ T)) ∧ (w'.heap[m]? = some (.cells #[iv_ G, .slice Y B.length a4, .slice Z D.length a5, iv_ I, iv_ J, iv_ L, iv_ M, iv_ O, .slice a0 E.length a6, iv_ T] 28 (0, 0))) ∧ (w'.heap[s_.1]? = some (.cells #[iv_ 0, iv_ 0] 35 (0, 0))) ∧ (w'.heap[s_.2]? = some (.cells #[iv_ 0, iv_ 0] 35 (0, 0))) ∧ (w.heap.size ≤ s_.1) ∧ (w.heap.size ≤ s_.1) ∧ (m ≠ s_.1) ∧ (s_.1 ≠ m) ∧ (s_.2 ≠ s_.1) ∧ (s_.1 ≠ s_.2) ∧ (w.heap.size ≤ s_.2) ∧ (w.heap.size ≤ s_.2) ∧ (m ≠ s_.2) ∧ (s_.2 ≠ m) ∧ (Below w.heap.size w w')) ?_ ?_
        rotate_left
        ·intro i0
         refine join_ (σ := Unit) 6 (bo_ 17 2047) (fun s_ => [(17, .agg #[iv_ d9, iv_ d5]), (21, .agg #[iv_ e2, iv_ e1])]) (fun s_ w' => (Cz10 w' m (iv_ G) (.slice Y B.length a4) (.slice Z D.length a5) (iv_ I) (iv_ J) (iv_ L) (iv_ M) (iv_ O) (.slice a0 E.length a6) (iv_ T)) ∧ (w'.heap[m]? = some (.cells #[iv_ G, .slice Y B.length a4, .slice Z D.length a5, iv_ I, iv_ J, iv_ L, iv_ M, iv_ O, .slice a0 E.length a6, iv_ T] 28 (0, 0))) ∧ (Below w.heap.size w w')) ?_ ?_
         rotate_left
         ·intro k8
          refine join_ (σ := Nat) 6 (bo_ 17 6015) (fun s_ => [(17, .agg #[iv_ d9, iv_ d5]), (9, .pointer (some ⟨s_, 0, none⟩))]) (fun s_ w' => (Cz10 w' m (iv_ G) (.slice Y B.length a4) (.slice Z D.length a5) (iv_ I) (iv_ J) (iv_ L) (iv_ M) (iv_ O) (.slice a0 E.length a6) (iv_ T)) ∧ (w'.heap[m]? = some (.cells #[iv_ G, .slice Y B.length a4, .slice Z D.length a5, iv_ I, iv_ J, iv_ L, iv_ M, iv_ O, .slice a0 E.length a6, iv_ T] 28 (0, 0))) ∧ (w'.heap[s_]? = some (.cells #[iv_ 0, iv_ 0] 35 (0, 0))) ∧ (w.heap.size ≤ s_) ∧ (w.heap.size ≤ s_) ∧ (m ≠ s_) ∧ (s_ ≠ m) ∧ (Below w.heap.size w w')) ?_ ?_
          rotate_left
          ·intro i5
           refine join_ (σ := Nat) 6 (bo_ 17 10111) (fun s_ => [(17, .agg #[iv_ d9, iv_ d5]), (10, .pointer (some ⟨s_, 0, none⟩))]) (fun s_ w' => (Cz10 w' m (iv_ G) (.slice Y B.length a4) (.slice Z D.length a5) (iv_ I) (iv_ J) (iv_ L) (iv_ M) (iv_ O) (.slice a0 E.length a6) (iv_ T)) ∧ (w'.heap[m]? = some (.cells #[iv_ G, .slice Y B.length a4, .slice Z D.length a5, iv_ I, iv_ J, iv_ L, iv_ M, iv_ O, .slice a0 E.length a6, iv_ T] 28 (0, 0))) ∧ (w'.heap[s_]? = some (.cells #[iv_ 0, iv_ 0] 35 (0, 0))) ∧ (w.heap.size ≤ s_) ∧ (w.heap.size ≤ s_) ∧ (m ≠ s_) ∧ (s_ ≠ m) ∧ (Below w.heap.size w w')) ?_ ?_
           rotate_left
           ·intro i6
            refine join_ (σ := Nat × Nat) 6 (bo_ 17 14199) (fun s_ => [(9, .pointer (some ⟨s_.1, 0, none⟩)), (10, .pointer (some ⟨s_.2, 0, none⟩))]) (fun s_ w' => (Cz10 w' m (iv_ G) (.slice Y B.length a4) (.slice Z D.length a5) (iv_ I) (iv_ J) (iv_ L) (iv_ M) (iv_ O) (.slice a0 E.length a6) (iv_ T)) ∧ (w'.heap[m]? = some (.cells #[iv_ G, .slice Y B.length a4, .slice Z D.length a5, iv_ I, iv_ J, iv_ L, iv_ M, iv_ O, .slice a0 E.length a6, iv_ T] 28 (0, 0))) ∧ (w'.heap[s_.1]? = some (.cells #[iv_ 0, iv_ 0] 35 (0, 0))) ∧ (w'.heap[s_.2]? = some (.cells #[iv_ 0, iv_ 0] 35 (0, 0))) ∧ (w.heap.size ≤ s_.1) ∧ (w.heap.size ≤ s_.1) ∧ (m ≠ s_.1) ∧ (s_.1 ≠ m) ∧ (s_.2 ≠ s_.1) ∧ (s_.1 ≠ s_.2) ∧ (w.heap.size ≤ s_.2) ∧ (w.heap.size ≤ s_.2) ∧ (m ≠ s_.2) ∧ (s_.2 ≠ m) ∧ (Below w.heap.size w w')) ?_ ?_
            rotate_left
            ·intro i4
             refine join_ (σ := Unit) 7 (bo_ 17 1919) (fun s_ => [(17, .agg #[iv_ d9, iv_ d5])]) (fun s_ w' => (Cz10 w' m (iv_ G) (.slice Y B.length a4) (.slice Z D.length a5) (iv_ I) (iv_ J) (iv_ L) (iv_ M) (iv_ O) (.slice a0 E.length a6) (iv_ T)) ∧ (w'.heap[m]? = some (.cells #[iv_ G, .slice Y B.length a4, .slice Z D.length a5, iv_ I, iv_ J, iv_ L, iv_ M, iv_ O, .slice a0 E.length a6, iv_ T] 28 (0, 0))) ∧ (Below w.heap.size w w')) ?_ ?_
             rotate_left
             ·intro k7
              refine join_ (σ := Nat) 7 (bo_ 17 6007) (fun s_ => [(9, .pointer (some ⟨s_, 0, none⟩))]) (fun s_ w' => (Cz10 w' m (iv_ G) (.slice Y B.length a4) (.slice Z D.length a5) (iv_ I) (iv_ J) (iv_ L) (iv_ M) (iv_ O) (.slice a0 E.length a6) (iv_ T)) ∧ (w'.heap[m]? = some (.cells #[iv_ G, .slice Y B.length a4, .slice Z D.length a5, iv_ I, iv_ J, iv_ L, iv_ M, iv_ O, .slice a0 E.length a6, iv_ T] 28 (0, 0))) ∧ (w'.heap[s_]? = some (.cells #[iv_ 0, iv_ 0] 35 (0, 0))) ∧ (w.heap.size ≤ s_) ∧ (w.heap.size ≤ s_) ∧ (m ≠ s_) ∧ (s_ ≠ m) ∧ (Below w.heap.size w w')) ?_ ?_
              rotate_left
              ·intro k5
               refine join_ (σ := Nat) 7 (bo_ 17 10103) (fun s_ => [(10, .pointer (some ⟨s_, 0, none⟩))]) (fun s_ w' => (Cz10 w' m (iv_ G) (.slice Y B.length a4) (.slice Z D.length a5) (iv_ I) (iv_ J) (iv_ L) (iv_ M) (iv_ O) (.slice a0 E.length a6) (iv_ T)) ∧ (w'.heap[m]? = some (.cells #[iv_ G, .slice Y B.length a4, .slice Z D.length a5, iv_ I, iv_ J, iv_ L, iv_ M, iv_ O, .slice a0 E.length a6, iv_ T] 28 (0, 0))) ∧ (w'.heap[s_]? = some (.cells #[iv_ 0, iv_ 0] 35 (0, 0))) ∧ (w.heap.size ≤ s_) ∧ (w.heap.size ≤ s_) ∧ (m ≠ s_) ∧ (s_ ≠ m) ∧ (Below w.heap.size w w')) ?_ ?_
               rotate_left
               ·intro k6
                refine three_ (i := 3) (j := 12) (k := 13) (Ni := some 17) (Nj := some 9) (Nk := some 10) (bo_ 17 1919) (bo_ 17 6007) (bo_ 17 10103) rfl rfl rfl rfl rfl rfl (three_of HT_.out (by kernel_rfl)) (by decide) (by decide) (by decide) (fun K hK => ?_) (fun K hK => ?_) (fun K hK => ?_)
                ·skip
                 refine goes_ Try.func13 (by kernel_rfl) rfl #[.agg #[iv_ G, .slice Y B.length a4, .slice Z D.length a5, iv_ I, iv_ J, iv_ L, iv_ M, iv_ O, .slice a0 E.length a6, iv_ T], iv_ a1, iv_ a3] (by rfl) rfl rfl mp_ ?_
                 with_reducible refine (impl_NodeAt.calls G _ _ B _ _ D I J L M O _ _ E T a1 a3 d9 d5 _ ?side1 ?side2 ?side3 ?side4 ?side5 ?side6 A5.out).mono ?_
                 (case side1 => exact ck_ f3 HB)
                 (case side2 => exact f0.out)
                 (case side3 => exact ck_ f4 HB)
                 (case side4 => exact f1.out)
                 (case side5 => exact ck_ f5 HB)
                 (case side6 => exact f2.out)
                 rintro e k0 ⟨rfl, hb⟩
                 refine ⟨_, rfl, sh2_ (blk_below (bk_ l) hb) (below_step (bl1_ HB z) hb) ?_⟩
                 clear l HB hb
                 intro l HB
                 refine hK.out _ _ (cz10_ l) (fun hHeld => ?_)
                 clear hK K
                 refine norm_ (show Act.put _ (some 17) _ = _ from pt_) ?_
                 exact norm_ pa_ (k7 () _ ⟨hHeld, (bk_ l), (bl1_ HB z)⟩)
                ·skip
                 refine bxs_ 9 35 #[iv_ 0, iv_ 0] ?_
                 intro s hg k0 hbox hb
                 refine sh7_ (blk_below (bk_ l) hb) (below_step (bl1_ HB z) hb) hbox (ge_ hg (bl1_ HB z)) (ge_ hg (bl1_ HB z)) (nl_ hg (bk_ l)) (ng_ hg (bk_ l)) ?_
                 clear l HB hb hbox hg
                 intro l HB x d3 U a7 b5
                 refine hK.out _ _ (cz10_ l) (fun hHeld => ?_)
                 clear hK K
                 refine norm_ (show Act.put _ (some 9) _ = _ from pt_) ?_
                 exact norm_ pa_ (k5 (s) _ ⟨hHeld, (bk_ l), (bk_ x), d3.out, U.out, a7.out, b5.out, (bl2_ HB z U)⟩)
                ·skip
                 refine bxs_ 10 35 #[iv_ 0, iv_ 0] ?_
                 intro u hg k0 hbox hb
                 refine sh7_ (blk_below (bk_ l) hb) (below_step (bl1_ HB z) hb) hbox (ge_ hg (bl1_ HB z)) (ge_ hg (bl1_ HB z)) (nl_ hg (bk_ l)) (ng_ hg (bk_ l)) ?_
                 clear l HB hb hbox hg
                 intro l HB y d4 X a8 b6
                 refine hK.out _ _ (cz10_ l) (fun hHeld => ?_)
                 clear hK K
                 refine norm_ (show Act.put _ (some 10) _ = _ from pt_) ?_
                 exact norm_ pa_ (k6 (u) _ ⟨hHeld, (bk_ l), (bk_ y), d4.out, X.out, a8.out, b6.out, (bl2_ HB z X)⟩)
               ·skip
                rintro u e9 ⟨hS_, b1, b2, b7, b8, b9, c0, c1⟩
                have a9 : Aside0 (e9.heap[m]? = some (.cells #[iv_ G, .slice Y B.length a4, .slice Z D.length a5, iv_ I, iv_ J, iv_ L, iv_ M, iv_ O, .slice a0 E.length a6, iv_ T] 28 (0, 0))) := ⟨b1⟩
                have b0 : Aside0 (e9.heap[u]? = some (.cells #[iv_ 0, iv_ 0] 35 (0, 0))) := ⟨b2⟩
                have b3 : Aside0 (w.heap.size ≤ u) := ⟨b7⟩
                have b4 : Aside0 (w.heap.size ≤ u) := ⟨b8⟩
                have d0 : Aside0 (m ≠ u) := ⟨b9⟩
                have d1 : Aside0 (u ≠ m) := ⟨c0⟩
                have d2 : Aside0 (Below w.heap.size w e9) := ⟨c1⟩
                clear l
                clear HB
                clear b1 b2 b7 b8 b9 c0 c1
                have l := a9
                have y := b0
                have d4 := b3
                have X := b4
                have a8 := d0
                have b6 := d1
                have HB := d2
                clear a9 b0 b3 b4 d0 d1 d2
                have hHeld : Cz10 e9 m (iv_ G) (.slice Y B.length a4) (.slice Z D.length a5) (iv_ I) (iv_ J) (iv_ L) (iv_ M) (iv_ O) (.slice a0 E.length a6) (iv_ T) := hS_
                refine norm_ (a' := ?_) ?_ ?_
                rotate_left
                ·simp only [putAll, Act.put, List.setIfInBounds_toArray, List.set_cons_zero, List.set_cons_succ]
                 rfl
                refine two_ (i := 3) (j := 12) (Ni := some 17) (Nj := some 9) (bo_ 17 10111) (bo_ 17 14199) rfl rfl rfl rfl (two_of HT_.out (by kernel_rfl)) (by decide) (by decide) (fun K hK => ?_) (fun K hK => ?_)
                ·skip
                 refine goes_ Try.func13 (by kernel_rfl) rfl #[.agg #[iv_ G, .slice Y B.length a4, .slice Z D.length a5, iv_ I, iv_ J, iv_ L, iv_ M, iv_ O, .slice a0 E.length a6, iv_ T], iv_ a1, iv_ a3] (by rfl) rfl rfl mp_ ?_
                 with_reducible refine (impl_NodeAt.calls G _ _ B _ _ D I J L M O _ _ E T a1 a3 d9 d5 _ ?side1 ?side2 ?side3 ?side4 ?side5 ?side6 A5.out).mono ?_
                 (case side1 => exact ck_ f3 HB)
                 (case side2 => exact f0.out)
                 (case side3 => exact ck_ f4 HB)
                 (case side4 => exact f1.out)
                 (case side5 => exact ck_ f5 HB)
                 (case side6 => exact f2.out)
                 rintro e e0 ⟨rfl, hb⟩
                 refine ⟨_, rfl, sh3_ (blk_below (bk_ l) hb) (blk_below (bk_ y) hb) (below_step (bl2_ HB z X) hb) ?_⟩
                 clear l y HB hb
                 intro l y HB
                 refine hK.out _ _ (cz10_ l) (fun hHeld => ?_)
                 clear hK K
                 refine norm_ (show Act.put _ (some 17) _ = _ from pt_) ?_
                 exact norm_ pa_ (i6 (u) _ ⟨hHeld, (bk_ l), (bk_ y), d4.out, X.out, a8.out, b6.out, (bl2_ HB z X)⟩)
                ·skip
                 refine bxs_ 9 35 #[iv_ 0, iv_ 0] ?_
                 intro s hg e0 hbox hb
                 refine sh10_ (blk_below (bk_ l) hb) (blk_below (bk_ y) hb) (below_step (bl2_ HB z X) hb) hbox (ge_ hg (bl2_ HB z X)) (ge_ hg (bl2_ HB z X)) (nl_ hg (bk_ l)) (ng_ hg (bk_ l)) (nl_ hg (bk_ y)) (ng_ hg (bk_ y)) ?_
                 clear l y HB hb hbox hg
                 intro l y HB x d3 U a7 b5 d7 d6
                 refine hK.out _ _ (cz10_ l) (fun hHeld => ?_)
                 clear hK K
                 refine norm_ (show Act.put _ (some 9) _ = _ from pt_) ?_
                 exact norm_ pa_ (i4 (s, u) _ ⟨hHeld, (bk_ l), (bk_ x), (bk_ y), d3.out, U.out, a7.out, b5.out, d7.out, d6.out, d4.out, X.out, a8.out, b6.out, (bl3_ HB z X U)⟩)
              ·skip
               rintro s e9 ⟨hS_, b1, b2, b7, b8, b9, c0, c1⟩
               have a9 : Aside0 (e9.heap[m]? = some (.cells #[iv_ G, .slice Y B.length a4, .slice Z D.length a5, iv_ I, iv_ J, iv_ L, iv_ M, iv_ O, .slice a0 E.length a6, iv_ T] 28 (0, 0))) := ⟨b1⟩
               have b0 : Aside0 (e9.heap[s]? = some (.cells #[iv_ 0, iv_ 0] 35 (0, 0))) := ⟨b2⟩
               have b3 : Aside0 (w.heap.size ≤ s) := ⟨b7⟩
               have b4 : Aside0 (w.heap.size ≤ s) := ⟨b8⟩
               have d0 : Aside0 (m ≠ s) := ⟨b9⟩
               have d1 : Aside0 (s ≠ m) := ⟨c0⟩
               have d2 : Aside0 (Below w.heap.size w e9) := ⟨c1⟩
               clear l
               clear HB
               clear b1 b2 b7 b8 b9 c0 c1
               have l := a9
               have x := b0
               have d3 := b3
               have U := b4
               have a7 := d0
               have b5 := d1
               have HB := d2
               clear a9 b0 b3 b4 d0 d1 d2
               have hHeld : Cz10 e9 m (iv_ G) (.slice Y B.length a4) (.slice Z D.length a5) (iv_ I) (iv_ J) (iv_ L) (iv_ M) (iv_ O) (.slice a0 E.length a6) (iv_ T) := hS_
               refine norm_ (a' := ?_) ?_ ?_
               rotate_left
               ·simp only [putAll, Act.put, List.setIfInBounds_toArray, List.set_cons_zero, List.set_cons_succ]
                rfl
               refine two_ (i := 3) (j := 13) (Ni := some 17) (Nj := some 10) (bo_ 17 6015) (bo_ 17 14199) rfl rfl rfl rfl (two_of HT_.out (by kernel_rfl)) (by decide) (by decide) (fun K hK => ?_) (fun K hK => ?_)
               ·skip
                refine goes_ Try.func13 (by kernel_rfl) rfl #[.agg #[iv_ G, .slice Y B.length a4, .slice Z D.length a5, iv_ I, iv_ J, iv_ L, iv_ M, iv_ O, .slice a0 E.length a6, iv_ T], iv_ a1, iv_ a3] (by rfl) rfl rfl mp_ ?_
                with_reducible refine (impl_NodeAt.calls G _ _ B _ _ D I J L M O _ _ E T a1 a3 d9 d5 _ ?side1 ?side2 ?side3 ?side4 ?side5 ?side6 A5.out).mono ?_
                (case side1 => exact ck_ f3 HB)
                (case side2 => exact f0.out)
                (case side3 => exact ck_ f4 HB)
                (case side4 => exact f1.out)
                (case side5 => exact ck_ f5 HB)
                (case side6 => exact f2.out)
                rintro e e0 ⟨rfl, hb⟩
                refine ⟨_, rfl, sh3_ (blk_below (bk_ l) hb) (blk_below (bk_ x) hb) (below_step (bl2_ HB z U) hb) ?_⟩
                clear l x HB hb
                intro l x HB
                refine hK.out _ _ (cz10_ l) (fun hHeld => ?_)
                clear hK K
                refine norm_ (show Act.put _ (some 17) _ = _ from pt_) ?_
                exact norm_ pa_ (i5 (s) _ ⟨hHeld, (bk_ l), (bk_ x), d3.out, U.out, a7.out, b5.out, (bl2_ HB z U)⟩)
               ·skip
                refine bxs_ 10 35 #[iv_ 0, iv_ 0] ?_
                intro u hg e0 hbox hb
                refine sh10_ (blk_below (bk_ l) hb) (blk_below (bk_ x) hb) (below_step (bl2_ HB z U) hb) hbox (ge_ hg (bl2_ HB z U)) (ge_ hg (bl2_ HB z U)) (nl_ hg (bk_ l)) (ng_ hg (bk_ l)) (nl_ hg (bk_ x)) (ng_ hg (bk_ x)) ?_
                clear l x HB hb hbox hg
                intro l x HB y d4 X a8 b6 d6 d7
                refine hK.out _ _ (cz10_ l) (fun hHeld => ?_)
                clear hK K
                refine norm_ (show Act.put _ (some 10) _ = _ from pt_) ?_
                exact norm_ pa_ (i4 (s, u) _ ⟨hHeld, (bk_ l), (bk_ x), (bk_ y), d3.out, U.out, a7.out, b5.out, d7.out, d6.out, d4.out, X.out, a8.out, b6.out, (bl3_ HB z U X)⟩)
             ·skip
              rintro _ e9 ⟨hS_, b1, b2⟩
              have a9 : Aside0 (e9.heap[m]? = some (.cells #[iv_ G, .slice Y B.length a4, .slice Z D.length a5, iv_ I, iv_ J, iv_ L, iv_ M, iv_ O, .slice a0 E.length a6, iv_ T] 28 (0, 0))) := ⟨b1⟩
              have b0 : Aside0 (Below w.heap.size w e9) := ⟨b2⟩
              clear l
              clear HB
              clear b1 b2
              have l := a9
              have HB := b0
              clear a9 b0
              have hHeld : Cz10 e9 m (iv_ G) (.slice Y B.length a4) (.slice Z D.length a5) (iv_ I) (iv_ J) (iv_ L) (iv_ M) (iv_ O) (.slice a0 E.length a6) (iv_ T) := hS_
              refine norm_ (a' := ?_) ?_ ?_
              rotate_left
              ·simp only [putAll, Act.put, List.setIfInBounds_toArray, List.set_cons_zero, List.set_cons_succ]
               rfl
              refine three_ (i := 7) (j := 12) (k := 13) (Ni := some 21) (Nj := some 9) (Nk := some 10) (bo_ 17 2047) (bo_ 17 6015) (bo_ 17 10111) rfl rfl rfl rfl rfl rfl (three_of HT_.out (by kernel_rfl)) (by decide) (by decide) (by decide) (fun K hK => ?_) (fun K hK => ?_) (fun K hK => ?_)
              ·skip
               refine goes_ Try.func13 (by kernel_rfl) rfl #[.agg #[iv_ G, .slice Y B.length a4, .slice Z D.length a5, iv_ I, iv_ J, iv_ L, iv_ M, iv_ O, .slice a0 E.length a6, iv_ T], iv_ a2, iv_ a3] (by rfl) rfl rfl mp_ ?_
               with_reducible refine (impl_NodeAt.calls G _ _ B _ _ D I J L M O _ _ E T a2 a3 e2 e1 _ ?side1 ?side2 ?side3 ?side4 ?side5 ?side6 A6.out).mono ?_
               (case side1 => exact ck_ f3 HB)
               (case side2 => exact f0.out)
               (case side3 => exact ck_ f4 HB)
               (case side4 => exact f1.out)
               (case side5 => exact ck_ f5 HB)
               (case side6 => exact f2.out)
               rintro e e0 ⟨rfl, hb⟩
               refine ⟨_, rfl, sh2_ (blk_below (bk_ l) hb) (below_step (bl1_ HB z) hb) ?_⟩
               clear l HB hb
               intro l HB
               refine hK.out _ _ (cz10_ l) (fun hHeld => ?_)
               clear hK K
               refine norm_ (show Act.put _ (some 21) _ = _ from pt_) ?_
               exact norm_ pa_ (k8 () _ ⟨hHeld, (bk_ l), (bl1_ HB z)⟩)
              ·skip
               refine bxs_ 9 35 #[iv_ 0, iv_ 0] ?_
               intro s hg e0 hbox hb
               refine sh7_ (blk_below (bk_ l) hb) (below_step (bl1_ HB z) hb) hbox (ge_ hg (bl1_ HB z)) (ge_ hg (bl1_ HB z)) (nl_ hg (bk_ l)) (ng_ hg (bk_ l)) ?_
               clear l HB hb hbox hg
               intro l HB x d3 U a7 b5
               refine hK.out _ _ (cz10_ l) (fun hHeld => ?_)
               clear hK K
               refine norm_ (show Act.put _ (some 9) _ = _ from pt_) ?_
               exact norm_ pa_ (i5 (s) _ ⟨hHeld, (bk_ l), (bk_ x), d3.out, U.out, a7.out, b5.out, (bl2_ HB z U)⟩)
              ·skip
               refine bxs_ 10 35 #[iv_ 0, iv_ 0] ?_
               intro u hg e0 hbox hb
               refine sh7_ (blk_below (bk_ l) hb) (below_step (bl1_ HB z) hb) hbox (ge_ hg (bl1_ HB z)) (ge_ hg (bl1_ HB z)) (nl_ hg (bk_ l)) (ng_ hg (bk_ l)) ?_
               clear l HB hb hbox hg
               intro l HB y d4 X a8 b6
               refine hK.out _ _ (cz10_ l) (fun hHeld => ?_)
               clear hK K
               refine norm_ (show Act.put _ (some 10) _ = _ from pt_) ?_
               exact norm_ pa_ (i6 (u) _ ⟨hHeld, (bk_ l), (bk_ y), d4.out, X.out, a8.out, b6.out, (bl2_ HB z X)⟩)
            ·skip
             rintro ⟨s, u⟩ e0 ⟨hS_, b1, b2, b7, b8, b9, c0, c1, g0, g1, g2, f6, f7, f8, f9⟩
             have a9 : Aside0 (e0.heap[m]? = some (.cells #[iv_ G, .slice Y B.length a4, .slice Z D.length a5, iv_ I, iv_ J, iv_ L, iv_ M, iv_ O, .slice a0 E.length a6, iv_ T] 28 (0, 0))) := ⟨b1⟩
             have b0 : Aside0 (e0.heap[s]? = some (.cells #[iv_ 0, iv_ 0] 35 (0, 0))) := ⟨b2⟩
             have b3 : Aside0 (e0.heap[u]? = some (.cells #[iv_ 0, iv_ 0] 35 (0, 0))) := ⟨b7⟩
             have b4 : Aside0 (w.heap.size ≤ s) := ⟨b8⟩
             have d0 : Aside0 (w.heap.size ≤ s) := ⟨b9⟩
             have d1 : Aside0 (m ≠ s) := ⟨c0⟩
             have d2 : Aside0 (s ≠ m) := ⟨c1⟩
             have g7 : Aside0 (u ≠ s) := ⟨g0⟩
             have g8 : Aside0 (s ≠ u) := ⟨g1⟩
             have g9 : Aside0 (w.heap.size ≤ u) := ⟨g2⟩
             have g3 : Aside0 (w.heap.size ≤ u) := ⟨f6⟩
             have g4 : Aside0 (m ≠ u) := ⟨f7⟩
             have g5 : Aside0 (u ≠ m) := ⟨f8⟩
             have g6 : Aside0 (Below w.heap.size w e0) := ⟨f9⟩
             clear l
             clear HB
             clear b1 b2 b7 b8 b9 c0 c1 g0 g1 g2 f6 f7 f8 f9
             have l := a9
             have x := b0
             have y := b3
             have d3 := b4
             have U := d0
             have a7 := d1
             have b5 := d2
             have d7 := g7
             have d6 := g8
             have d4 := g9
             have X := g3
             have a8 := g4
             have b6 := g5
             have HB := g6
             clear a9 b0 b3 b4 d0 d1 d2 g7 g8 g9 g3 g4 g5 g6
             have hHeld : Cz10 e0 m (iv_ G) (.slice Y B.length a4) (.slice Z D.length a5) (iv_ I) (iv_ J) (iv_ L) (iv_ M) (iv_ O) (.slice a0 E.length a6) (iv_ T) := hS_
             refine norm_ (a' := ?_) ?_ ?_
             rotate_left
             ·simp only [putAll, Act.put, List.setIfInBounds_toArray, List.set_cons_zero, List.set_cons_succ]
              rfl
             refine onc_ 3 (bo_ 17 14207) (some 17) HT_ Try.func13 (impl_NodeAt.calls G _ _ B _ _ D I J L M O _ _ E T a1 a3 d9 d5 _ (ck_ f3 HB) f0.out (ck_ f4 HB) f1.out (ck_ f5 HB) f2.out A5.out) ?_
             rintro e d8 ⟨rfl, hb⟩
             refine sh4_ (blk_below (bk_ l) hb) (blk_below (bk_ x) hb) (blk_below (bk_ y) hb) (below_step (bl3_ HB z U X) hb) ?_
             clear l x y HB hb
             intro l x y HB
             refine ⟨_, _, rfl, (cz10_ l), pt_, fun hHeld => ?_⟩
             exact norm_ pa_ (i0 (s, u) _ ⟨hHeld, (bk_ l), (bk_ x), (bk_ y), d3.out, U.out, a7.out, b5.out, d7.out, d6.out, d4.out, X.out, a8.out, b6.out, (bl3_ HB z U X)⟩)
           ·skip
            rintro u e0 ⟨hS_, b1, b2, b7, b8, b9, c0, c1⟩
            have a9 : Aside0 (e0.heap[m]? = some (.cells #[iv_ G, .slice Y B.length a4, .slice Z D.length a5, iv_ I, iv_ J, iv_ L, iv_ M, iv_ O, .slice a0 E.length a6, iv_ T] 28 (0, 0))) := ⟨b1⟩
            have b0 : Aside0 (e0.heap[u]? = some (.cells #[iv_ 0, iv_ 0] 35 (0, 0))) := ⟨b2⟩
            have b3 : Aside0 (w.heap.size ≤ u) := ⟨b7⟩
            have b4 : Aside0 (w.heap.size ≤ u) := ⟨b8⟩
            have d0 : Aside0 (m ≠ u) := ⟨b9⟩
            have d1 : Aside0 (u ≠ m) := ⟨c0⟩
            have d2 : Aside0 (Below w.heap.size w e0) := ⟨c1⟩
            clear l
            clear HB
            clear b1 b2 b7 b8 b9 c0 c1
            have l := a9
            have y := b0
            have d4 := b3
            have X := b4
            have a8 := d0
            have b6 := d1
            have HB := d2
            clear a9 b0 b3 b4 d0 d1 d2
            have hHeld : Cz10 e0 m (iv_ G) (.slice Y B.length a4) (.slice Z D.length a5) (iv_ I) (iv_ J) (iv_ L) (iv_ M) (iv_ O) (.slice a0 E.length a6) (iv_ T) := hS_
            refine norm_ (a' := ?_) ?_ ?_
            rotate_left
            ·simp only [putAll, Act.put, List.setIfInBounds_toArray, List.set_cons_zero, List.set_cons_succ]
             rfl
            refine two_ (i := 7) (j := 12) (Ni := some 21) (Nj := some 9) (bo_ 17 10239) (bo_ 17 14207) rfl rfl rfl rfl (two_of HT_.out (by kernel_rfl)) (by decide) (by decide) (fun K hK => ?_) (fun K hK => ?_)
            ·skip
             refine goes_ Try.func13 (by kernel_rfl) rfl #[.agg #[iv_ G, .slice Y B.length a4, .slice Z D.length a5, iv_ I, iv_ J, iv_ L, iv_ M, iv_ O, .slice a0 E.length a6, iv_ T], iv_ a2, iv_ a3] (by rfl) rfl rfl mp_ ?_
             with_reducible refine (impl_NodeAt.calls G _ _ B _ _ D I J L M O _ _ E T a2 a3 e2 e1 _ ?side1 ?side2 ?side3 ?side4 ?side5 ?side6 A6.out).mono ?_
             (case side1 => exact ck_ f3 HB)
             (case side2 => exact f0.out)
             (case side3 => exact ck_ f4 HB)
             (case side4 => exact f1.out)
             (case side5 => exact ck_ f5 HB)
             (case side6 => exact f2.out)
             rintro e d8 ⟨rfl, hb⟩
             refine ⟨_, rfl, sh3_ (blk_below (bk_ l) hb) (blk_below (bk_ y) hb) (below_step (bl2_ HB z X) hb) ?_⟩
             clear l y HB hb
             intro l y HB
             refine hK.out _ _ (cz10_ l) (fun hHeld => ?_)
             clear hK K
             refine norm_ (show Act.put _ (some 21) _ = _ from pt_) ?_
             exact norm_ pa_ (j1 (u) _ ⟨hHeld, (bk_ l), (bk_ y), d4.out, X.out, a8.out, b6.out, (bl2_ HB z X)⟩)
            ·skip
             refine bxs_ 9 35 #[iv_ 0, iv_ 0] ?_
             intro s hg d8 hbox hb
             refine sh10_ (blk_below (bk_ l) hb) (blk_below (bk_ y) hb) (below_step (bl2_ HB z X) hb) hbox (ge_ hg (bl2_ HB z X)) (ge_ hg (bl2_ HB z X)) (nl_ hg (bk_ l)) (ng_ hg (bk_ l)) (nl_ hg (bk_ y)) (ng_ hg (bk_ y)) ?_
             clear l y HB hb hbox hg
             intro l y HB x d3 U a7 b5 d7 d6
             refine hK.out _ _ (cz10_ l) (fun hHeld => ?_)
             clear hK K
             refine norm_ (show Act.put _ (some 9) _ = _ from pt_) ?_
             exact norm_ pa_ (i0 (s, u) _ ⟨hHeld, (bk_ l), (bk_ x), (bk_ y), d3.out, U.out, a7.out, b5.out, d7.out, d6.out, d4.out, X.out, a8.out, b6.out, (bl3_ HB z X U)⟩)
          ·skip
           rintro s e0 ⟨hS_, b1, b2, b7, b8, b9, c0, c1⟩
           have a9 : Aside0 (e0.heap[m]? = some (.cells #[iv_ G, .slice Y B.length a4, .slice Z D.length a5, iv_ I, iv_ J, iv_ L, iv_ M, iv_ O, .slice a0 E.length a6, iv_ T] 28 (0, 0))) := ⟨b1⟩
           have b0 : Aside0 (e0.heap[s]? = some (.cells #[iv_ 0, iv_ 0] 35 (0, 0))) := ⟨b2⟩
           have b3 : Aside0 (w.heap.size ≤ s) := ⟨b7⟩
           have b4 : Aside0 (w.heap.size ≤ s) := ⟨b8⟩
           have d0 : Aside0 (m ≠ s) := ⟨b9⟩
           have d1 : Aside0 (s ≠ m) := ⟨c0⟩
           have d2 : Aside0 (Below w.heap.size w e0) := ⟨c1⟩
           clear l
           clear HB
           clear b1 b2 b7 b8 b9 c0 c1
           have l := a9
           have x := b0
           have d3 := b3
           have U := b4
           have a7 := d0
           have b5 := d1
           have HB := d2
           clear a9 b0 b3 b4 d0 d1 d2
           have hHeld : Cz10 e0 m (iv_ G) (.slice Y B.length a4) (.slice Z D.length a5) (iv_ I) (iv_ J) (iv_ L) (iv_ M) (iv_ O) (.slice a0 E.length a6) (iv_ T) := hS_
           refine norm_ (a' := ?_) ?_ ?_
           rotate_left
           ·simp only [putAll, Act.put, List.setIfInBounds_toArray, List.set_cons_zero, List.set_cons_succ]
            rfl
           refine two_ (i := 7) (j := 13) (Ni := some 21) (Nj := some 10) (bo_ 17 6143) (bo_ 17 14207) rfl rfl rfl rfl (two_of HT_.out (by kernel_rfl)) (by decide) (by decide) (fun K hK => ?_) (fun K hK => ?_)
           ·skip
            refine goes_ Try.func13 (by kernel_rfl) rfl #[.agg #[iv_ G, .slice Y B.length a4, .slice Z D.length a5, iv_ I, iv_ J, iv_ L, iv_ M, iv_ O, .slice a0 E.length a6, iv_ T], iv_ a2, iv_ a3] (by rfl) rfl rfl mp_ ?_
            with_reducible refine (impl_NodeAt.calls G _ _ B _ _ D I J L M O _ _ E T a2 a3 e2 e1 _ ?side1 ?side2 ?side3 ?side4 ?side5 ?side6 A6.out).mono ?_
            (case side1 => exact ck_ f3 HB)
            (case side2 => exact f0.out)
            (case side3 => exact ck_ f4 HB)
            (case side4 => exact f1.out)
            (case side5 => exact ck_ f5 HB)
            (case side6 => exact f2.out)
            rintro e d8 ⟨rfl, hb⟩
            refine ⟨_, rfl, sh3_ (blk_below (bk_ l) hb) (blk_below (bk_ x) hb) (below_step (bl2_ HB z U) hb) ?_⟩
            clear l x HB hb
            intro l x HB
            refine hK.out _ _ (cz10_ l) (fun hHeld => ?_)
            clear hK K
            refine norm_ (show Act.put _ (some 21) _ = _ from pt_) ?_
            exact norm_ pa_ (i9 (s) _ ⟨hHeld, (bk_ l), (bk_ x), d3.out, U.out, a7.out, b5.out, (bl2_ HB z U)⟩)
           ·skip
            refine bxs_ 10 35 #[iv_ 0, iv_ 0] ?_
            intro u hg d8 hbox hb
            refine sh10_ (blk_below (bk_ l) hb) (blk_below (bk_ x) hb) (below_step (bl2_ HB z U) hb) hbox (ge_ hg (bl2_ HB z U)) (ge_ hg (bl2_ HB z U)) (nl_ hg (bk_ l)) (ng_ hg (bk_ l)) (nl_ hg (bk_ x)) (ng_ hg (bk_ x)) ?_
            clear l x HB hb hbox hg
            intro l x HB y d4 X a8 b6 d6 d7
            refine hK.out _ _ (cz10_ l) (fun hHeld => ?_)
            clear hK K
            refine norm_ (show Act.put _ (some 10) _ = _ from pt_) ?_
            exact norm_ pa_ (i0 (s, u) _ ⟨hHeld, (bk_ l), (bk_ x), (bk_ y), d3.out, U.out, a7.out, b5.out, d7.out, d6.out, d4.out, X.out, a8.out, b6.out, (bl3_ HB z U X)⟩)
         ·skip
          rintro _ e0 ⟨hS_, b1, b2⟩
          have a9 : Aside0 (e0.heap[m]? = some (.cells #[iv_ G, .slice Y B.length a4, .slice Z D.length a5, iv_ I, iv_ J, iv_ L, iv_ M, iv_ O, .slice a0 E.length a6, iv_ T] 28 (0, 0))) := ⟨b1⟩
          have b0 : Aside0 (Below w.heap.size w e0) := ⟨b2⟩
          clear l
          clear HB
          clear b1 b2
          have l := a9
          have HB := b0
          clear a9 b0
          have hHeld : Cz10 e0 m (iv_ G) (.slice Y B.length a4) (.slice Z D.length a5) (iv_ I) (iv_ J) (iv_ L) (iv_ M) (iv_ O) (.slice a0 E.length a6) (iv_ T) := hS_
          refine norm_ (a' := ?_) ?_ ?_
          rotate_left
          ·simp only [putAll, Act.put, List.setIfInBounds_toArray, List.set_cons_zero, List.set_cons_succ]
           rfl
          refine three_ (i := 11) (j := 12) (k := 13) (Ni := some 25) (Nj := some 9) (Nk := some 10) (bo_ 17 4095) (bo_ 17 6143) (bo_ 17 10239) rfl rfl rfl rfl rfl rfl (three_of HT_.out (by kernel_rfl)) (by decide) (by decide) (by decide) (fun K hK => ?_) (fun K hK => ?_) (fun K hK => ?_)
          ·skip
           refine goes_ Try.func11 (by kernel_rfl) rfl #[.agg #[iv_ G, .slice Y B.length a4, .slice Z D.length a5, iv_ I, iv_ J, iv_ L, iv_ M, iv_ O, .slice a0 E.length a6, iv_ T], iv_ a1, iv_ a2] (by rfl) rfl rfl mp_ ?_
           with_reducible refine (impl_LimitOf.calls k G _ _ B _ _ D I J L M O _ _ E T a1 a2 e8 _ ?side1 ?side2 ?side3 ?side4 ?side5 ?side6 A7.out).mono ?_
           (case side1 => exact ck_ f3 HB)
           (case side2 => exact f0.out)
           (case side3 => exact ck_ f4 HB)
           (case side4 => exact f1.out)
           (case side5 => exact ck_ f5 HB)
           (case side6 => exact f2.out)
           rintro e d8 ⟨rfl, hb⟩
           refine ⟨_, rfl, sh2_ (blk_below (bk_ l) hb) (below_step (bl1_ HB z) hb) ?_⟩
           clear l HB hb
           intro l HB
           refine hK.out _ _ (cz10_ l) (fun hHeld => ?_)
           clear hK K
           refine norm_ (show Act.put _ (some 25) _ = _ from pt_) ?_
           exact norm_ pa_ (k9 () _ ⟨hHeld, (bk_ l), (bl1_ HB z)⟩)
          ·skip
           refine bxs_ 9 35 #[iv_ 0, iv_ 0] ?_
           intro s hg d8 hbox hb
           refine sh7_ (blk_below (bk_ l) hb) (below_step (bl1_ HB z) hb) hbox (ge_ hg (bl1_ HB z)) (ge_ hg (bl1_ HB z)) (nl_ hg (bk_ l)) (ng_ hg (bk_ l)) ?_
           clear l HB hb hbox hg
           intro l HB x d3 U a7 b5
           refine hK.out _ _ (cz10_ l) (fun hHeld => ?_)
           clear hK K
           refine norm_ (show Act.put _ (some 9) _ = _ from pt_) ?_
           exact norm_ pa_ (i9 (s) _ ⟨hHeld, (bk_ l), (bk_ x), d3.out, U.out, a7.out, b5.out, (bl2_ HB z U)⟩)
          ·skip
           refine bxs_ 10 35 #[iv_ 0, iv_ 0] ?_
           intro u hg d8 hbox hb
           refine sh7_ (blk_below (bk_ l) hb) (below_step (bl1_ HB z) hb) hbox (ge_ hg (bl1_ HB z)) (ge_ hg (bl1_ HB z)) (nl_ hg (bk_ l)) (ng_ hg (bk_ l)) ?_
           clear l HB hb hbox hg
           intro l HB y d4 X a8 b6
           refine hK.out _ _ (cz10_ l) (fun hHeld => ?_)
           clear hK K
           refine norm_ (show Act.put _ (some 10) _ = _ from pt_) ?_
           exact norm_ pa_ (j1 (u) _ ⟨hHeld, (bk_ l), (bk_ y), d4.out, X.out, a8.out, b6.out, (bl2_ HB z X)⟩)
        ·skip
         rintro ⟨s, u⟩ d8 ⟨hS_, b1, b2, b7, b8, b9, c0, c1, g0, g1, g2, f6, f7, f8, f9⟩
         have a9 : Aside0 (d8.heap[m]? = some (.cells #[iv_ G, .slice Y B.length a4, .slice Z D.length a5, iv_ I, iv_ J, iv_ L, iv_ M, iv_ O, .slice a0 E.length a6, iv_ T] 28 (0, 0))) := ⟨b1⟩
         have b0 : Aside0 (d8.heap[s]? = some (.cells #[iv_ 0, iv_ 0] 35 (0, 0))) := ⟨b2⟩
         have b3 : Aside0 (d8.heap[u]? = some (.cells #[iv_ 0, iv_ 0] 35 (0, 0))) := ⟨b7⟩
         have b4 : Aside0 (w.heap.size ≤ s) := ⟨b8⟩
         have d0 : Aside0 (w.heap.size ≤ s) := ⟨b9⟩
         have d1 : Aside0 (m ≠ s) := ⟨c0⟩
         have d2 : Aside0 (s ≠ m) := ⟨c1⟩
         have g7 : Aside0 (u ≠ s) := ⟨g0⟩
         have g8 : Aside0 (s ≠ u) := ⟨g1⟩
         have g9 : Aside0 (w.heap.size ≤ u) := ⟨g2⟩
         have g3 : Aside0 (w.heap.size ≤ u) := ⟨f6⟩
         have g4 : Aside0 (m ≠ u) := ⟨f7⟩
         have g5 : Aside0 (u ≠ m) := ⟨f8⟩
         have g6 : Aside0 (Below w.heap.size w d8) := ⟨f9⟩
         clear l
         clear HB
         clear b1 b2 b7 b8 b9 c0 c1 g0 g1 g2 f6 f7 f8 f9
         have l := a9
         have x := b0
         have y := b3
         have d3 := b4
         have U := d0
         have a7 := d1
         have b5 := d2
         have d7 := g7
         have d6 := g8
         have d4 := g9
         have X := g3
         have a8 := g4
         have b6 := g5
         have HB := g6
         clear a9 b0 b3 b4 d0 d1 d2 g7 g8 g9 g3 g4 g5 g6
         have hHeld : Cz10 d8 m (iv_ G) (.slice Y B.length a4) (.slice Z D.length a5) (iv_ I) (iv_ J) (iv_ L) (iv_ M) (iv_ O) (.slice a0 E.length a6) (iv_ T) := hS_
         refine norm_ (a' := ?_) ?_ ?_
         rotate_left
         ·simp only [putAll, Act.put, List.setIfInBounds_toArray, List.set_cons_zero, List.set_cons_succ]
          rfl
         refine onc_ 7 (bo_ 17 14335) (some 21) HT_ Try.func13 (impl_NodeAt.calls G _ _ B _ _ D I J L M O _ _ E T a2 a3 e2 e1 _ (ck_ f3 HB) f0.out (ck_ f4 HB) f1.out (ck_ f5 HB) f2.out A6.out) ?_
         rintro e e3 ⟨rfl, hb⟩
         refine sh4_ (blk_below (bk_ l) hb) (blk_below (bk_ x) hb) (blk_below (bk_ y) hb) (below_step (bl3_ HB z U X) hb) ?_
         clear l x y HB hb
         intro l x y HB
         refine ⟨_, _, rfl, (cz10_ l), pt_, fun hHeld => ?_⟩
         exact norm_ pa_ (i2 (s, u) _ ⟨hHeld, (bk_ l), (bk_ x), (bk_ y), d3.out, U.out, a7.out, b5.out, d7.out, d6.out, d4.out, X.out, a8.out, b6.out, (bl3_ HB z U X)⟩)
       ·skip
        rintro u d8 ⟨hS_, b1, b2, b7, b8, b9, c0, c1⟩
        have a9 : Aside0 (d8.heap[m]? = some (.cells #[iv_ G, .slice Y B.length a4, .slice Z D.length a5, iv_ I, iv_ J, iv_ L, iv_ M, iv_ O, .slice a0 E.length a6, iv_ T] 28 (0, 0))) := ⟨b1⟩
        have b0 : Aside0 (d8.heap[u]? = some (.cells #[iv_ 0, iv_ 0] 35 (0, 0))) := ⟨b2⟩
        have b3 : Aside0 (w.heap.size ≤ u) := ⟨b7⟩
        have b4 : Aside0 (w.heap.size ≤ u) := ⟨b8⟩
        have d0 : Aside0 (m ≠ u) := ⟨b9⟩
        have d1 : Aside0 (u ≠ m) := ⟨c0⟩
        have d2 : Aside0 (Below w.heap.size w d8) := ⟨c1⟩
        clear l
        clear HB
        clear b1 b2 b7 b8 b9 c0 c1
        have l := a9
        have y := b0
        have d4 := b3
        have X := b4
        have a8 := d0
        have b6 := d1
        have HB := d2
        clear a9 b0 b3 b4 d0 d1 d2
        have hHeld : Cz10 d8 m (iv_ G) (.slice Y B.length a4) (.slice Z D.length a5) (iv_ I) (iv_ J) (iv_ L) (iv_ M) (iv_ O) (.slice a0 E.length a6) (iv_ T) := hS_
        refine norm_ (a' := ?_) ?_ ?_
        rotate_left
        ·simp only [putAll, Act.put, List.setIfInBounds_toArray, List.set_cons_zero, List.set_cons_succ]
         rfl
        refine two_ (i := 11) (j := 12) (Ni := some 25) (Nj := some 9) (bo_ 17 12287) (bo_ 17 14335) rfl rfl rfl rfl (two_of HT_.out (by kernel_rfl)) (by decide) (by decide) (fun K hK => ?_) (fun K hK => ?_)
        ·skip
         refine goes_ Try.func11 (by kernel_rfl) rfl #[.agg #[iv_ G, .slice Y B.length a4, .slice Z D.length a5, iv_ I, iv_ J, iv_ L, iv_ M, iv_ O, .slice a0 E.length a6, iv_ T], iv_ a1, iv_ a2] (by rfl) rfl rfl mp_ ?_
         with_reducible refine (impl_LimitOf.calls k G _ _ B _ _ D I J L M O _ _ E T a1 a2 e8 _ ?side1 ?side2 ?side3 ?side4 ?side5 ?side6 A7.out).mono ?_
         (case side1 => exact ck_ f3 HB)
         (case side2 => exact f0.out)
         (case side3 => exact ck_ f4 HB)
         (case side4 => exact f1.out)
         (case side5 => exact ck_ f5 HB)
         (case side6 => exact f2.out)
         rintro e e3 ⟨rfl, hb⟩
         refine ⟨_, rfl, sh3_ (blk_below (bk_ l) hb) (blk_below (bk_ y) hb) (below_step (bl2_ HB z X) hb) ?_⟩
         clear l y HB hb
         intro l y HB
         refine hK.out _ _ (cz10_ l) (fun hHeld => ?_)
         clear hK K
         refine norm_ (show Act.put _ (some 25) _ = _ from pt_) ?_
         exact norm_ pa_ (i8 (u) _ ⟨hHeld, (bk_ l), (bk_ y), d4.out, X.out, a8.out, b6.out, (bl2_ HB z X)⟩)
        ·skip
         refine bxs_ 9 35 #[iv_ 0, iv_ 0] ?_
         intro s hg e3 hbox hb
         refine sh10_ (blk_below (bk_ l) hb) (blk_below (bk_ y) hb) (below_step (bl2_ HB z X) hb) hbox (ge_ hg (bl2_ HB z X)) (ge_ hg (bl2_ HB z X)) (nl_ hg (bk_ l)) (ng_ hg (bk_ l)) (nl_ hg (bk_ y)) (ng_ hg (bk_ y)) ?_
         clear l y HB hb hbox hg
         intro l y HB x d3 U a7 b5 d7 d6
         refine hK.out _ _ (cz10_ l) (fun hHeld => ?_)
         clear hK K
         refine norm_ (show Act.put _ (some 9) _ = _ from pt_) ?_
         exact norm_ pa_ (i2 (s, u) _ ⟨hHeld, (bk_ l), (bk_ x), (bk_ y), d3.out, U.out, a7.out, b5.out, d7.out, d6.out, d4.out, X.out, a8.out, b6.out, (bl3_ HB z X U)⟩)
      ·skip
       rintro s d8 ⟨hS_, b1, b2, b7, b8, b9, c0, c1⟩
       have a9 : Aside0 (d8.heap[m]? = some (.cells #[iv_ G, .slice Y B.length a4, .slice Z D.length a5, iv_ I, iv_ J, iv_ L, iv_ M, iv_ O, .slice a0 E.length a6, iv_ T] 28 (0, 0))) := ⟨b1⟩
       have b0 : Aside0 (d8.heap[s]? = some (.cells #[iv_ 0, iv_ 0] 35 (0, 0))) := ⟨b2⟩
       have b3 : Aside0 (w.heap.size ≤ s) := ⟨b7⟩
       have b4 : Aside0 (w.heap.size ≤ s) := ⟨b8⟩
       have d0 : Aside0 (m ≠ s) := ⟨b9⟩
       have d1 : Aside0 (s ≠ m) := ⟨c0⟩
       have d2 : Aside0 (Below w.heap.size w d8) := ⟨c1⟩
       clear l
       clear HB
       clear b1 b2 b7 b8 b9 c0 c1
       have l := a9
       have x := b0
       have d3 := b3
       have U := b4
       have a7 := d0
       have b5 := d1
       have HB := d2
       clear a9 b0 b3 b4 d0 d1 d2
       have hHeld : Cz10 d8 m (iv_ G) (.slice Y B.length a4) (.slice Z D.length a5) (iv_ I) (iv_ J) (iv_ L) (iv_ M) (iv_ O) (.slice a0 E.length a6) (iv_ T) := hS_
       refine norm_ (a' := ?_) ?_ ?_
       rotate_left
       ·simp only [putAll, Act.put, List.setIfInBounds_toArray, List.set_cons_zero, List.set_cons_succ]
        rfl
       refine two_ (i := 11) (j := 13) (Ni := some 25) (Nj := some 10) (bo_ 17 8191) (bo_ 17 14335) rfl rfl rfl rfl (two_of HT_.out (by kernel_rfl)) (by decide) (by decide) (fun K hK => ?_) (fun K hK => ?_)
       ·skip
        refine goes_ Try.func11 (by kernel_rfl) rfl #[.agg #[iv_ G, .slice Y B.length a4, .slice Z D.length a5, iv_ I, iv_ J, iv_ L, iv_ M, iv_ O, .slice a0 E.length a6, iv_ T], iv_ a1, iv_ a2] (by rfl) rfl rfl mp_ ?_
        with_reducible refine (impl_LimitOf.calls k G _ _ B _ _ D I J L M O _ _ E T a1 a2 e8 _ ?side1 ?side2 ?side3 ?side4 ?side5 ?side6 A7.out).mono ?_
        (case side1 => exact ck_ f3 HB)
        (case side2 => exact f0.out)
        (case side3 => exact ck_ f4 HB)
        (case side4 => exact f1.out)
        (case side5 => exact ck_ f5 HB)
        (case side6 => exact f2.out)
        rintro e e3 ⟨rfl, hb⟩
        refine ⟨_, rfl, sh3_ (blk_below (bk_ l) hb) (blk_below (bk_ x) hb) (below_step (bl2_ HB z U) hb) ?_⟩
        clear l x HB hb
        intro l x HB
        refine hK.out _ _ (cz10_ l) (fun hHeld => ?_)
        clear hK K
        refine norm_ (show Act.put _ (some 25) _ = _ from pt_) ?_
        exact norm_ pa_ (i7 (s) _ ⟨hHeld, (bk_ l), (bk_ x), d3.out, U.out, a7.out, b5.out, (bl2_ HB z U)⟩)
       ·skip
        refine bxs_ 10 35 #[iv_ 0, iv_ 0] ?_
        intro u hg e3 hbox hb
        refine sh10_ (blk_below (bk_ l) hb) (blk_below (bk_ x) hb) (below_step (bl2_ HB z U) hb) hbox (ge_ hg (bl2_ HB z U)) (ge_ hg (bl2_ HB z U)) (nl_ hg (bk_ l)) (ng_ hg (bk_ l)) (nl_ hg (bk_ x)) (ng_ hg (bk_ x)) ?_
        clear l x HB hb hbox hg
        intro l x HB y d4 X a8 b6 d6 d7
        refine hK.out _ _ (cz10_ l) (fun hHeld => ?_)
        clear hK K
        refine norm_ (show Act.put _ (some 10) _ = _ from pt_) ?_
        exact norm_ pa_ (i2 (s, u) _ ⟨hHeld, (bk_ l), (bk_ x), (bk_ y), d3.out, U.out, a7.out, b5.out, d7.out, d6.out, d4.out, X.out, a8.out, b6.out, (bl3_ HB z U X)⟩)
     ·skip
      rintro _ d8 ⟨hS_, b1, b2⟩
      have a9 : Aside0 (d8.heap[m]? = some (.cells #[iv_ G, .slice Y B.length a4, .slice Z D.length a5, iv_ I, iv_ J, iv_ L, iv_ M, iv_ O, .slice a0 E.length a6, iv_ T] 28 (0, 0))) := ⟨b1⟩
      have b0 : Aside0 (Below w.heap.size w d8) := ⟨b2⟩
      clear l
      clear HB
      clear b1 b2
      have l := a9
      have HB := b0
      clear a9 b0
      have hHeld : Cz10 d8 m (iv_ G) (.slice Y B.length a4) (.slice Z D.length a5) (iv_ I) (iv_ J) (iv_ L) (iv_ M) (iv_ O) (.slice a0 E.length a6) (iv_ T) := hS_
      refine norm_ (a' := ?_) ?_ ?_
      rotate_left
      ·simp only [putAll, Act.put, List.setIfInBounds_toArray, List.set_cons_zero, List.set_cons_succ]
       rfl
      refine two_ (i := 12) (j := 13) (Ni := some 9) (Nj := some 10) (bo_ 17 8191) (bo_ 17 12287) rfl rfl rfl rfl (two_of HT_.out (by kernel_rfl)) (by decide) (by decide) (fun K hK => ?_) (fun K hK => ?_)
      ·skip
       refine bxs_ 9 35 #[iv_ 0, iv_ 0] ?_
       intro s hg e3 hbox hb
       refine sh7_ (blk_below (bk_ l) hb) (below_step (bl1_ HB z) hb) hbox (ge_ hg (bl1_ HB z)) (ge_ hg (bl1_ HB z)) (nl_ hg (bk_ l)) (ng_ hg (bk_ l)) ?_
       clear l HB hb hbox hg
       intro l HB x d3 U a7 b5
       refine hK.out _ _ (cz10_ l) (fun hHeld => ?_)
       clear hK K
       refine norm_ (show Act.put _ (some 9) _ = _ from pt_) ?_
       exact norm_ pa_ (i7 (s) _ ⟨hHeld, (bk_ l), (bk_ x), d3.out, U.out, a7.out, b5.out, (bl2_ HB z U)⟩)
      ·skip
       refine bxs_ 10 35 #[iv_ 0, iv_ 0] ?_
       intro u hg e3 hbox hb
       refine sh7_ (blk_below (bk_ l) hb) (below_step (bl1_ HB z) hb) hbox (ge_ hg (bl1_ HB z)) (ge_ hg (bl1_ HB z)) (nl_ hg (bk_ l)) (ng_ hg (bk_ l)) ?_
       clear l HB hb hbox hg
       intro l HB y d4 X a8 b6
       refine hK.out _ _ (cz10_ l) (fun hHeld => ?_)
       clear hK K
       refine norm_ (show Act.put _ (some 10) _ = _ from pt_) ?_
       exact norm_ pa_ (i8 (u) _ ⟨hHeld, (bk_ l), (bk_ y), d4.out, X.out, a8.out, b6.out, (bl2_ HB z X)⟩)
    ·skip
     rintro ⟨s, u⟩ e3 ⟨hS_, b1, b2, b7, b8, b9, c0, c1, g0, g1, g2, f6, f7, f8, f9⟩
     have a9 : Aside0 (e3.heap[m]? = some (.cells #[iv_ G, .slice Y B.length a4, .slice Z D.length a5, iv_ I, iv_ J, iv_ L, iv_ M, iv_ O, .slice a0 E.length a6, iv_ T] 28 (0, 0))) := ⟨b1⟩
     have b0 : Aside0 (e3.heap[s]? = some (.cells #[iv_ 0, iv_ 0] 35 (0, 0))) := ⟨b2⟩
     have b3 : Aside0 (e3.heap[u]? = some (.cells #[iv_ 0, iv_ 0] 35 (0, 0))) := ⟨b7⟩
     have b4 : Aside0 (w.heap.size ≤ s) := ⟨b8⟩
     have d0 : Aside0 (w.heap.size ≤ s) := ⟨b9⟩
     have d1 : Aside0 (m ≠ s) := ⟨c0⟩
     have d2 : Aside0 (s ≠ m) := ⟨c1⟩
     have g7 : Aside0 (u ≠ s) := ⟨g0⟩
     have g8 : Aside0 (s ≠ u) := ⟨g1⟩
     have g9 : Aside0 (w.heap.size ≤ u) := ⟨g2⟩
     have g3 : Aside0 (w.heap.size ≤ u) := ⟨f6⟩
     have g4 : Aside0 (m ≠ u) := ⟨f7⟩
     have g5 : Aside0 (u ≠ m) := ⟨f8⟩
     have g6 : Aside0 (Below w.heap.size w e3) := ⟨f9⟩
     clear l
     clear HB
     clear b1 b2 b7 b8 b9 c0 c1 g0 g1 g2 f6 f7 f8 f9
     have l := a9
     have x := b0
     have y := b3
     have d3 := b4
     have U := d0
     have a7 := d1
     have b5 := d2
     have d7 := g7
     have d6 := g8
     have d4 := g9
     have X := g3
     have a8 := g4
     have b6 := g5
     have HB := g6
     clear a9 b0 b3 b4 d0 d1 d2 g7 g8 g9 g3 g4 g5 g6
     have hHeld : Cz10 e3 m (iv_ G) (.slice Y B.length a4) (.slice Z D.length a5) (iv_ I) (iv_ J) (iv_ L) (iv_ M) (iv_ O) (.slice a0 E.length a6) (iv_ T) := hS_
     refine norm_ (a' := ?_) ?_ ?_
     rotate_left
     ·simp only [putAll, Act.put, List.setIfInBounds_toArray, List.set_cons_zero, List.set_cons_succ]
      rfl
     refine onc_ 11 (bo_ 17 16383) (some 25) HT_ Try.func11 (impl_LimitOf.calls k G _ _ B _ _ D I J L M O _ _ E T a1 a2 e8 _ (ck_ f3 HB) f0.out (ck_ f4 HB) f1.out (ck_ f5 HB) f2.out A7.out) ?_
     rintro e e4 ⟨rfl, hb⟩
     refine sh4_ (blk_below (bk_ l) hb) (blk_below (bk_ x) hb) (blk_below (bk_ y) hb) (below_step (bl3_ HB z U X) hb) ?_
     clear l x y HB hb
     intro l x y HB
     refine ⟨_, _, rfl, (cz10_ l), pt_, fun hHeld => ?_⟩
     exact norm_ pa_ (i1 (s, u) _ ⟨hHeld, (bk_ l), (bk_ x), (bk_ y), d3.out, U.out, a7.out, b5.out, d7.out, d6.out, d4.out, X.out, a8.out, b6.out, (bl3_ HB z U X)⟩)
   ·skip
    rintro u e3 ⟨hS_, b1, b2, b7, b8, b9, c0, c1⟩
    have a9 : Aside0 (e3.heap[m]? = some (.cells #[iv_ G, .slice Y B.length a4, .slice Z D.length a5, iv_ I, iv_ J, iv_ L, iv_ M, iv_ O, .slice a0 E.length a6, iv_ T] 28 (0, 0))) := ⟨b1⟩
    have b0 : Aside0 (e3.heap[u]? = some (.cells #[iv_ 0, iv_ 0] 35 (0, 0))) := ⟨b2⟩
    have b3 : Aside0 (w.heap.size ≤ u) := ⟨b7⟩
    have b4 : Aside0 (w.heap.size ≤ u) := ⟨b8⟩
    have d0 : Aside0 (m ≠ u) := ⟨b9⟩
    have d1 : Aside0 (u ≠ m) := ⟨c0⟩
    have d2 : Aside0 (Below w.heap.size w e3) := ⟨c1⟩
    clear l
    clear HB
    clear b1 b2 b7 b8 b9 c0 c1
    have l := a9
    have y := b0
    have d4 := b3
    have X := b4
    have a8 := d0
    have b6 := d1
    have HB := d2
    clear a9 b0 b3 b4 d0 d1 d2
    have hHeld : Cz10 e3 m (iv_ G) (.slice Y B.length a4) (.slice Z D.length a5) (iv_ I) (iv_ J) (iv_ L) (iv_ M) (iv_ O) (.slice a0 E.length a6) (iv_ T) := hS_
    refine norm_ (a' := ?_) ?_ ?_
    rotate_left
    ·simp only [putAll, Act.put, List.setIfInBounds_toArray, List.set_cons_zero, List.set_cons_succ]
     rfl
    refine one_ (i := 12) (N := some 9) (bo_ 17 16383) rfl rfl (one_of HT_.out (by kernel_rfl)) (by decide) (fun K hK => ?_)
    refine bxs_ 9 35 #[iv_ 0, iv_ 0] ?_
    intro s hg e4 hbox hb
    refine sh10_ (blk_below (bk_ l) hb) (blk_below (bk_ y) hb) (below_step (bl2_ HB z X) hb) hbox (ge_ hg (bl2_ HB z X)) (ge_ hg (bl2_ HB z X)) (nl_ hg (bk_ l)) (ng_ hg (bk_ l)) (nl_ hg (bk_ y)) (ng_ hg (bk_ y)) ?_
    clear l y HB hb hbox hg
    intro l y HB x d3 U a7 b5 d7 d6
    refine hK.out _ _ (cz10_ l) (fun hHeld => ?_)
    clear hK K
    refine norm_ (show Act.put _ (some 9) _ = _ from pt_) ?_
    exact norm_ pa_ (i1 (s, u) _ ⟨hHeld, (bk_ l), (bk_ x), (bk_ y), d3.out, U.out, a7.out, b5.out, d7.out, d6.out, d4.out, X.out, a8.out, b6.out, (bl3_ HB z X U)⟩)
  ·skip
   rintro s e3 ⟨hS_, b1, b2, b7, b8, b9, c0, c1⟩
   have a9 : Aside0 (e3.heap[m]? = some (.cells #[iv_ G, .slice Y B.length a4, .slice Z D.length a5, iv_ I, iv_ J, iv_ L, iv_ M, iv_ O, .slice a0 E.length a6, iv_ T] 28 (0, 0))) := ⟨b1⟩
   have b0 : Aside0 (e3.heap[s]? = some (.cells #[iv_ 0, iv_ 0] 35 (0, 0))) := ⟨b2⟩
   have b3 : Aside0 (w.heap.size ≤ s) := ⟨b7⟩
   have b4 : Aside0 (w.heap.size ≤ s) := ⟨b8⟩
   have d0 : Aside0 (m ≠ s) := ⟨b9⟩
   have d1 : Aside0 (s ≠ m) := ⟨c0⟩
   have d2 : Aside0 (Below w.heap.size w e3) := ⟨c1⟩
   clear l
   clear HB
   clear b1 b2 b7 b8 b9 c0 c1
   have l := a9
   have x := b0
   have d3 := b3
   have U := b4
   have a7 := d0
   have b5 := d1
   have HB := d2
   clear a9 b0 b3 b4 d0 d1 d2
   have hHeld : Cz10 e3 m (iv_ G) (.slice Y B.length a4) (.slice Z D.length a5) (iv_ I) (iv_ J) (iv_ L) (iv_ M) (iv_ O) (.slice a0 E.length a6) (iv_ T) := hS_
   refine norm_ (a' := ?_) ?_ ?_
   rotate_left
   ·simp only [putAll, Act.put, List.setIfInBounds_toArray, List.set_cons_zero, List.set_cons_succ]
    rfl
   refine one_ (i := 13) (N := some 10) (bo_ 17 16383) rfl rfl (one_of HT_.out (by kernel_rfl)) (by decide) (fun K hK => ?_)
   refine bxs_ 10 35 #[iv_ 0, iv_ 0] ?_
   intro u hg e4 hbox hb
   refine sh10_ (blk_below (bk_ l) hb) (blk_below (bk_ x) hb) (below_step (bl2_ HB z U) hb) hbox (ge_ hg (bl2_ HB z U)) (ge_ hg (bl2_ HB z U)) (nl_ hg (bk_ l)) (ng_ hg (bk_ l)) (nl_ hg (bk_ x)) (ng_ hg (bk_ x)) ?_
   clear l x HB hb hbox hg
   intro l x HB y d4 X a8 b6 d6 d7
   refine hK.out _ _ (cz10_ l) (fun hHeld => ?_)
   clear hK K
   refine norm_ (show Act.put _ (some 10) _ = _ from pt_) ?_
   exact norm_ pa_ (i1 (s, u) _ ⟨hHeld, (bk_ l), (bk_ x), (bk_ y), d3.out, U.out, a7.out, b5.out, d7.out, d6.out, d4.out, X.out, a8.out, b6.out, (bl3_ HB z U X)⟩)
 rintro ⟨s, u⟩ e4 ⟨hS_, b1, b2, b7, b8, b9, c0, c1, g0, g1, g2, f6, f7, f8, f9⟩
 have a9 : Aside0 (e4.heap[m]? = some (.cells #[iv_ G, .slice Y B.length a4, .slice Z D.length a5, iv_ I, iv_ J, iv_ L, iv_ M, iv_ O, .slice a0 E.length a6, iv_ T] 28 (0, 0))) := ⟨b1⟩
 have b0 : Aside0 (e4.heap[s]? = some (.cells #[iv_ 0, iv_ 0] 35 (0, 0))) := ⟨b2⟩
 have b3 : Aside0 (e4.heap[u]? = some (.cells #[iv_ 0, iv_ 0] 35 (0, 0))) := ⟨b7⟩
 have b4 : Aside0 (w.heap.size ≤ s) := ⟨b8⟩
 have d0 : Aside0 (w.heap.size ≤ s) := ⟨b9⟩
 have d1 : Aside0 (m ≠ s) := ⟨c0⟩
 have d2 : Aside0 (s ≠ m) := ⟨c1⟩
 have g7 : Aside0 (u ≠ s) := ⟨g0⟩
 have g8 : Aside0 (s ≠ u) := ⟨g1⟩
 have g9 : Aside0 (w.heap.size ≤ u) := ⟨g2⟩
 have g3 : Aside0 (w.heap.size ≤ u) := ⟨f6⟩
 have g4 : Aside0 (m ≠ u) := ⟨f7⟩
 have g5 : Aside0 (u ≠ m) := ⟨f8⟩
 have g6 : Aside0 (Below w.heap.size w e4) := ⟨f9⟩
 clear l
 clear HB
 clear b1 b2 b7 b8 b9 c0 c1 g0 g1 g2 f6 f7 f8 f9
 have l := a9
 have x := b0
 have y := b3
 have d3 := b4
 have U := d0
 have a7 := d1
 have b5 := d2
 have d7 := g7
 have d6 := g8
 have d4 := g9
 have X := g3
 have a8 := g4
 have b6 := g5
 have HB := g6
 clear a9 b0 b3 b4 d0 d1 d2 g7 g8 g9 g3 g4 g5 g6
 have hHeld : Cz10 e4 m (iv_ G) (.slice Y B.length a4) (.slice Z D.length a5) (iv_ I) (iv_ J) (iv_ L) (iv_ M) (iv_ O) (.slice a0 E.length a6) (iv_ T) := hS_
 refine norm_ (a' := ?_) ?_ ?_
 rotate_left
 ·simp only [putAll, Act.put, List.setIfInBounds_toArray, List.set_cons_zero, List.set_cons_succ]
  rfl
 refine one_ (i := 14) (N := none) (bo_ 17 32767) rfl rfl (one_of HT_.out (by kernel_rfl)) (by decide) (fun K hK => ?_)
 have n4 : e4.cell? ⟨s, 0, none⟩ = some (iv_ 0) := bc_ x 0 rfl
 have l4 := bf_ x 0
 have m6 := a7.out
 have m7 := d7.out
 have l8 := b5.out
 have l9 := d6.out
 have n5 : e4.cell? ⟨s, 1, none⟩ = some (iv_ 0) := bc_ x 1 rfl
 have l5 := bf_ x 1
 have m8 := a7.out
 have m9 := d7.out
 have m0 := b5.out
 have m1 := d6.out
 refine skip_ (w1 := ?_) (by rfl) rfl ?_ ?_
 rotate_left
 ·go_simp
  rfl
 refine hK.out _ _ ⟨((cell_far (p := ⟨s, _, none⟩) a7.out _).trans (((cell_far (p := ⟨s, _, none⟩) a7.out _).trans (hHeld.1)))), ((cell_far (p := ⟨s, _, none⟩) a7.out _).trans (((cell_far (p := ⟨s, _, none⟩) a7.out _).trans (hHeld.2.1)))), ((cell_far (p := ⟨s, _, none⟩) a7.out _).trans (((cell_far (p := ⟨s, _, none⟩) a7.out _).trans (hHeld.2.2.1)))), ((cell_far (p := ⟨s, _, none⟩) a7.out _).trans (((cell_far (p := ⟨s, _, none⟩) a7.out _).trans (hHeld.2.2.2.1)))), ((cell_far (p := ⟨s, _, none⟩) a7.out _).trans (((cell_far (p := ⟨s, _, none⟩) a7.out _).trans (hHeld.2.2.2.2.1)))), ((cell_far (p := ⟨s, _, none⟩) a7.out _).trans (((cell_far (p := ⟨s, _, none⟩) a7.out _).trans (hHeld.2.2.2.2.2.1)))), ((cell_far (p := ⟨s, _, none⟩) a7.out _).trans (((cell_far (p := ⟨s, _, none⟩) a7.out _).trans (hHeld.2.2.2.2.2.2.1)))), ((cell_far (p := ⟨s, _, none⟩) a7.out _).trans (((cell_far (p := ⟨s, _, none⟩) a7.out _).trans (hHeld.2.2.2.2.2.2.2.1)))), ((cell_far (p := ⟨s, _, none⟩) a7.out _).trans (((cell_far (p := ⟨s, _, none⟩) a7.out _).trans (hHeld.2.2.2.2.2.2.2.2.1)))), ((cell_far (p := ⟨s, _, none⟩) a7.out _).trans (((cell_far (p := ⟨s, _, none⟩) a7.out _).trans (hHeld.2.2.2.2.2.2.2.2.2))))⟩ (fun hHeld => ?_)
 clear hK K
 refine one_ (i := 15) (N := none) (bo_ 17 65535) rfl rfl (one_of HT_.out (by kernel_rfl)) (by decide) (fun K hK => ?_)
 have n6 : e4.cell? ⟨u, 0, none⟩ = some (iv_ 0) := bc_ y 0 rfl
 have l6 := bf_ y 0
 have n0 := a8.out
 have n1 := d6.out
 have m2 := b6.out
 have m3 := d7.out
 have n7 : e4.cell? ⟨u, 1, none⟩ = some (iv_ 0) := bc_ y 1 rfl
 have l7 := bf_ y 1
 have n2 := a8.out
 have n3 := d6.out
 have m4 := b6.out
 have m5 := d7.out
 refine skip_ (w1 := ?_) (by rfl) rfl ?_ ?_
 rotate_left
 ·go_simp
  rfl
 refine hK.out _ _ ⟨((cell_far (p := ⟨u, _, none⟩) a8.out _).trans (((cell_far (p := ⟨u, _, none⟩) a8.out _).trans (hHeld.1)))), ((cell_far (p := ⟨u, _, none⟩) a8.out _).trans (((cell_far (p := ⟨u, _, none⟩) a8.out _).trans (hHeld.2.1)))), ((cell_far (p := ⟨u, _, none⟩) a8.out _).trans (((cell_far (p := ⟨u, _, none⟩) a8.out _).trans (hHeld.2.2.1)))), ((cell_far (p := ⟨u, _, none⟩) a8.out _).trans (((cell_far (p := ⟨u, _, none⟩) a8.out _).trans (hHeld.2.2.2.1)))), ((cell_far (p := ⟨u, _, none⟩) a8.out _).trans (((cell_far (p := ⟨u, _, none⟩) a8.out _).trans (hHeld.2.2.2.2.1)))), ((cell_far (p := ⟨u, _, none⟩) a8.out _).trans (((cell_far (p := ⟨u, _, none⟩) a8.out _).trans (hHeld.2.2.2.2.2.1)))), ((cell_far (p := ⟨u, _, none⟩) a8.out _).trans (((cell_far (p := ⟨u, _, none⟩) a8.out _).trans (hHeld.2.2.2.2.2.2.1)))), ((cell_far (p := ⟨u, _, none⟩) a8.out _).trans (((cell_far (p := ⟨u, _, none⟩) a8.out _).trans (hHeld.2.2.2.2.2.2.2.1)))), ((cell_far (p := ⟨u, _, none⟩) a8.out _).trans (((cell_far (p := ⟨u, _, none⟩) a8.out _).trans (hHeld.2.2.2.2.2.2.2.2.1)))), ((cell_far (p := ⟨u, _, none⟩) a8.out _).trans (((cell_far (p := ⟨u, _, none⟩) a8.out _).trans (hHeld.2.2.2.2.2.2.2.2.2))))⟩ (fun hHeld => ?_)
 clear hK K
 refine pur_ 16 (bo_ 17 131071) (some 11) HT_ ?_
 refine done_ (done_of HT_.out (by kernel_rfl)) ?_
 try go_wp2
 have a9 : Aside0 (((((e4.setCell ⟨s, 0, none⟩ (iv_ d9)).setCell ⟨s, 1, none⟩ (iv_ d5)).setCell ⟨u, 0, none⟩ (iv_ e2)).setCell ⟨u, 1, none⟩ (iv_ e1)).heap[m]? = some (.cells #[iv_ G, .slice Y B.length a4, .slice Z D.length a5, iv_ I, iv_ J, iv_ L, iv_ M, iv_ O, .slice a0 E.length a6, iv_ T] 28 (0, 0))) := ⟨by (with_reducible repeat (first | refine blk_drewN ?_ _ | refine blk_drew ?_ | refine blk_alloc ?_ _)); refine blk_far ?_ a8.out _; (with_reducible repeat (first | refine blk_drewN ?_ _ | refine blk_drew ?_ | refine blk_alloc ?_ _)); refine blk_far ?_ a8.out _; (with_reducible repeat (first | refine blk_drewN ?_ _ | refine blk_drew ?_ | refine blk_alloc ?_ _)); refine blk_far ?_ a7.out _; (with_reducible repeat (first | refine blk_drewN ?_ _ | refine blk_drew ?_ | refine blk_alloc ?_ _)); refine blk_far ?_ a7.out _; exact bk_ l⟩
 have b0 : Aside0 (((((e4.setCell ⟨s, 0, none⟩ (iv_ d9)).setCell ⟨s, 1, none⟩ (iv_ d5)).setCell ⟨u, 0, none⟩ (iv_ e2)).setCell ⟨u, 1, none⟩ (iv_ e1)).heap[s]? = some (.cells #[iv_ d9, iv_ d5] 35 (0, 0))) := ⟨by (with_reducible repeat (first | refine blk_drewN ?_ _ | refine blk_drew ?_ | refine blk_alloc ?_ _)); refine blk_far ?_ d6.out _; (with_reducible repeat (first | refine blk_drewN ?_ _ | refine blk_drew ?_ | refine blk_alloc ?_ _)); refine blk_far ?_ d6.out _; (with_reducible repeat (first | refine blk_drewN ?_ _ | refine blk_drew ?_ | refine blk_alloc ?_ _)); refine blk_put (cs := #[iv_ d9, iv_ 0]) ?_ 1 _ rfl; (with_reducible repeat (first | refine blk_drewN ?_ _ | refine blk_drew ?_ | refine blk_alloc ?_ _)); refine blk_put (cs := #[iv_ 0, iv_ 0]) ?_ 0 _ rfl; exact bk_ x⟩
 have b3 : Aside0 (((((e4.setCell ⟨s, 0, none⟩ (iv_ d9)).setCell ⟨s, 1, none⟩ (iv_ d5)).setCell ⟨u, 0, none⟩ (iv_ e2)).setCell ⟨u, 1, none⟩ (iv_ e1)).heap[u]? = some (.cells #[iv_ e2, iv_ e1] 35 (0, 0))) := ⟨by (with_reducible repeat (first | refine blk_drewN ?_ _ | refine blk_drew ?_ | refine blk_alloc ?_ _)); refine blk_put (cs := #[iv_ e2, iv_ 0]) ?_ 1 _ rfl; (with_reducible repeat (first | refine blk_drewN ?_ _ | refine blk_drew ?_ | refine blk_alloc ?_ _)); refine blk_put (cs := #[iv_ 0, iv_ 0]) ?_ 0 _ rfl; (with_reducible repeat (first | refine blk_drewN ?_ _ | refine blk_drew ?_ | refine blk_alloc ?_ _)); refine blk_far ?_ d7.out _; (with_reducible repeat (first | refine blk_drewN ?_ _ | refine blk_drew ?_ | refine blk_alloc ?_ _)); refine blk_far ?_ d7.out _; exact bk_ y⟩
 have b4 : Aside0 (Below w.heap.size w ((((e4.setCell ⟨s, 0, none⟩ (iv_ d9)).setCell ⟨s, 1, none⟩ (iv_ d5)).setCell ⟨u, 0, none⟩ (iv_ e2)).setCell ⟨u, 1, none⟩ (iv_ e1))) := ⟨bl3_ HB z U X⟩
 (try clear l)
 (try clear x)
 (try clear y)
 (try clear HB)
 generalize ((((e4.setCell ⟨s, 0, none⟩ (iv_ d9)).setCell ⟨s, 1, none⟩ (iv_ d5)).setCell ⟨u, 0, none⟩ (iv_ e2)).setCell ⟨u, 1, none⟩ (iv_ e1)) = l2 at a9 b0 b3 b4 ⊢
 have l := a9
 have x := b0
 have y := b3
 have HB := b4
 clear a9 b0 b3 b4
 refine sh4_ (blk_drew l.out) (blk_drew x.out) (blk_drew y.out) (below_drew1 HB.out) ?_
 clear l x y HB
 intro l x y HB
 refine start_ (n := 13) (S := fun w' => Ck2 w' s (iv_ d9) (iv_ d5) (Cz2 w' u (iv_ e2) (iv_ e1))) (ds := []) (bo_ 13 0) (by kernel_rfl) rfl rfl ⟨(bc_ x 0 rfl), (bc_ x 1 rfl), cz2_ y⟩ (fun hHeld => ?_); refine with_tabW impl_SightAt.tab2 impl_SightAt.bits2 (fun HT_ HW_ => ?_)
 generalize l2.drew = o2 at l x y HB hHeld ⊢
 refine pur_ 5 (bo_ 13 32) (some 31) HT_ ?_
 refine pur_ 7 (bo_ 13 160) (some 33) HT_ ?_
 refine tak_ 0 (bo_ 13 161) (some 26) HT_ HW_ hHeld ?_
 refine tak_ 2 (bo_ 13 165) (some 28) HT_ HW_ hHeld ?_
 refine tak_ 6 (bo_ 13 229) (some 32) HT_ HW_ hHeld ?_
 refine tak_ 8 (bo_ 13 485) (some 34) HT_ HW_ hHeld ?_
 refine pur_ 9 (bo_ 13 997) (some 35) HT_ ?_
 refine pur_ 10 (bo_ 13 2021) (some 36) HT_ ?_
 refine onc_ 1 (bo_ 13 2023) (some 27) HT_ Try.func51 (impl_MiddleOf.calls d9 d5 j8 _ A8.out) ?_
 rintro e o3 ⟨rfl, hb⟩
 refine sh4_ (blk_below (bk_ l) hb) (blk_below (bk_ x) hb) (blk_below (bk_ y) hb) (below_step (bl3_ HB z U X) hb) ?_
 clear l x y HB hb
 intro l x y HB
 refine ⟨_, _, rfl, ⟨(bc_ x 0 rfl), (bc_ x 1 rfl), cz2_ y⟩, pt_, fun hHeld => ?_⟩
 refine onc_ 3 (bo_ 13 2031) (some 29) HT_ Try.func51 (impl_MiddleOf.calls e2 e1 j9 _ A9.out) ?_
 rintro e o4 ⟨rfl, hb⟩
 refine sh4_ (blk_below (bk_ l) hb) (blk_below (bk_ x) hb) (blk_below (bk_ y) hb) (below_step (bl3_ HB z U X) hb) ?_
 clear l x y HB hb
 intro l x y HB
 refine ⟨_, _, rfl, ⟨(bc_ x 0 rfl), (bc_ x 1 rfl), cz2_ y⟩, pt_, fun hHeld => ?_⟩
 refine onc_ 4 (bo_ 13 2047) (some 30) HT_ Try.func14 (impl_GapOf.calls j8 j9 h3 _ k1.out) ?_
 rintro e o5 ⟨rfl, hb⟩
 refine sh4_ (blk_below (bk_ l) hb) (blk_below (bk_ x) hb) (blk_below (bk_ y) hb) (below_step (bl3_ HB z U X) hb) ?_
 clear l x y HB hb
 intro l x y HB
 refine ⟨_, _, rfl, ⟨(bc_ x 0 rfl), (bc_ x 1 rfl), cz2_ y⟩, pt_, fun hHeld => ?_⟩
 refine pur_ 11 (bo_ 13 4095) (some 12) HT_ ?_
 refine pur_ 12 (bo_ 13 8191) (some 13) HT_ ?_
 refine done_ (done_of HT_.out (by kernel_rfl)) ?_
 go_upto_region 3 with (fail)
 go_cut [37] (fun l0 wc => ∃ (kq : Nat) (h8 : Bool), l0 = .bool h8 ∧ Aside0 (impl_SightAt.j0 kq e8 h3 (wrap64 (Int.tdiv (wrap64 (d5 + e1)) 2)) h8 = some r) ∧ Aside0 (kq ≤ k) ∧ Aside0 (wc.heap[m]? = some (.cells #[iv_ G, (.slice Y B.length a4), (.slice Z D.length a5), iv_ I, iv_ J, iv_ L, iv_ M, iv_ O, (.slice a0 E.length a6), iv_ T] 28 (0, 0))) ∧ Aside0 (wc.heap[s]? = some (.cells #[iv_ d9, iv_ d5] 35 (0, 0))) ∧ Aside0 (wc.heap[u]? = some (.cells #[iv_ e2, iv_ e1] 35 (0, 0))) ∧ Aside0 (Below w.heap.size w wc))
 case first =>
  have H := h9.out
  clear h9
  by_cases h0 : e8 < 0
  ·rw [if_pos h0] at H
   have h2 := decide_eq_true h0
   clear h0
   (first | rw [h2] | (simp only [i64_w, i32_w]; rw [h2]) | skip)
   have H' := Aside0.mk H
   clear H
   go_wp2
   go_meet
   case rel => exact ⟨_, (true), (by first | rfl | (simp; done) | (simp [*]; done)), H', ⟨by first | omega | exact Nat.le_refl _⟩, ⟨(bk_ l)⟩, ⟨(bk_ x)⟩, ⟨(bk_ y)⟩, ⟨bl3_ HB z U X⟩⟩
  ·rw [if_neg h0] at H
   have h2 := decide_eq_false h0
   clear h0
   (first | rw [h2] | (simp only [i64_w, i32_w]; rw [h2]) | skip)
   have H' := Aside0.mk H
   clear H
   go_wp2
   go_meet
   case rel => exact ⟨_, (decide ((wrap64 (h3 - (wrap64 (Int.tdiv (wrap64 (d5 + e1)) 2)))) > e8)), (by first | rfl | (simp; done) | (simp [*]; done)), H', ⟨by first | omega | exact Nat.le_refl _⟩, ⟨(bk_ l)⟩, ⟨(bk_ x)⟩, ⟨(bk_ y)⟩, ⟨bl3_ HB z U X⟩⟩
 case rest =>
  clear h9
  obtain ⟨kq, h8, rfl, HA, l3, l, x, y, HB⟩ := hcut
  cases kq with
  | zero => exact absurd HA.out (by simp [impl_SightAt.j0])
  | succ o0 =>
   have H := HA.out
   clear HA
   simp only [impl_SightAt.j0] at H
   by_cases h7 : h8 = true
   ·subst h7
    rw [if_pos rfl] at H
    obtain rfl := Option.some.inj H
    go_wp2
    go_ret
    exact ⟨by first | (rw [hRT_.out]; rfl) | exact er_, bl3_ HB z U X⟩
   ·replace h7 := Bool.eq_false_iff.mpr h7
    subst h7
    have H1 : (if (wrap64 (h3 + (wrap64 (Int.tdiv (wrap64 (d5 + e1)) 2)))) ≤ e8 then (some 2) else (some 1)) = some r := by rw [if_neg (show ¬ (false = true) by decide)] at H; exact H
    clear H
    have H := H1
    clear H1
    by_cases h1 : (wrap64 (h3 + (wrap64 (Int.tdiv (wrap64 (d5 + e1)) 2)))) ≤ e8
    ·rw [if_pos h1] at H
     have k4 := decide_eq_true h1
     clear h1
     obtain rfl := Option.some.inj H
     go_wp2
     go_ret
     exact ⟨by first | (rw [hRT_.out]; rfl) | exact er_, bl3_ HB z U X⟩
    ·rw [if_neg h1] at H
     have k4 := decide_eq_false h1
     clear h1
     obtain rfl := Option.some.inj H
     go_wp2
     go_ret
     exact ⟨by first | (rw [hRT_.out]; rfl) | exact er_, bl3_ HB z U X⟩

end Go.Proofs.Ytopbkdcicidajaa.PFnContacts
