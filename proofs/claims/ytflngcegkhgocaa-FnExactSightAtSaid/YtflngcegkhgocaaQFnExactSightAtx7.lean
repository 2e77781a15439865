-- Written by a program of this session for this claim (the kit's printer with changes).
import Derived.Test.YtflngcegkhgocaaQFnExactSightAtx0
import Derived.Test.YtflngcegkhgocaaQFnExactSightAtx5
import Derived.Test.YtflngcegkhgocaaQFnExactSightAtx6
namespace Go.Proofs.Ytflngcegkhgocaa.PFnExactSightAt
open Go.RowKit Go.Proofs.YtflngcegkhgocaaW.PrintWords Go.Proofs.YtflngcegkhgocaaW.PrintLast Go.Proofs.YtflngcegkhgocaaW.PrintMore
attribute [local go_sem] max2_int min2_int max_two min_two max_three min_three max_four min_four   -- for this text's walks alone
set_option linter.unusedVariables false
set_option linter.unusedSimpArgs false

/-! ### impl_SightAt: function 45 -/
def impl_SightAt.j0 : Nat → Int → Int → Int → Bool → Option (Int)
 | 0, _, _, _, _ => none
 | k + 1, x11, x12, x13, x37 => if x37 = true then (some 0) else (if (wrap64 (x12 + x13)) ≤ x11 then (some 2) else (some 1))
def impl_SightAt.f (k : Nat) (a0_0 : Int) (l0_1 : List (S70)) (l0_2 : List (S72)) (a0_3 : Int) (a0_4 : Int) (a0_5 : Int) (a0_6 : Int) (a0_7 : Int) (l0_8 : List (S83)) (a0_9 : Int) (a1 : Int) (a2 : Int) (a3 : Int) : Option (Int) := (impl_NodeAt.f a0_0 l0_1 l0_2 a0_3 a0_4 a0_5 a0_6 a0_7 l0_8 a0_9 a1 a3).bind fun bt326 => ((impl_NodeAt.f a0_0 l0_1 l0_2 a0_3 a0_4 a0_5 a0_6 a0_7 l0_8 a0_9 a2 a3).bind fun bt328 => ((impl_LimitOf.f k a0_0 l0_1 l0_2 a0_3 a0_4 a0_5 a0_6 a0_7 l0_8 a0_9 a1 a2).bind fun t330 => ((impl_MiddleOf.f bt326.1 bt326.2).bind fun t333 => ((impl_MiddleOf.f bt328.1 bt328.2).bind fun t334 => ((impl_GapOf.f t333 t334).bind fun t335 => (if t330 < 0 then (impl_SightAt.j0 k t330 t335 (wrap64 (Int.tdiv (wrap64 (bt326.2 + bt328.2)) 2)) true) else (impl_SightAt.j0 k t330 t335 (wrap64 (Int.tdiv (wrap64 (bt326.2 + bt328.2)) 2)) (decide ((wrap64 (t335 - (wrap64 (Int.tdiv (wrap64 (bt326.2 + bt328.2)) 2)))) > t330)))))))))
theorem impl_SightAt.mono_l : ∀ k, (∀ y0 y1 y2 y3, LeO (impl_SightAt.j0 k y0 y1 y2 y3) (impl_SightAt.j0 (k + 1) y0 y1 y2 y3))
 | 0 => fun _ _ _ _ r h => by simp [impl_SightAt.j0] at h
 | k + 1 => by
  have ih0 := impl_SightAt.mono_l k
  ·intro y0 y1 y2 y3
   unfold impl_SightAt.j0
   repeat' first
   | (with_reducible exact ih0 _ _ _ _)
   | (with_reducible exact impl_LimitOf.mono _ _ _ _ _ _ _ _ _ _ _ _ _)
   | (with_reducible exact LeO.refl _)
   | (with_reducible exact LeO.none _)
   | (with_reducible refine LeO.ite ?_ ?_)
   | (with_reducible refine LeO.bind ?_ (fun _ => ?_))
   | exact ih0 _ _ _ _
   | exact impl_LimitOf.mono _ _ _ _ _ _ _ _ _ _ _ _ _
   | exact LeO.none _
   | refine LeO.ite ?_ ?_
   | refine LeO.bind ?_ (fun _ => ?_)
theorem impl_SightAt.mono : ∀ a0 a1 a2 a3 a4 a5 a6 a7 a8 a9 a10 a11 a12 k, LeO (impl_SightAt.f k a0 a1 a2 a3 a4 a5 a6 a7 a8 a9 a10 a11 a12) (impl_SightAt.f (k + 1) a0 a1 a2 a3 a4 a5 a6 a7 a8 a9 a10 a11 a12) := by
 intro a0 a1 a2 a3 a4 a5 a6 a7 a8 a9 a10 a11 a12 k
 have ih0 := impl_SightAt.mono_l k
 unfold impl_SightAt.f
 repeat' first
   | (with_reducible exact ih0 _ _ _ _)
   | (with_reducible exact impl_LimitOf.mono _ _ _ _ _ _ _ _ _ _ _ _ _)
   | (with_reducible exact LeO.refl _)
   | (with_reducible exact LeO.none _)
   | (with_reducible refine LeO.ite ?_ ?_)
   | (with_reducible refine LeO.bind ?_ (fun _ => ?_))
   | exact ih0 _ _ _ _
   | exact impl_LimitOf.mono _ _ _ _ _ _ _ _ _ _ _ _ _
   | exact LeO.none _
   | refine LeO.ite ?_ ?_
   | refine LeO.bind ?_ (fun _ => ?_)
def impl_SightAt.T1 : Bool × List (List Nat × List Nat) := (true, [([], []), ([], []), ([], []), ([0, 1, 2], [0, 1, 2]), ([], []), ([], []), ([], []), ([4, 5, 6, 3], [4, 5, 6]), ([], []), ([], []), ([], []), ([8, 9, 10, 7], [8, 9, 10]), ([], []), ([], []), ([12, 3, 11, 0, 1, 2, 3, 12, 13], [3, 12]), ([13, 7, 14, 0, 1, 2, 3, 4, 5, 6, 7, 12, 13, 14], [7, 13]), ([11, 15, 0, 1, 2, 3, 4, 5, 6, 7, 8, 9, 10, 11, 12, 13, 14, 15], [11])])
def impl_SightAt.B1 : List Nat := [0, 0, 0, 7, 0, 0, 0, 127, 0, 0, 0, 2047, 0, 0, 16383, 32767, 65535]
theorem impl_SightAt.tab1 : rtab .any (opsOf Try.f45 1) = impl_SightAt.T1 := by kernel_rfl
theorem impl_SightAt.bits1 : waitsOk impl_SightAt.T1.2 impl_SightAt.B1 = true := by kernel_rfl
def impl_SightAt.T2 : Bool × List (List Nat × List Nat) := (true, [([], []), ([0], [0]), ([], []), ([2, 1], [2]), ([1, 3, 3], [1, 3]), ([], []), ([5], [5]), ([], []), ([7], [7]), ([6, 8], [6, 8]), ([9], [9]), ([4, 4, 0, 1, 2, 3, 4], [4]), ([10, 11, 0, 1, 2, 3, 4, 5, 6, 7, 8, 9, 10, 11], [10])])
def impl_SightAt.B2 : List Nat := [0, 1, 0, 7, 15, 0, 32, 0, 128, 480, 992, 31, 4095]
theorem impl_SightAt.tab2 : rtab .any (opsOf Try.f45 2) = impl_SightAt.T2 := by kernel_rfl
theorem impl_SightAt.bits2 : waitsOk impl_SightAt.T2.2 impl_SightAt.B2 = true := by kernel_rfl
set_option maxHeartbeats 8000000 in
set_option maxRecDepth 100000 in
theorem impl_SightAt.calls (k : Nat) (a0_0 : Int) (A0_1 : Option Addr) (c0_1 : Nat) (l0_1 : List (S70)) (A0_2 : Option Addr) (c0_2 : Nat) (l0_2 : List (S72)) (a0_3 : Int) (a0_4 : Int) (a0_5 : Int) (a0_6 : Int) (a0_7 : Int) (A0_8 : Option Addr) (c0_8 : Nat) (l0_8 : List (S83)) (a0_9 : Int) (a1 : Int) (a2 : Int) (a3 : Int) (r : Int) (w : World) (hr0_1 : Kd.C k70 w A0_1 l0_1.length l0_1) (hc0_1 : l0_1.length ≤ c0_1) (hr0_2 : Kd.C k72 w A0_2 l0_2.length l0_2) (hc0_2 : l0_2.length ≤ c0_2) (hr0_8 : Kd.C k83 w A0_8 l0_8.length l0_8) (hc0_8 : l0_8.length ≤ c0_8) (h : impl_SightAt.f k a0_0 l0_1 l0_2 a0_3 a0_4 a0_5 a0_6 a0_7 l0_8 a0_9 a1 a2 a3 = some r) :
  Calls Try.prog 45 #[.agg #[.int .i64 a0_0, .slice A0_1 l0_1.length c0_1, .slice A0_2 l0_2.length c0_2, .int .i64 a0_3, .int .i64 a0_4, .int .i64 a0_5, .int .i64 a0_6, .int .i64 a0_7, .slice A0_8 l0_8.length c0_8, .int .i64 a0_9], .int .i64 a1, .int .i64 a2, .int .i64 a3] w fun e w' => e = .returned (.int .i64 r) ∧ Below w.heap.size w w' := by
 have hu45 := Try.underlying45
 have hu54 := Try.underlying54
 have HR0_1 := Aside0.mk hr0_1
 have HC0_1 := Aside0.mk hc0_1
 clear hr0_1 hc0_1
 have HR0_2 := Aside0.mk hr0_2
 have HC0_2 := Aside0.mk hc0_2
 clear hr0_2 hc0_2
 have HR0_8 := Aside0.mk hr0_8
 have HC0_8 := Aside0.mk hc0_8
 clear hr0_8 hc0_8
 have HB := Aside0.mk (Below.refl w.heap.size w)
 have H := h
 clear h
 unfold impl_SightAt.f at H
 replace H := Option.bind_eq_some_iff.mp H
 obtain ⟨⟨t326, t327⟩, A50, H⟩ := H
 replace H : ((impl_NodeAt.f a0_0 l0_1 l0_2 a0_3 a0_4 a0_5 a0_6 a0_7 l0_8 a0_9 a2 a3).bind fun bt328 => ((impl_LimitOf.f k a0_0 l0_1 l0_2 a0_3 a0_4 a0_5 a0_6 a0_7 l0_8 a0_9 a1 a2).bind fun t330 => ((impl_MiddleOf.f t326 t327).bind fun t333 => ((impl_MiddleOf.f bt328.1 bt328.2).bind fun t334 => ((impl_GapOf.f t333 t334).bind fun t335 => (if t330 < 0 then (impl_SightAt.j0 k t330 t335 (wrap64 (Int.tdiv (wrap64 (t327 + bt328.2)) 2)) true) else (impl_SightAt.j0 k t330 t335 (wrap64 (Int.tdiv (wrap64 (t327 + bt328.2)) 2)) (decide ((wrap64 (t335 - (wrap64 (Int.tdiv (wrap64 (t327 + bt328.2)) 2)))) > t330))))))))) = some r := H
 have A5 := Aside0.mk A50
 clear A50
 replace H := Option.bind_eq_some_iff.mp H
 obtain ⟨⟨t328, t329⟩, A60, H⟩ := H
 replace H : ((impl_LimitOf.f k a0_0 l0_1 l0_2 a0_3 a0_4 a0_5 a0_6 a0_7 l0_8 a0_9 a1 a2).bind fun t330 => ((impl_MiddleOf.f t326 t327).bind fun t333 => ((impl_MiddleOf.f t328 t329).bind fun t334 => ((impl_GapOf.f t333 t334).bind fun t335 => (if t330 < 0 then (impl_SightAt.j0 k t330 t335 (wrap64 (Int.tdiv (wrap64 (t327 + t329)) 2)) true) else (impl_SightAt.j0 k t330 t335 (wrap64 (Int.tdiv (wrap64 (t327 + t329)) 2)) (decide ((wrap64 (t335 - (wrap64 (Int.tdiv (wrap64 (t327 + t329)) 2)))) > t330)))))))) = some r := H
 have A6 := Aside0.mk A60
 clear A60
 replace H := Option.bind_eq_some_iff.mp H
 obtain ⟨t330, A70, H⟩ := H
 have A7 := Aside0.mk A70
 clear A70
 replace H := Option.bind_eq_some_iff.mp H
 obtain ⟨t333, A80, H⟩ := H
 have A8 := Aside0.mk A80
 clear A80
 replace H := Option.bind_eq_some_iff.mp H
 obtain ⟨t334, A90, H⟩ := H
 have A9 := Aside0.mk A90
 clear A90
 replace H := Option.bind_eq_some_iff.mp H
 obtain ⟨t335, A100, H⟩ := H
 have A10 := Aside0.mk A100
 clear A100
 have HC11 := Aside0.mk H
 clear H
 go_enter Try.func45, Try.ntmps45
 try go_wp2_with (first | ((with_reducible refine gate_dst (N := 4) rfl ?_); refine box_event ?hg (N := 4) ?hd (cs := #[.int .i64 a0_0, .slice A0_1 l0_1.length c0_1, .slice A0_2 l0_2.length c0_2, .int .i64 a0_3, .int .i64 a0_4, .int .i64 a0_5, .int .i64 a0_6, .int .i64 a0_7, .slice A0_8 l0_8.length c0_8, .int .i64 a0_9]) (t := 45) ?hr ?_; (case hd => rfl); (case hg => rfl); (case hr => first | (go_simp; done) | (go_simp; rfl)); intro gb325 hg w12 hbox hb; have n0_ := Aside0.mk (below_step (bl_ HB) hb); have n1_ := Aside0.mk (hbox); have n2_ := Aside0.mk ((by rw [hg]; exact (below_size (bl_ HB)) : w.heap.size ≤ gb325)); have n3_ := Aside0.mk ((by rw [hg]; exact (below_size (bl_ HB)) : w.heap.size ≤ gb325)); clear HB; have HB := n0_; have BK325 := n1_; have GW325 := n2_; have GE325 := n3_; clear n0_ n1_ n2_ n3_; clear hb hbox hg))
 have n0_ := Aside0.mk (blk_drew BK325.out)
 have n1_ := Aside0.mk (below_drew1 HB.out)
 clear BK325
 clear HB
 have BK325 := n0_
 have HB := n1_
 clear n0_ n1_
 refine start_ (n := 17) (S := fun w' => w'.cell? ⟨gb325, 0, none⟩ = some (.int .i64 a0_0) ∧ w'.cell? ⟨gb325, 1, none⟩ = some (.slice A0_1 l0_1.length c0_1) ∧ w'.cell? ⟨gb325, 2, none⟩ = some (.slice A0_2 l0_2.length c0_2) ∧ w'.cell? ⟨gb325, 3, none⟩ = some (.int .i64 a0_3) ∧ w'.cell? ⟨gb325, 4, none⟩ = some (.int .i64 a0_4) ∧ w'.cell? ⟨gb325, 5, none⟩ = some (.int .i64 a0_5) ∧ w'.cell? ⟨gb325, 6, none⟩ = some (.int .i64 a0_6) ∧ w'.cell? ⟨gb325, 7, none⟩ = some (.int .i64 a0_7) ∧ w'.cell? ⟨gb325, 8, none⟩ = some (.slice A0_8 l0_8.length c0_8) ∧ w'.cell? ⟨gb325, 9, none⟩ = some (.int .i64 a0_9)) (ds := []) #[false, false, false, false, false, false, false, false, false, false, false, false, false, false, false, false, false] (by kernel_rfl) rfl rfl ⟨(blk_cell BK325.out 0).trans rfl, (blk_cell BK325.out 1).trans rfl, (blk_cell BK325.out 2).trans rfl, (blk_cell BK325.out 3).trans rfl, (blk_cell BK325.out 4).trans rfl, (blk_cell BK325.out 5).trans rfl, (blk_cell BK325.out 6).trans rfl, (blk_cell BK325.out 7).trans rfl, (blk_cell BK325.out 8).trans rfl, (blk_cell BK325.out 9).trans rfl⟩ (fun hHeld => ?_); refine with_tabW impl_SightAt.tab1 impl_SightAt.bits1 (fun HT_ HW_ => ?_)
 generalize w12.drew = w13 at BK325 HB hHeld ⊢
 refine pure_ (i := 1) (N := some 15) (v := ?_) (a' := ?_) #[false, true, false, false, false, false, false, false, false, false, false, false, false, false, false, false, false] rfl rfl (any_of HT_.out (by kernel_rfl)) (fun _ _ _ h => h) (Or.inl ⟨by rfl, ?_⟩) ?_ ?_
 rotate_left
 ·intro w'
  go_simp
  with_reducible rfl
 rotate_left
 ·simp only [Act.put, List.setIfInBounds_toArray, List.set_cons_zero, List.set_cons_succ, i64_w, i32_w]
  rfl
 refine pure_ (i := 2) (N := some 16) (v := ?_) (a' := ?_) #[false, true, true, false, false, false, false, false, false, false, false, false, false, false, false, false, false] rfl rfl (any_of HT_.out (by kernel_rfl)) (fun _ _ _ h => h) (Or.inl ⟨by rfl, ?_⟩) ?_ ?_
 rotate_left
 ·intro w'
  go_simp
  with_reducible rfl
 rotate_left
 ·simp only [Act.put, List.setIfInBounds_toArray, List.set_cons_zero, List.set_cons_succ, i64_w, i32_w]
  rfl
 refine pure_ (i := 5) (N := some 19) (v := ?_) (a' := ?_) #[false, true, true, false, false, true, false, false, false, false, false, false, false, false, false, false, false] rfl rfl (any_of HT_.out (by kernel_rfl)) (fun _ _ _ h => h) (Or.inl ⟨by rfl, ?_⟩) ?_ ?_
 rotate_left
 ·intro w'
  go_simp
  with_reducible rfl
 rotate_left
 ·simp only [Act.put, List.setIfInBounds_toArray, List.set_cons_zero, List.set_cons_succ, i64_w, i32_w]
  rfl
 refine pure_ (i := 6) (N := some 20) (v := ?_) (a' := ?_) #[false, true, true, false, false, true, true, false, false, false, false, false, false, false, false, false, false] rfl rfl (any_of HT_.out (by kernel_rfl)) (fun _ _ _ h => h) (Or.inl ⟨by rfl, ?_⟩) ?_ ?_
 rotate_left
 ·intro w'
  go_simp
  with_reducible rfl
 rotate_left
 ·simp only [Act.put, List.setIfInBounds_toArray, List.set_cons_zero, List.set_cons_succ, i64_w, i32_w]
  rfl
 refine pure_ (i := 9) (N := some 23) (v := ?_) (a' := ?_) #[false, true, true, false, false, true, true, false, false, true, false, false, false, false, false, false, false] rfl rfl (any_of HT_.out (by kernel_rfl)) (fun _ _ _ h => h) (Or.inl ⟨by rfl, ?_⟩) ?_ ?_
 rotate_left
 ·intro w'
  go_simp
  with_reducible rfl
 rotate_left
 ·simp only [Act.put, List.setIfInBounds_toArray, List.set_cons_zero, List.set_cons_succ, i64_w, i32_w]
  rfl
 refine pure_ (i := 10) (N := some 24) (v := ?_) (a' := ?_) #[false, true, true, false, false, true, true, false, false, true, true, false, false, false, false, false, false] rfl rfl (any_of HT_.out (by kernel_rfl)) (fun _ _ _ h => h) (Or.inl ⟨by rfl, ?_⟩) ?_ ?_
 rotate_left
 ·intro w'
  go_simp
  with_reducible rfl
 rotate_left
 ·simp only [Act.put, List.setIfInBounds_toArray, List.set_cons_zero, List.set_cons_succ, i64_w, i32_w]
  rfl
 refine take_ (i := 0) (N := some 14) (v := ?_) (a' := ?_) #[true, true, true, false, false, true, true, false, false, true, true, false, false, false, false, false, false] rfl rfl (take_ofW HT_.out HW_.out (by kernel_rfl)) (fun _ _ _ h => h) (Or.inl ⟨by rfl, ?_⟩) hHeld ?_ ?_
 rotate_left
 ·rintro w' ⟨s0, s1, s2, s3, s4, s5, s6, s7, s8, s9⟩
  go_simp
  with_reducible rfl
 rotate_left
 ·simp only [Act.put, List.setIfInBounds_toArray, List.set_cons_zero, List.set_cons_succ, i64_w, i32_w]
  rfl
 refine take_ (i := 4) (N := some 18) (v := ?_) (a' := ?_) #[true, true, true, false, true, true, true, false, false, true, true, false, false, false, false, false, false] rfl rfl (take_ofW HT_.out HW_.out (by kernel_rfl)) (fun _ _ _ h => h) (Or.inl ⟨by rfl, ?_⟩) hHeld ?_ ?_
 rotate_left
 ·rintro w' ⟨s0, s1, s2, s3, s4, s5, s6, s7, s8, s9⟩
  go_simp
  with_reducible rfl
 rotate_left
 ·simp only [Act.put, List.setIfInBounds_toArray, List.set_cons_zero, List.set_cons_succ, i64_w, i32_w]
  rfl
 refine take_ (i := 8) (N := some 22) (v := ?_) (a' := ?_) #[true, true, true, false, true, true, true, false, true, true, true, false, false, false, false, false, false] rfl rfl (take_ofW HT_.out HW_.out (by kernel_rfl)) (fun _ _ _ h => h) (Or.inl ⟨by rfl, ?_⟩) hHeld ?_ ?_
 rotate_left
 ·rintro w' ⟨s0, s1, s2, s3, s4, s5, s6, s7, s8, s9⟩
  go_simp
  with_reducible rfl
 rotate_left
 ·simp only [Act.put, List.setIfInBounds_toArray, List.set_cons_zero, List.set_cons_succ, i64_w, i32_w]
  rfl
 refine join_ (σ := Nat × Nat) 3 #[true, true, true, true, true, true, true, true, true, true, true, true, true, true, false, false, false] (fun s_ => [(17, .agg #[.int .i64 t326, .int .i64 t327]), (21, .agg #[.int .i64 t328, .int .i64 t329]), (25, .int .i64 t330), (9, .pointer (some ⟨s_.1, 0, none⟩)), (10, .pointer (some ⟨s_.2, 0, none⟩))]) (fun s_ w' => (w'.cell? ⟨gb325, 0, none⟩ = some (.int .i64 a0_0) ∧ w'.cell? ⟨gb325, 1, none⟩ = some (.slice A0_1 l0_1.length c0_1) ∧ w'.cell? ⟨gb325, 2, none⟩ = some (.slice A0_2 l0_2.length c0_2) ∧ w'.cell? ⟨gb325, 3, none⟩ = some (.int .i64 a0_3) ∧ w'.cell? ⟨gb325, 4, none⟩ = some (.int .i64 a0_4) ∧ w'.cell? ⟨gb325, 5, none⟩ = some (.int .i64 a0_5) ∧ w'.cell? ⟨gb325, 6, none⟩ = some (.int .i64 a0_6) ∧ w'.cell? ⟨gb325, 7, none⟩ = some (.int .i64 a0_7) ∧ w'.cell? ⟨gb325, 8, none⟩ = some (.slice A0_8 l0_8.length c0_8) ∧ w'.cell? ⟨gb325, 9, none⟩ = some (.int .i64 a0_9)) ∧ (w'.heap[gb325]? = some (.cells #[.int .i64 a0_0, .slice A0_1 l0_1.length c0_1, .slice A0_2 l0_2.length c0_2, .int .i64 a0_3, .int .i64 a0_4, .int .i64 a0_5, .int .i64 a0_6, .int .i64 a0_7, .slice A0_8 l0_8.length c0_8, .int .i64 a0_9] 45 (0, 0))) ∧ (w'.heap[s_.1]? = some (.cells #[.int .i64 0, .int .i64 0] 54 (0, 0))) ∧ (w'.heap[s_.2]? = some (.cells #[.int .i64 0, .int .i64 0] 54 (0, 0))) ∧ (w.heap.size ≤ s_.1) ∧ (w.heap.size ≤ s_.1) ∧ (gb325 ≠ s_.1) ∧ (s_.1 ≠ gb325) ∧ (s_.2 ≠ s_.1) ∧ (s_.1 ≠ s_.2) ∧ (w.heap.size ≤ s_.2) ∧ (w.heap.size ≤ s_.2) ∧ (gb325 ≠ s_.2) ∧ (s_.2 ≠ gb325) ∧ (Below w.heap.size w w')) ?_ ?_
 rotate_left
 ·intro hJ3_7_11_12_13
  refine join_ (σ := Nat) 4 #[true, true, true, true, true, true, true, true, true, true, true, true, true, false, false, false, false] (fun s_ => [(17, .agg #[.int .i64 t326, .int .i64 t327]), (21, .agg #[.int .i64 t328, .int .i64 t329]), (25, .int .i64 t330), (9, .pointer (some ⟨s_, 0, none⟩))]) (fun s_ w' => (w'.cell? ⟨gb325, 0, none⟩ = some (.int .i64 a0_0) ∧ w'.cell? ⟨gb325, 1, none⟩ = some (.slice A0_1 l0_1.length c0_1) ∧ w'.cell? ⟨gb325, 2, none⟩ = some (.slice A0_2 l0_2.length c0_2) ∧ w'.cell? ⟨gb325, 3, none⟩ = some (.int .i64 a0_3) ∧ w'.cell? ⟨gb325, 4, none⟩ = some (.int .i64 a0_4) ∧ w'.cell? ⟨gb325, 5, none⟩ = some (.int .i64 a0_5) ∧ w'.cell? ⟨gb325, 6, none⟩ = some (.int .i64 a0_6) ∧ w'.cell? ⟨gb325, 7, none⟩ = some (.int .i64 a0_7) ∧ w'.cell? ⟨gb325, 8, none⟩ = some (.slice A0_8 l0_8.length c0_8) ∧ w'.cell? ⟨gb325, 9, none⟩ = some (.int .i64 a0_9)) ∧ (w'.heap[gb325]? = some (.cells #[.int .i64 a0_0, .slice A0_1 l0_1.length c0_1, .slice A0_2 l0_2.length c0_2, .int .i64 a0_3, .int .i64 a0_4, .int .i64 a0_5, .int .i64 a0_6, .int .i64 a0_7, .slice A0_8 l0_8.length c0_8, .int .i64 a0_9] 45 (0, 0))) ∧ (w'.heap[s_]? = some (.cells #[.int .i64 0, .int .i64 0] 54 (0, 0))) ∧ (w.heap.size ≤ s_) ∧ (w.heap.size ≤ s_) ∧ (gb325 ≠ s_) ∧ (s_ ≠ gb325) ∧ (Below w.heap.size w w')) ?_ ?_
  rotate_left
  ·intro hJ3_7_11_12
   refine join_ (σ := Nat) 4 #[true, true, true, true, true, true, true, true, true, true, true, true, false, true, false, false, false] (fun s_ => [(17, .agg #[.int .i64 t326, .int .i64 t327]), (21, .agg #[.int .i64 t328, .int .i64 t329]), (25, .int .i64 t330), (10, .pointer (some ⟨s_, 0, none⟩))]) (fun s_ w' => (w'.cell? ⟨gb325, 0, none⟩ = some (.int .i64 a0_0) ∧ w'.cell? ⟨gb325, 1, none⟩ = some (.slice A0_1 l0_1.length c0_1) ∧ w'.cell? ⟨gb325, 2, none⟩ = some (.slice A0_2 l0_2.length c0_2) ∧ w'.cell? ⟨gb325, 3, none⟩ = some (.int .i64 a0_3) ∧ w'.cell? ⟨gb325, 4, none⟩ = some (.int .i64 a0_4) ∧ w'.cell? ⟨gb325, 5, none⟩ = some (.int .i64 a0_5) ∧ w'.cell? ⟨gb325, 6, none⟩ = some (.int .i64 a0_6) ∧ w'.cell? ⟨gb325, 7, none⟩ = some (.int .i64 a0_7) ∧ w'.cell? ⟨gb325, 8, none⟩ = some (.slice A0_8 l0_8.length c0_8) ∧ w'.cell? ⟨gb325, 9, none⟩ = some (.int .i64 a0_9)) ∧ (w'.heap[gb325]? = some (.cells #[.int .i64 a0_0, .slice A0_1 l0_1.length c0_1, .slice A0_2 l0_2.length c0_2, .int .i64 a0_3, .int .i64 a0_4, .int .i64 a0_5, .int .i64 a0_6, .int .i64 a0_7, .slice A0_8 l0_8.length c0_8, .int .i64 a0_9] 45 (0, 0))) ∧ (w'.heap[s_]? = some (.cells #[.int .i64 0, .int .i64 0] 54 (0, 0))) ∧ (w.heap.size ≤ s_) ∧ (w.heap.size ≤ s_) ∧ (gb325 ≠ s_) ∧ (s_ ≠ gb325) ∧ (Below w.heap.size w w')) ?_ ?_
   rotate_left
   ·intro hJ3_7_11_13
    refine join_ (σ := Nat × Nat) 4 #[true, true, true, true, true, true, true, true, true, true, true, false, true, true, false, false, false] (fun s_ => [(17, .agg #[.int .i64 t326, .int .i64 t327]), (21, .agg #[.int .i64 t328, .int .i64 t329]), (9, .pointer (some ⟨s_.1, 0, none⟩)), (10, .pointer (some ⟨s_.2, 0, none⟩))]) (fun s_ w' => (w'.cell? ⟨gb325, 0, none⟩ = some (.int .i64 a0_0) ∧ w'.cell? ⟨gb325, 1, none⟩ = some (.slice A0_1 l0_1.length c0_1) ∧ w'.cell? ⟨gb325, 2, none⟩ = some (.slice A0_2 l0_2.length c0_2) ∧ w'.cell? ⟨gb325, 3, none⟩ = some (.int .i64 a0_3) ∧ w'.cell? ⟨gb325, 4, none⟩ = some (.int .i64 a0_4) ∧ w'.cell? ⟨gb325, 5, none⟩ = some (.int .i64 a0_5) ∧ w'.cell? ⟨gb325, 6, none⟩ = some (.int .i64 a0_6) ∧ w'.cell? ⟨gb325, 7, none⟩ = some (.int .i64 a0_7) ∧ w'.cell? ⟨gb325, 8, none⟩ = some (.slice A0_8 l0_8.length c0_8) ∧ w'.cell? ⟨gb325, 9, none⟩ = some (.int .i64 a0_9)) ∧ (w'.heap[gb325]? = some (.cells #[.int .i64 a0_0, .slice A0_1 l0_1.length c0_1, .slice A0_2 l0_2.length c0_2, .int .i64 a0_3, .int .i64 a0_4, .int .i64 a0_5, .int .i64 a0_6, .int .i64 a0_7, .slice A0_8 l0_8.length c0_8, .int .i64 a0_9] 45 (0, 0))) ∧ (w'.heap[s_.1]? = some (.cells #[.int .i64 0, .int .i64 0] 54 (0, 0))) ∧ (w'.heap[s_.2]? = some (.cells #[.int .i64 0, .int .i64 0] 54 (0, 0))) ∧ (w.heap.size ≤ s_.1) ∧ (w.heap.size ≤ s_.1) ∧ (gb325 ≠ s_.1) ∧ (s_.1 ≠ gb325) ∧ (s_.2 ≠ s_.1) ∧ (s_.1 ≠ s_.2) ∧ (w.heap.size ≤ s_.2) ∧ (w.heap.size ≤ s_.2) ∧ (gb325 ≠ s_.2) ∧ (s_.2 ≠ gb325) ∧ (Below w.heap.size w w')) ?_ ?_
    rotate_left
    ·intro hJ3_7_12_13
     refine join_ (σ := Unit) 5 #[true, true, true, true, true, true, true, true, true, true, true, true, false, false, false, false, false] (fun s_ => [(17, .agg #[.int .i64 t326, .int .i64 t327]), (21, .agg #[.int .i64 t328, .int .i64 t329]), (25, .int .i64 t330)]) (fun s_ w' => (w'.cell? ⟨gb325, 0, none⟩ = some (.int .i64 a0_0) ∧ w'.cell? ⟨gb325, 1, none⟩ = some (.slice A0_1 l0_1.length c0_1) ∧ w'.cell? ⟨gb325, 2, none⟩ = some (.slice A0_2 l0_2.length c0_2) ∧ w'.cell? ⟨gb325, 3, none⟩ = some (.int .i64 a0_3) ∧ w'.cell? ⟨gb325, 4, none⟩ = some (.int .i64 a0_4) ∧ w'.cell? ⟨gb325, 5, none⟩ = some (.int .i64 a0_5) ∧ w'.cell? ⟨gb325, 6, none⟩ = some (.int .i64 a0_6) ∧ w'.cell? ⟨gb325, 7, none⟩ = some (.int .i64 a0_7) ∧ w'.cell? ⟨gb325, 8, none⟩ = some (.slice A0_8 l0_8.length c0_8) ∧ w'.cell? ⟨gb325, 9, none⟩ = some (.int .i64 a0_9)) ∧ (w'.heap[gb325]? = some (.cells #[.int .i64 a0_0, .slice A0_1 l0_1.length c0_1, .slice A0_2 l0_2.length c0_2, .int .i64 a0_3, .int .i64 a0_4, .int .i64 a0_5, .int .i64 a0_6, .int .i64 a0_7, .slice A0_8 l0_8.length c0_8, .int .i64 a0_9] 45 (0, 0))) ∧ (Below w.heap.size w w')) ?_ ?_
     rotate_left
     ·intro hJ3_7_11
      refine join_ (σ := Nat) 5 #[true, true, true, true, true, true, true, true, true, true, true, false, true, false, false, false, false] (fun s_ => [(17, .agg #[.int .i64 t326, .int .i64 t327]), (21, .agg #[.int .i64 t328, .int .i64 t329]), (9, .pointer (some ⟨s_, 0, none⟩))]) (fun s_ w' => (w'.cell? ⟨gb325, 0, none⟩ = some (.int .i64 a0_0) ∧ w'.cell? ⟨gb325, 1, none⟩ = some (.slice A0_1 l0_1.length c0_1) ∧ w'.cell? ⟨gb325, 2, none⟩ = some (.slice A0_2 l0_2.length c0_2) ∧ w'.cell? ⟨gb325, 3, none⟩ = some (.int .i64 a0_3) ∧ w'.cell? ⟨gb325, 4, none⟩ = some (.int .i64 a0_4) ∧ w'.cell? ⟨gb325, 5, none⟩ = some (.int .i64 a0_5) ∧ w'.cell? ⟨gb325, 6, none⟩ = some (.int .i64 a0_6) ∧ w'.cell? ⟨gb325, 7, none⟩ = some (.int .i64 a0_7) ∧ w'.cell? ⟨gb325, 8, none⟩ = some (.slice A0_8 l0_8.length c0_8) ∧ w'.cell? ⟨gb325, 9, none⟩ = some (.int .i64 a0_9)) ∧ (w'.heap[gb325]? = some (.cells #[.int .i64 a0_0, .slice A0_1 l0_1.length c0_1, .slice A0_2 l0_2.length c0_2, .int .i64 a0_3, .int .i64 a0_4, .int .i64 a0_5, .int .i64 a0_6, .int .i64 a0_7, .slice A0_8 l0_8.length c0_8, .int .i64 a0_9] 45 (0, 0))) ∧ (w'.heap[s_]? = some (.cells #[.int .i64 0, .int .i64 0] 54 (0, 0))) ∧ (w.heap.size ≤ s_) ∧ (w.heap.size ≤ s_) ∧ (gb325 ≠ s_) ∧ (s_ ≠ gb325) ∧ (Below w.heap.size w w')) ?_ ?_
      rotate_left
      ·intro hJ3_7_12
       refine join_ (σ := Nat) 5 #[true, true, true, true, true, true, true, true, true, true, true, false, false, true, false, false, false] (fun s_ => [(17, .agg #[.int .i64 t326, .int .i64 t327]), (21, .agg #[.int .i64 t328, .int .i64 t329]), (10, .pointer (some ⟨s_, 0, none⟩))]) (fun s_ w' => (w'.cell? ⟨gb325, 0, none⟩ = some (.int .i64 a0_0) ∧ w'.cell? ⟨gb325, 1, none⟩ = some (.slice A0_1 l0_1.length c0_1) ∧ w'.cell? ⟨gb325, 2, none⟩ = some (.slice A0_2 l0_2.length c0_2) ∧ w'.cell? ⟨gb325, 3, none⟩ = some (.int .i64 a0_3) ∧ w'.cell? ⟨gb325, 4, none⟩ = some (.int .i64 a0_4) ∧ w'.cell? ⟨gb325, 5, none⟩ = some (.int .i64 a0_5) ∧ w'.cell? ⟨gb325, 6, none⟩ = some (.int .i64 a0_6) ∧ w'.cell? ⟨gb325, 7, none⟩ = some (.int .i64 a0_7) ∧ w'.cell? ⟨gb325, 8, none⟩ = some (.slice A0_8 l0_8.length c0_8) ∧ w'.cell? ⟨gb325, 9, none⟩ = some (.int .i64 a0_9)) ∧ (w'.heap[gb325]? = some (.cells #[.int .i64 a0_0, .slice A0_1 l0_1.length c0_1, .slice A0_2 l0_2.length c0_2, .int .i64 a0_3, .int .i64 a0_4, .int .i64 a0_5, .int .i64 a0_6, .int .i64 a0_7, .slice A0_8 l0_8.length c0_8, .int .i64 a0_9] 45 (0, 0))) ∧ (w'.heap[s_]? = some (.cells #[.int .i64 0, .int .i64 0] 54 (0, 0))) ∧ (w.heap.size ≤ s_) ∧ (w.heap.size ≤ s_) ∧ (gb325 ≠ s_) ∧ (s_ ≠ gb325) ∧ (Below w.heap.size w w')) ?_ ?_
       rotate_left
       ·intro hJ3_7_13
        refine join_ (σ := Nat × Nat) 5 #[true, true, true, true, true, true, true, false, true, true, true, false, true, true, false, false, false] (fun s_ => [(17, .agg #[.int .i64 t326, .int .i64 t327]), (9, .pointer (some ⟨s_.1, 0, none⟩)), (10, .pointer (some ⟨s_.2, 0, none⟩))]) (fun s_ w' => (w'.cell? ⟨gb325, 0, none⟩ = some (.int .i64 a0_0) ∧ w'.cell? ⟨gb325, 1, none⟩ = some (.slice A0_1 l0_1.length c0_1) ∧ w'.cell? ⟨gb325, 2, none⟩ = some (.slice A0_2 l0_2.length c0_2) ∧ w'.cell? ⟨gb325, 3, none⟩ = some (.int .i64 a0_3) ∧ w'.cell? ⟨gb325, 4, none⟩ = some (.int .i64 a0_4) ∧ w'.cell? ⟨gb325, 5, none⟩ = some (.int .i64 a0_5) ∧ w'.cell? ⟨gb325, 6, none⟩ = some (.int .i64 a0_6) ∧ w'.cell? ⟨gb325, 7, none⟩ = some (.int .i64 a0_7) ∧ w'.cell? ⟨gb325, 8, none⟩ = some (.slice A0_8 l0_8.length c0_8) ∧ w'.cell? ⟨gb325, 9, none⟩ = some (.int .i64 a0_9)) ∧ (w'.heap[gb325]? = some (.cells #[.int .i64 a0_0, .slice A0_1 l0_1.length c0_1, .slice A0_2 l0_2.length c0_2, .int .i64 a0_3, .int .i64 a0_4, .int .i64 a0_5, .int .i64 a0_6, .int .i64 a0_7, .slice A0_8 l0_8.length c0_8, .int .i64 a0_9] 45 (0, 0))) ∧ (w'.heap[s_.1]? = some (.cells #[.int .i64 0, .int .i64 0] 54 (0, 0))) ∧ (w'.heap[s_.2]? = some (.cells #[.int .i64 0, .int .i64 0] 54 (0, 0))) ∧ (w.heap.size ≤ s_.1) ∧ (w.heap.size ≤ s_.1) ∧ (gb325 ≠ s_.1) ∧ (s_.1 ≠ gb325) ∧ (s_.2 ≠ s_.1) ∧ (s_.1 ≠ s_.2) ∧ (w.heap.size ≤ s_.2) ∧ (w.heap.size ≤ s_.2) ∧ (gb325 ≠ s_.2) ∧ (s_.2 ≠ gb325) ∧ (Below w.heap.size w w')) ?_ ?_
        rotate_left
        ·intro hJ3_12_13
         refine join_ (σ := Unit) 6 #[true, true, true, true, true, true, true, true, true, true, true, false, false, false, false, false, false] (fun s_ => [(17, .agg #[.int .i64 t326, .int .i64 t327]), (21, .agg #[.int .i64 t328, .int .i64 t329])]) (fun s_ w' => (w'.cell? ⟨gb325, 0, none⟩ = some (.int .i64 a0_0) ∧ w'.cell? ⟨gb325, 1, none⟩ = some (.slice A0_1 l0_1.length c0_1) ∧ w'.cell? ⟨gb325, 2, none⟩ = some (.slice A0_2 l0_2.length c0_2) ∧ w'.cell? ⟨gb325, 3, none⟩ = some (.int .i64 a0_3) ∧ w'.cell? ⟨gb325, 4, none⟩ = some (.int .i64 a0_4) ∧ w'.cell? ⟨gb325, 5, none⟩ = some (.int .i64 a0_5) ∧ w'.cell? ⟨gb325, 6, none⟩ = some (.int .i64 a0_6) ∧ w'.cell? ⟨gb325, 7, none⟩ = some (.int .i64 a0_7) ∧ w'.cell? ⟨gb325, 8, none⟩ = some (.slice A0_8 l0_8.length c0_8) ∧ w'.cell? ⟨gb325, 9, none⟩ = some (.int .i64 a0_9)) ∧ (w'.heap[gb325]? = some (.cells #[.int .i64 a0_0, .slice A0_1 l0_1.length c0_1, .slice A0_2 l0_2.length c0_2, .int .i64 a0_3, .int .i64 a0_4, .int .i64 a0_5, .int .i64 a0_6, .int .i64 a0_7, .slice A0_8 l0_8.length c0_8, .int .i64 a0_9] 45 (0, 0))) ∧ (Below w.heap.size w w')) ?_ ?_
         rotate_left
         ·intro hJ3_7
          refine join_ (σ := Nat) 6 #[true, true, true, true, true, true, true, false, true, true, true, false, true, false, false, false, false] (fun s_ => [(17, .agg #[.int .i64 t326, .int .i64 t327]), (9, .pointer (some ⟨s_, 0, none⟩))]) (fun s_ w' => (w'.cell? ⟨gb325, 0, none⟩ = some (.int .i64 a0_0) ∧ w'.cell? ⟨gb325, 1, none⟩ = some (.slice A0_1 l0_1.length c0_1) ∧ w'.cell? ⟨gb325, 2, none⟩ = some (.slice A0_2 l0_2.length c0_2) ∧ w'.cell? ⟨gb325, 3, none⟩ = some (.int .i64 a0_3) ∧ w'.cell? ⟨gb325, 4, none⟩ = some (.int .i64 a0_4) ∧ w'.cell? ⟨gb325, 5, none⟩ = some (.int .i64 a0_5) ∧ w'.cell? ⟨gb325, 6, none⟩ = some (.int .i64 a0_6) ∧ w'.cell? ⟨gb325, 7, none⟩ = some (.int .i64 a0_7) ∧ w'.cell? ⟨gb325, 8, none⟩ = some (.slice A0_8 l0_8.length c0_8) ∧ w'.cell? ⟨gb325, 9, none⟩ = some (.int .i64 a0_9)) ∧ (w'.heap[gb325]? = some (.cells #[.int .i64 a0_0, .slice A0_1 l0_1.length c0_1, .slice A0_2 l0_2.length c0_2, .int .i64 a0_3, .int .i64 a0_4, .int .i64 a0_5, .int .i64 a0_6, .int .i64 a0_7, .slice A0_8 l0_8.length c0_8, .int .i64 a0_9] 45 (0, 0))) ∧ (w'.heap[s_]? = some (.cells #[.int .i64 0, .int .i64 0] 54 (0, 0))) ∧ (w.heap.size ≤ s_) ∧ (w.heap.size ≤ s_) ∧ (gb325 ≠ s_) ∧ (s_ ≠ gb325) ∧ (Below w.heap.size w w')) ?_ ?_
          rotate_left
          ·intro hJ3_12
           refine join_ (σ := Nat) 6 #[true, true, true, true, true, true, true, false, true, true, true, false, false, true, false, false, false] (fun s_ => [(17, .agg #[.int .i64 t326, .int .i64 t327]), (10, .pointer (some ⟨s_, 0, none⟩))]) (fun s_ w' => (w'.cell? ⟨gb325, 0, none⟩ = some (.int .i64 a0_0) ∧ w'.cell? ⟨gb325, 1, none⟩ = some (.slice A0_1 l0_1.length c0_1) ∧ w'.cell? ⟨gb325, 2, none⟩ = some (.slice A0_2 l0_2.length c0_2) ∧ w'.cell? ⟨gb325, 3, none⟩ = some (.int .i64 a0_3) ∧ w'.cell? ⟨gb325, 4, none⟩ = some (.int .i64 a0_4) ∧ w'.cell? ⟨gb325, 5, none⟩ = some (.int .i64 a0_5) ∧ w'.cell? ⟨gb325, 6, none⟩ = some (.int .i64 a0_6) ∧ w'.cell? ⟨gb325, 7, none⟩ = some (.int .i64 a0_7) ∧ w'.cell? ⟨gb325, 8, none⟩ = some (.slice A0_8 l0_8.length c0_8) ∧ w'.cell? ⟨gb325, 9, none⟩ = some (.int .i64 a0_9)) ∧ (w'.heap[gb325]? = some (.cells #[.int .i64 a0_0, .slice A0_1 l0_1.length c0_1, .slice A0_2 l0_2.length c0_2, .int .i64 a0_3, .int .i64 a0_4, .int .i64 a0_5, .int .i64 a0_6, .int .i64 a0_7, .slice A0_8 l0_8.length c0_8, .int .i64 a0_9] 45 (0, 0))) ∧ (w'.heap[s_]? = some (.cells #[.int .i64 0, .int .i64 0] 54 (0, 0))) ∧ (w.heap.size ≤ s_) ∧ (w.heap.size ≤ s_) ∧ (gb325 ≠ s_) ∧ (s_ ≠ gb325) ∧ (Below w.heap.size w w')) ?_ ?_
           rotate_left
           ·intro hJ3_13
            refine join_ (σ := Nat × Nat) 6 #[true, true, true, false, true, true, true, false, true, true, true, false, true, true, false, false, false] (fun s_ => [(9, .pointer (some ⟨s_.1, 0, none⟩)), (10, .pointer (some ⟨s_.2, 0, none⟩))]) (fun s_ w' => (w'.cell? ⟨gb325, 0, none⟩ = some (.int .i64 a0_0) ∧ w'.cell? ⟨gb325, 1, none⟩ = some (.slice A0_1 l0_1.length c0_1) ∧ w'.cell? ⟨gb325, 2, none⟩ = some (.slice A0_2 l0_2.length c0_2) ∧ w'.cell? ⟨gb325, 3, none⟩ = some (.int .i64 a0_3) ∧ w'.cell? ⟨gb325, 4, none⟩ = some (.int .i64 a0_4) ∧ w'.cell? ⟨gb325, 5, none⟩ = some (.int .i64 a0_5) ∧ w'.cell? ⟨gb325, 6, none⟩ = some (.int .i64 a0_6) ∧ w'.cell? ⟨gb325, 7, none⟩ = some (.int .i64 a0_7) ∧ w'.cell? ⟨gb325, 8, none⟩ = some (.slice A0_8 l0_8.length c0_8) ∧ w'.cell? ⟨gb325, 9, none⟩ = some (.int .i64 a0_9)) ∧ (w'.heap[gb325]? = some (.cells #[.int .i64 a0_0, .slice A0_1 l0_1.length c0_1, .slice A0_2 l0_2.length c0_2, .int .i64 a0_3, .int .i64 a0_4, .int .i64 a0_5, .int .i64 a0_6, .int .i64 a0_7, .slice A0_8 l0_8.length c0_8, .int .i64 a0_9] 45 (0, 0))) ∧ (w'.heap[s_.1]? = some (.cells #[.int .i64 0, .int .i64 0] 54 (0, 0))) ∧ (w'.heap[s_.2]? = some (.cells #[.int .i64 0, .int .i64 0] 54 (0, 0))) ∧ (w.heap.size ≤ s_.1) ∧ (w.heap.size ≤ s_.1) ∧ (gb325 ≠ s_.1) ∧ (s_.1 ≠ gb325) ∧ (s_.2 ≠ s_.1) ∧ (s_.1 ≠ s_.2) ∧ (w.heap.size ≤ s_.2) ∧ (w.heap.size ≤ s_.2) ∧ (gb325 ≠ s_.2) ∧ (s_.2 ≠ gb325) ∧ (Below w.heap.size w w')) ?_ ?_
            rotate_left
            ·intro hJ12_13
             refine join_ (σ := Unit) 7 #[true, true, true, true, true, true, true, false, true, true, true, false, false, false, false, false, false] (fun s_ => [(17, .agg #[.int .i64 t326, .int .i64 t327])]) (fun s_ w' => (w'.cell? ⟨gb325, 0, none⟩ = some (.int .i64 a0_0) ∧ w'.cell? ⟨gb325, 1, none⟩ = some (.slice A0_1 l0_1.length c0_1) ∧ w'.cell? ⟨gb325, 2, none⟩ = some (.slice A0_2 l0_2.length c0_2) ∧ w'.cell? ⟨gb325, 3, none⟩ = some (.int .i64 a0_3) ∧ w'.cell? ⟨gb325, 4, none⟩ = some (.int .i64 a0_4) ∧ w'.cell? ⟨gb325, 5, none⟩ = some (.int .i64 a0_5) ∧ w'.cell? ⟨gb325, 6, none⟩ = some (.int .i64 a0_6) ∧ w'.cell? ⟨gb325, 7, none⟩ = some (.int .i64 a0_7) ∧ w'.cell? ⟨gb325, 8, none⟩ = some (.slice A0_8 l0_8.length c0_8) ∧ w'.cell? ⟨gb325, 9, none⟩ = some (.int .i64 a0_9)) ∧ (w'.heap[gb325]? = some (.cells #[.int .i64 a0_0, .slice A0_1 l0_1.length c0_1, .slice A0_2 l0_2.length c0_2, .int .i64 a0_3, .int .i64 a0_4, .int .i64 a0_5, .int .i64 a0_6, .int .i64 a0_7, .slice A0_8 l0_8.length c0_8, .int .i64 a0_9] 45 (0, 0))) ∧ (Below w.heap.size w w')) ?_ ?_
             rotate_left
             ·intro hJ3
              refine join_ (σ := Nat) 7 #[true, true, true, false, true, true, true, false, true, true, true, false, true, false, false, false, false] (fun s_ => [(9, .pointer (some ⟨s_, 0, none⟩))]) (fun s_ w' => (w'.cell? ⟨gb325, 0, none⟩ = some (.int .i64 a0_0) ∧ w'.cell? ⟨gb325, 1, none⟩ = some (.slice A0_1 l0_1.length c0_1) ∧ w'.cell? ⟨gb325, 2, none⟩ = some (.slice A0_2 l0_2.length c0_2) ∧ w'.cell? ⟨gb325, 3, none⟩ = some (.int .i64 a0_3) ∧ w'.cell? ⟨gb325, 4, none⟩ = some (.int .i64 a0_4) ∧ w'.cell? ⟨gb325, 5, none⟩ = some (.int .i64 a0_5) ∧ w'.cell? ⟨gb325, 6, none⟩ = some (.int .i64 a0_6) ∧ w'.cell? ⟨gb325, 7, none⟩ = some (.int .i64 a0_7) ∧ w'.cell? ⟨gb325, 8, none⟩ = some (.slice A0_8 l0_8.length c0_8) ∧ w'.cell? ⟨gb325, 9, none⟩ = some (.int .i64 a0_9)) ∧ (w'.heap[gb325]? = some (.cells #[.int .i64 a0_0, .slice A0_1 l0_1.length c0_1, .slice A0_2 l0_2.length c0_2, .int .i64 a0_3, .int .i64 a0_4, .int .i64 a0_5, .int .i64 a0_6, .int .i64 a0_7, .slice A0_8 l0_8.length c0_8, .int .i64 a0_9] 45 (0, 0))) ∧ (w'.heap[s_]? = some (.cells #[.int .i64 0, .int .i64 0] 54 (0, 0))) ∧ (w.heap.size ≤ s_) ∧ (w.heap.size ≤ s_) ∧ (gb325 ≠ s_) ∧ (s_ ≠ gb325) ∧ (Below w.heap.size w w')) ?_ ?_
              rotate_left
              ·intro hJ12
               refine join_ (σ := Nat) 7 #[true, true, true, false, true, true, true, false, true, true, true, false, false, true, false, false, false] (fun s_ => [(10, .pointer (some ⟨s_, 0, none⟩))]) (fun s_ w' => (w'.cell? ⟨gb325, 0, none⟩ = some (.int .i64 a0_0) ∧ w'.cell? ⟨gb325, 1, none⟩ = some (.slice A0_1 l0_1.length c0_1) ∧ w'.cell? ⟨gb325, 2, none⟩ = some (.slice A0_2 l0_2.length c0_2) ∧ w'.cell? ⟨gb325, 3, none⟩ = some (.int .i64 a0_3) ∧ w'.cell? ⟨gb325, 4, none⟩ = some (.int .i64 a0_4) ∧ w'.cell? ⟨gb325, 5, none⟩ = some (.int .i64 a0_5) ∧ w'.cell? ⟨gb325, 6, none⟩ = some (.int .i64 a0_6) ∧ w'.cell? ⟨gb325, 7, none⟩ = some (.int .i64 a0_7) ∧ w'.cell? ⟨gb325, 8, none⟩ = some (.slice A0_8 l0_8.length c0_8) ∧ w'.cell? ⟨gb325, 9, none⟩ = some (.int .i64 a0_9)) ∧ (w'.heap[gb325]? = some (.cells #[.int .i64 a0_0, .slice A0_1 l0_1.length c0_1, .slice A0_2 l0_2.length c0_2, .int .i64 a0_3, .int .i64 a0_4, .int .i64 a0_5, .int .i64 a0_6, .int .i64 a0_7, .slice A0_8 l0_8.length c0_8, .int .i64 a0_9] 45 (0, 0))) ∧ (w'.heap[s_]? = some (.cells #[.int .i64 0, .int .i64 0] 54 (0, 0))) ∧ (w.heap.size ≤ s_) ∧ (w.heap.size ≤ s_) ∧ (gb325 ≠ s_) ∧ (s_ ≠ gb325) ∧ (Below w.heap.size w w')) ?_ ?_
               rotate_left
               ·intro hJ13
                refine three_ (i := 3) (j := 12) (k := 13) (Ni := some 17) (Nj := some 9) (Nk := some 10) #[true, true, true, true, true, true, true, false, true, true, true, false, false, false, false, false, false] #[true, true, true, false, true, true, true, false, true, true, true, false, true, false, false, false, false] #[true, true, true, false, true, true, true, false, true, true, true, false, false, true, false, false, false] rfl rfl rfl rfl rfl rfl (three_of HT_.out (by kernel_rfl)) (by decide) (by decide) (by decide) (fun K hK => ?_) (fun K hK => ?_) (fun K hK => ?_)
                ·skip
                 refine goes_ Try.func36 (by kernel_rfl) rfl #[.agg #[.int .i64 a0_0, .slice A0_1 l0_1.length c0_1, .slice A0_2 l0_2.length c0_2, .int .i64 a0_3, .int .i64 a0_4, .int .i64 a0_5, .int .i64 a0_6, .int .i64 a0_7, .slice A0_8 l0_8.length c0_8, .int .i64 a0_9], .int .i64 a1, .int .i64 a3] (by rfl) rfl rfl mp_ ?_
                 with_reducible refine (impl_NodeAt.calls a0_0 _ _ l0_1 _ _ l0_2 a0_3 a0_4 a0_5 a0_6 a0_7 _ _ l0_8 a0_9 a1 a3 t326 t327 _ ?side1 ?side2 ?side3 ?side4 ?side5 ?side6 A5.out).mono ?_
                 (case side1 => exact ck_ HR0_1 HB)
                 (case side2 => exact HC0_1.out)
                 (case side3 => exact ck_ HR0_2 HB)
                 (case side4 => exact HC0_2.out)
                 (case side5 => exact ck_ HR0_8 HB)
                 (case side6 => exact HC0_8.out)
                 rintro e w14 ⟨rfl, hb⟩
                 refine ⟨_, rfl, ?_⟩
                 have n0_ := Aside0.mk (blk_below (bk_ BK325) hb)
                 have n1_ := Aside0.mk (below_step (bl1_ HB GE325) hb)
                 clear BK325
                 clear HB
                 have BK325 := n0_
                 have HB := n1_
                 clear n0_ n1_
                 (try clear hb)
                 (try clear hb2)
                 (try clear hk)
                 (try clear hi)
                 refine hK.out _ _ ⟨(blk_cell BK325.out 0).trans rfl, (blk_cell BK325.out 1).trans rfl, (blk_cell BK325.out 2).trans rfl, (blk_cell BK325.out 3).trans rfl, (blk_cell BK325.out 4).trans rfl, (blk_cell BK325.out 5).trans rfl, (blk_cell BK325.out 6).trans rfl, (blk_cell BK325.out 7).trans rfl, (blk_cell BK325.out 8).trans rfl, (blk_cell BK325.out 9).trans rfl⟩ (fun hHeld => ?_)
                 clear hK K
                 refine norm_ (a' := ?_) ?_ ?_
                 rotate_left
                 ·show Act.put _ (some 17) _ = _
                  simp only [Act.put, List.setIfInBounds_toArray, List.set_cons_zero, List.set_cons_succ, i64_w, i32_w]
                  rfl
                 exact norm_ (by first | (simp only [putAll, Act.put, List.setIfInBounds_toArray, List.set_cons_zero, List.set_cons_succ]; done) | (simp only [putAll, Act.put, List.setIfInBounds_toArray, List.set_cons_zero, List.set_cons_succ]; rfl)) (hJ3 () _ ⟨hHeld, (bk_ BK325), (bl1_ HB GE325)⟩)
                ·skip
                 refine box_step ?hg (N := 9) ?hd (cs := #[.int .i64 0, .int .i64 0]) (t := 54) ?hr ?_; (case hd => rfl); (case hg => rfl); (case hr => first | (go_simp; done) | (go_simp; rfl))
                 intro gb331 hg w14 hbox hb
                 have n0_ := Aside0.mk (blk_below (bk_ BK325) hb)
                 have n1_ := Aside0.mk (below_step (bl1_ HB GE325) hb)
                 have n2_ := Aside0.mk (hbox)
                 have n3_ := Aside0.mk ((by rw [hg]; exact (below_size (bl1_ HB GE325)) : w.heap.size ≤ gb331))
                 have n4_ := Aside0.mk ((by rw [hg]; exact (below_size (bl1_ HB GE325)) : w.heap.size ≤ gb331))
                 have n5_ := Aside0.mk ((by rw [hg]; exact Nat.ne_of_lt (blk_lt (bk_ BK325)) : gb325 ≠ gb331))
                 have n6_ := Aside0.mk ((by rw [hg]; exact Nat.ne_of_gt (blk_lt (bk_ BK325)) : gb331 ≠ gb325))
                 clear BK325
                 clear HB
                 have BK325 := n0_
                 have HB := n1_
                 have BK331 := n2_
                 have GW331 := n3_
                 have GE331 := n4_
                 have NB325_331 := n5_
                 have NB331_325 := n6_
                 clear n0_ n1_ n2_ n3_ n4_ n5_ n6_
                 clear hb hbox hg
                 refine hK.out _ _ ⟨(blk_cell BK325.out 0).trans rfl, (blk_cell BK325.out 1).trans rfl, (blk_cell BK325.out 2).trans rfl, (blk_cell BK325.out 3).trans rfl, (blk_cell BK325.out 4).trans rfl, (blk_cell BK325.out 5).trans rfl, (blk_cell BK325.out 6).trans rfl, (blk_cell BK325.out 7).trans rfl, (blk_cell BK325.out 8).trans rfl, (blk_cell BK325.out 9).trans rfl⟩ (fun hHeld => ?_)
                 clear hK K
                 refine norm_ (a' := ?_) ?_ ?_
                 rotate_left
                 ·show Act.put _ (some 9) _ = _
                  simp only [Act.put, List.setIfInBounds_toArray, List.set_cons_zero, List.set_cons_succ, i64_w, i32_w]
                  rfl
                 exact norm_ (by first | (simp only [putAll, Act.put, List.setIfInBounds_toArray, List.set_cons_zero, List.set_cons_succ]; done) | (simp only [putAll, Act.put, List.setIfInBounds_toArray, List.set_cons_zero, List.set_cons_succ]; rfl)) (hJ12 (gb331) _ ⟨hHeld, (bk_ BK325), (bk_ BK331), GW331.out, GE331.out, NB325_331.out, NB331_325.out, (bl2_ HB GE325 GE331)⟩)
                ·skip
                 refine box_step ?hg (N := 10) ?hd (cs := #[.int .i64 0, .int .i64 0]) (t := 54) ?hr ?_; (case hd => rfl); (case hg => rfl); (case hr => first | (go_simp; done) | (go_simp; rfl))
                 intro gb332 hg w14 hbox hb
                 have n0_ := Aside0.mk (blk_below (bk_ BK325) hb)
                 have n1_ := Aside0.mk (below_step (bl1_ HB GE325) hb)
                 have n2_ := Aside0.mk (hbox)
                 have n3_ := Aside0.mk ((by rw [hg]; exact (below_size (bl1_ HB GE325)) : w.heap.size ≤ gb332))
                 have n4_ := Aside0.mk ((by rw [hg]; exact (below_size (bl1_ HB GE325)) : w.heap.size ≤ gb332))
                 have n5_ := Aside0.mk ((by rw [hg]; exact Nat.ne_of_lt (blk_lt (bk_ BK325)) : gb325 ≠ gb332))
                 have n6_ := Aside0.mk ((by rw [hg]; exact Nat.ne_of_gt (blk_lt (bk_ BK325)) : gb332 ≠ gb325))
                 clear BK325
                 clear HB
                 have BK325 := n0_
                 have HB := n1_
                 have BK332 := n2_
                 have GW332 := n3_
                 have GE332 := n4_
                 have NB325_332 := n5_
                 have NB332_325 := n6_
                 clear n0_ n1_ n2_ n3_ n4_ n5_ n6_
                 clear hb hbox hg
                 refine hK.out _ _ ⟨(blk_cell BK325.out 0).trans rfl, (blk_cell BK325.out 1).trans rfl, (blk_cell BK325.out 2).trans rfl, (blk_cell BK325.out 3).trans rfl, (blk_cell BK325.out 4).trans rfl, (blk_cell BK325.out 5).trans rfl, (blk_cell BK325.out 6).trans rfl, (blk_cell BK325.out 7).trans rfl, (blk_cell BK325.out 8).trans rfl, (blk_cell BK325.out 9).trans rfl⟩ (fun hHeld => ?_)
                 clear hK K
                 refine norm_ (a' := ?_) ?_ ?_
                 rotate_left
                 ·show Act.put _ (some 10) _ = _
                  simp only [Act.put, List.setIfInBounds_toArray, List.set_cons_zero, List.set_cons_succ, i64_w, i32_w]
                  rfl
                 exact norm_ (by first | (simp only [putAll, Act.put, List.setIfInBounds_toArray, List.set_cons_zero, List.set_cons_succ]; done) | (simp only [putAll, Act.put, List.setIfInBounds_toArray, List.set_cons_zero, List.set_cons_succ]; rfl)) (hJ13 (gb332) _ ⟨hHeld, (bk_ BK325), (bk_ BK332), GW332.out, GE332.out, NB325_332.out, NB332_325.out, (bl2_ HB GE325 GE332)⟩)
               ·skip
                rintro gb332 w15 ⟨hS_, h0_, h1_, h2_, h3_, h4_, h5_, h6_⟩
                have n0_ : Aside0 (w15.heap[gb325]? = some (.cells #[.int .i64 a0_0, .slice A0_1 l0_1.length c0_1, .slice A0_2 l0_2.length c0_2, .int .i64 a0_3, .int .i64 a0_4, .int .i64 a0_5, .int .i64 a0_6, .int .i64 a0_7, .slice A0_8 l0_8.length c0_8, .int .i64 a0_9] 45 (0, 0))) := ⟨h0_⟩
                have n1_ : Aside0 (w15.heap[gb332]? = some (.cells #[.int .i64 0, .int .i64 0] 54 (0, 0))) := ⟨h1_⟩
                have n2_ : Aside0 (w.heap.size ≤ gb332) := ⟨h2_⟩
                have n3_ : Aside0 (w.heap.size ≤ gb332) := ⟨h3_⟩
                have n4_ : Aside0 (gb325 ≠ gb332) := ⟨h4_⟩
                have n5_ : Aside0 (gb332 ≠ gb325) := ⟨h5_⟩
                have n6_ : Aside0 (Below w.heap.size w w15) := ⟨h6_⟩
                clear BK325
                clear HB
                clear h0_ h1_ h2_ h3_ h4_ h5_ h6_
                have BK325 := n0_
                have BK332 := n1_
                have GW332 := n2_
                have GE332 := n3_
                have NB325_332 := n4_
                have NB332_325 := n5_
                have HB := n6_
                clear n0_ n1_ n2_ n3_ n4_ n5_ n6_
                have hHeld : w15.cell? ⟨gb325, 0, none⟩ = some (.int .i64 a0_0) ∧ w15.cell? ⟨gb325, 1, none⟩ = some (.slice A0_1 l0_1.length c0_1) ∧ w15.cell? ⟨gb325, 2, none⟩ = some (.slice A0_2 l0_2.length c0_2) ∧ w15.cell? ⟨gb325, 3, none⟩ = some (.int .i64 a0_3) ∧ w15.cell? ⟨gb325, 4, none⟩ = some (.int .i64 a0_4) ∧ w15.cell? ⟨gb325, 5, none⟩ = some (.int .i64 a0_5) ∧ w15.cell? ⟨gb325, 6, none⟩ = some (.int .i64 a0_6) ∧ w15.cell? ⟨gb325, 7, none⟩ = some (.int .i64 a0_7) ∧ w15.cell? ⟨gb325, 8, none⟩ = some (.slice A0_8 l0_8.length c0_8) ∧ w15.cell? ⟨gb325, 9, none⟩ = some (.int .i64 a0_9) := hS_
                refine norm_ (a' := ?_) ?_ ?_
                rotate_left
                ·simp only [putAll, Act.put, List.setIfInBounds_toArray, List.set_cons_zero, List.set_cons_succ]
                 rfl
                refine two_ (i := 3) (j := 12) (Ni := some 17) (Nj := some 9) #[true, true, true, true, true, true, true, false, true, true, true, false, false, true, false, false, false] #[true, true, true, false, true, true, true, false, true, true, true, false, true, true, false, false, false] rfl rfl rfl rfl (two_of HT_.out (by kernel_rfl)) (by decide) (by decide) (fun K hK => ?_) (fun K hK => ?_)
                ·skip
                 refine goes_ Try.func36 (by kernel_rfl) rfl #[.agg #[.int .i64 a0_0, .slice A0_1 l0_1.length c0_1, .slice A0_2 l0_2.length c0_2, .int .i64 a0_3, .int .i64 a0_4, .int .i64 a0_5, .int .i64 a0_6, .int .i64 a0_7, .slice A0_8 l0_8.length c0_8, .int .i64 a0_9], .int .i64 a1, .int .i64 a3] (by rfl) rfl rfl mp_ ?_
                 with_reducible refine (impl_NodeAt.calls a0_0 _ _ l0_1 _ _ l0_2 a0_3 a0_4 a0_5 a0_6 a0_7 _ _ l0_8 a0_9 a1 a3 t326 t327 _ ?side1 ?side2 ?side3 ?side4 ?side5 ?side6 A5.out).mono ?_
                 (case side1 => exact ck_ HR0_1 HB)
                 (case side2 => exact HC0_1.out)
                 (case side3 => exact ck_ HR0_2 HB)
                 (case side4 => exact HC0_2.out)
                 (case side5 => exact ck_ HR0_8 HB)
                 (case side6 => exact HC0_8.out)
                 rintro e w16 ⟨rfl, hb⟩
                 refine ⟨_, rfl, ?_⟩
                 have n0_ := Aside0.mk (blk_below (bk_ BK325) hb)
                 have n1_ := Aside0.mk (blk_below (bk_ BK332) hb)
                 have n2_ := Aside0.mk (below_step (bl2_ HB GE325 GE332) hb)
                 clear BK325
                 clear BK332
                 clear HB
                 have BK325 := n0_
                 have BK332 := n1_
                 have HB := n2_
                 clear n0_ n1_ n2_
                 (try clear hb)
                 (try clear hb2)
                 (try clear hk)
                 (try clear hi)
                 refine hK.out _ _ ⟨(blk_cell BK325.out 0).trans rfl, (blk_cell BK325.out 1).trans rfl, (blk_cell BK325.out 2).trans rfl, (blk_cell BK325.out 3).trans rfl, (blk_cell BK325.out 4).trans rfl, (blk_cell BK325.out 5).trans rfl, (blk_cell BK325.out 6).trans rfl, (blk_cell BK325.out 7).trans rfl, (blk_cell BK325.out 8).trans rfl, (blk_cell BK325.out 9).trans rfl⟩ (fun hHeld => ?_)
                 clear hK K
                 refine norm_ (a' := ?_) ?_ ?_
                 rotate_left
                 ·show Act.put _ (some 17) _ = _
                  simp only [Act.put, List.setIfInBounds_toArray, List.set_cons_zero, List.set_cons_succ, i64_w, i32_w]
                  rfl
                 exact norm_ (by first | (simp only [putAll, Act.put, List.setIfInBounds_toArray, List.set_cons_zero, List.set_cons_succ]; done) | (simp only [putAll, Act.put, List.setIfInBounds_toArray, List.set_cons_zero, List.set_cons_succ]; rfl)) (hJ3_13 (gb332) _ ⟨hHeld, (bk_ BK325), (bk_ BK332), GW332.out, GE332.out, NB325_332.out, NB332_325.out, (bl2_ HB GE325 GE332)⟩)
                ·skip
                 refine box_step ?hg (N := 9) ?hd (cs := #[.int .i64 0, .int .i64 0]) (t := 54) ?hr ?_; (case hd => rfl); (case hg => rfl); (case hr => first | (go_simp; done) | (go_simp; rfl))
                 intro gb331 hg w16 hbox hb
                 have n0_ := Aside0.mk (blk_below (bk_ BK325) hb)
                 have n1_ := Aside0.mk (blk_below (bk_ BK332) hb)
                 have n2_ := Aside0.mk (below_step (bl2_ HB GE325 GE332) hb)
                 have n3_ := Aside0.mk (hbox)
                 have n4_ := Aside0.mk ((by rw [hg]; exact (below_size (bl2_ HB GE325 GE332)) : w.heap.size ≤ gb331))
                 have n5_ := Aside0.mk ((by rw [hg]; exact (below_size (bl2_ HB GE325 GE332)) : w.heap.size ≤ gb331))
                 have n6_ := Aside0.mk ((by rw [hg]; exact Nat.ne_of_lt (blk_lt (bk_ BK325)) : gb325 ≠ gb331))
                 have n7_ := Aside0.mk ((by rw [hg]; exact Nat.ne_of_gt (blk_lt (bk_ BK325)) : gb331 ≠ gb325))
                 have n8_ := Aside0.mk ((by rw [hg]; exact Nat.ne_of_lt (blk_lt (bk_ BK332)) : gb332 ≠ gb331))
                 have n9_ := Aside0.mk ((by rw [hg]; exact Nat.ne_of_gt (blk_lt (bk_ BK332)) : gb331 ≠ gb332))
                 clear BK325
                 clear BK332
                 clear HB
                 have BK325 := n0_
                 have BK332 := n1_
                 have HB := n2_
                 have BK331 := n3_
                 have GW331 := n4_
                 have GE331 := n5_
                 have NB325_331 := n6_
                 have NB331_325 := n7_
                 have NB332_331 := n8_
                 have NB331_332 := n9_
                 clear n0_ n1_ n2_ n3_ n4_ n5_ n6_ n7_ n8_ n9_
                 clear hb hbox hg
                 refine hK.out _ _ ⟨(blk_cell BK325.out 0).trans rfl, (blk_cell BK325.out 1).trans rfl, (blk_cell BK325.out 2).trans rfl, (blk_cell BK325.out 3).trans rfl, (blk_cell BK325.out 4).trans rfl, (blk_cell BK325.out 5).trans rfl, (blk_cell BK325.out 6).trans rfl, (blk_cell BK325.out 7).trans rfl, (blk_cell BK325.out 8).trans rfl, (blk_cell BK325.out 9).trans rfl⟩ (fun hHeld => ?_)
                 clear hK K
                 refine norm_ (a' := ?_) ?_ ?_
                 rotate_left
                 ·show Act.put _ (some 9) _ = _
                  simp only [Act.put, List.setIfInBounds_toArray, List.set_cons_zero, List.set_cons_succ, i64_w, i32_w]
                  rfl
                 exact norm_ (by first | (simp only [putAll, Act.put, List.setIfInBounds_toArray, List.set_cons_zero, List.set_cons_succ]; done) | (simp only [putAll, Act.put, List.setIfInBounds_toArray, List.set_cons_zero, List.set_cons_succ]; rfl)) (hJ12_13 (gb331, gb332) _ ⟨hHeld, (bk_ BK325), (bk_ BK331), (bk_ BK332), GW331.out, GE331.out, NB325_331.out, NB331_325.out, NB332_331.out, NB331_332.out, GW332.out, GE332.out, NB325_332.out, NB332_325.out, (bl3_ HB GE325 GE332 GE331)⟩)
              ·skip
               rintro gb331 w15 ⟨hS_, h0_, h1_, h2_, h3_, h4_, h5_, h6_⟩
               have n0_ : Aside0 (w15.heap[gb325]? = some (.cells #[.int .i64 a0_0, .slice A0_1 l0_1.length c0_1, .slice A0_2 l0_2.length c0_2, .int .i64 a0_3, .int .i64 a0_4, .int .i64 a0_5, .int .i64 a0_6, .int .i64 a0_7, .slice A0_8 l0_8.length c0_8, .int .i64 a0_9] 45 (0, 0))) := ⟨h0_⟩
               have n1_ : Aside0 (w15.heap[gb331]? = some (.cells #[.int .i64 0, .int .i64 0] 54 (0, 0))) := ⟨h1_⟩
               have n2_ : Aside0 (w.heap.size ≤ gb331) := ⟨h2_⟩
               have n3_ : Aside0 (w.heap.size ≤ gb331) := ⟨h3_⟩
               have n4_ : Aside0 (gb325 ≠ gb331) := ⟨h4_⟩
               have n5_ : Aside0 (gb331 ≠ gb325) := ⟨h5_⟩
               have n6_ : Aside0 (Below w.heap.size w w15) := ⟨h6_⟩
               clear BK325
               clear HB
               clear h0_ h1_ h2_ h3_ h4_ h5_ h6_
               have BK325 := n0_
               have BK331 := n1_
               have GW331 := n2_
               have GE331 := n3_
               have NB325_331 := n4_
               have NB331_325 := n5_
               have HB := n6_
               clear n0_ n1_ n2_ n3_ n4_ n5_ n6_
               have hHeld : w15.cell? ⟨gb325, 0, none⟩ = some (.int .i64 a0_0) ∧ w15.cell? ⟨gb325, 1, none⟩ = some (.slice A0_1 l0_1.length c0_1) ∧ w15.cell? ⟨gb325, 2, none⟩ = some (.slice A0_2 l0_2.length c0_2) ∧ w15.cell? ⟨gb325, 3, none⟩ = some (.int .i64 a0_3) ∧ w15.cell? ⟨gb325, 4, none⟩ = some (.int .i64 a0_4) ∧ w15.cell? ⟨gb325, 5, none⟩ = some (.int .i64 a0_5) ∧ w15.cell? ⟨gb325, 6, none⟩ = some (.int .i64 a0_6) ∧ w15.cell? ⟨gb325, 7, none⟩ = some (.int .i64 a0_7) ∧ w15.cell? ⟨gb325, 8, none⟩ = some (.slice A0_8 l0_8.length c0_8) ∧ w15.cell? ⟨gb325, 9, none⟩ = some (.int .i64 a0_9) := hS_
               refine norm_ (a' := ?_) ?_ ?_
               rotate_left
               ·simp only [putAll, Act.put, List.setIfInBounds_toArray, List.set_cons_zero, List.set_cons_succ]
                rfl
               refine two_ (i := 3) (j := 13) (Ni := some 17) (Nj := some 10) #[true, true, true, true, true, true, true, false, true, true, true, false, true, false, false, false, false] #[true, true, true, false, true, true, true, false, true, true, true, false, true, true, false, false, false] rfl rfl rfl rfl (two_of HT_.out (by kernel_rfl)) (by decide) (by decide) (fun K hK => ?_) (fun K hK => ?_)
               ·skip
                refine goes_ Try.func36 (by kernel_rfl) rfl #[.agg #[.int .i64 a0_0, .slice A0_1 l0_1.length c0_1, .slice A0_2 l0_2.length c0_2, .int .i64 a0_3, .int .i64 a0_4, .int .i64 a0_5, .int .i64 a0_6, .int .i64 a0_7, .slice A0_8 l0_8.length c0_8, .int .i64 a0_9], .int .i64 a1, .int .i64 a3] (by rfl) rfl rfl mp_ ?_
                with_reducible refine (impl_NodeAt.calls a0_0 _ _ l0_1 _ _ l0_2 a0_3 a0_4 a0_5 a0_6 a0_7 _ _ l0_8 a0_9 a1 a3 t326 t327 _ ?side1 ?side2 ?side3 ?side4 ?side5 ?side6 A5.out).mono ?_
                (case side1 => exact ck_ HR0_1 HB)
                (case side2 => exact HC0_1.out)
                (case side3 => exact ck_ HR0_2 HB)
                (case side4 => exact HC0_2.out)
                (case side5 => exact ck_ HR0_8 HB)
                (case side6 => exact HC0_8.out)
                rintro e w16 ⟨rfl, hb⟩
                refine ⟨_, rfl, ?_⟩
                have n0_ := Aside0.mk (blk_below (bk_ BK325) hb)
                have n1_ := Aside0.mk (blk_below (bk_ BK331) hb)
                have n2_ := Aside0.mk (below_step (bl2_ HB GE325 GE331) hb)
                clear BK325
                clear BK331
                clear HB
                have BK325 := n0_
                have BK331 := n1_
                have HB := n2_
                clear n0_ n1_ n2_
                (try clear hb)
                (try clear hb2)
                (try clear hk)
                (try clear hi)
                refine hK.out _ _ ⟨(blk_cell BK325.out 0).trans rfl, (blk_cell BK325.out 1).trans rfl, (blk_cell BK325.out 2).trans rfl, (blk_cell BK325.out 3).trans rfl, (blk_cell BK325.out 4).trans rfl, (blk_cell BK325.out 5).trans rfl, (blk_cell BK325.out 6).trans rfl, (blk_cell BK325.out 7).trans rfl, (blk_cell BK325.out 8).trans rfl, (blk_cell BK325.out 9).trans rfl⟩ (fun hHeld => ?_)
                clear hK K
                refine norm_ (a' := ?_) ?_ ?_
                rotate_left
                ·show Act.put _ (some 17) _ = _
                 simp only [Act.put, List.setIfInBounds_toArray, List.set_cons_zero, List.set_cons_succ, i64_w, i32_w]
                 rfl
                exact norm_ (by first | (simp only [putAll, Act.put, List.setIfInBounds_toArray, List.set_cons_zero, List.set_cons_succ]; done) | (simp only [putAll, Act.put, List.setIfInBounds_toArray, List.set_cons_zero, List.set_cons_succ]; rfl)) (hJ3_12 (gb331) _ ⟨hHeld, (bk_ BK325), (bk_ BK331), GW331.out, GE331.out, NB325_331.out, NB331_325.out, (bl2_ HB GE325 GE331)⟩)
               ·skip
                refine box_step ?hg (N := 10) ?hd (cs := #[.int .i64 0, .int .i64 0]) (t := 54) ?hr ?_; (case hd => rfl); (case hg => rfl); (case hr => first | (go_simp; done) | (go_simp; rfl))
                intro gb332 hg w16 hbox hb
                have n0_ := Aside0.mk (blk_below (bk_ BK325) hb)
                have n1_ := Aside0.mk (blk_below (bk_ BK331) hb)
                have n2_ := Aside0.mk (below_step (bl2_ HB GE325 GE331) hb)
                have n3_ := Aside0.mk (hbox)
                have n4_ := Aside0.mk ((by rw [hg]; exact (below_size (bl2_ HB GE325 GE331)) : w.heap.size ≤ gb332))
                have n5_ := Aside0.mk ((by rw [hg]; exact (below_size (bl2_ HB GE325 GE331)) : w.heap.size ≤ gb332))
                have n6_ := Aside0.mk ((by rw [hg]; exact Nat.ne_of_lt (blk_lt (bk_ BK325)) : gb325 ≠ gb332))
                have n7_ := Aside0.mk ((by rw [hg]; exact Nat.ne_of_gt (blk_lt (bk_ BK325)) : gb332 ≠ gb325))
                have n8_ := Aside0.mk ((by rw [hg]; exact Nat.ne_of_lt (blk_lt (bk_ BK331)) : gb331 ≠ gb332))
                have n9_ := Aside0.mk ((by rw [hg]; exact Nat.ne_of_gt (blk_lt (bk_ BK331)) : gb332 ≠ gb331))
                clear BK325
                clear BK331
                clear HB
                have BK325 := n0_
                have BK331 := n1_
                have HB := n2_
                have BK332 := n3_
                have GW332 := n4_
                have GE332 := n5_
                have NB325_332 := n6_
                have NB332_325 := n7_
                have NB331_332 := n8_
                have NB332_331 := n9_
                clear n0_ n1_ n2_ n3_ n4_ n5_ n6_ n7_ n8_ n9_
                clear hb hbox hg
                refine hK.out _ _ ⟨(blk_cell BK325.out 0).trans rfl, (blk_cell BK325.out 1).trans rfl, (blk_cell BK325.out 2).trans rfl, (blk_cell BK325.out 3).trans rfl, (blk_cell BK325.out 4).trans rfl, (blk_cell BK325.out 5).trans rfl, (blk_cell BK325.out 6).trans rfl, (blk_cell BK325.out 7).trans rfl, (blk_cell BK325.out 8).trans rfl, (blk_cell BK325.out 9).trans rfl⟩ (fun hHeld => ?_)
                clear hK K
                refine norm_ (a' := ?_) ?_ ?_
                rotate_left
                ·show Act.put _ (some 10) _ = _
                 simp only [Act.put, List.setIfInBounds_toArray, List.set_cons_zero, List.set_cons_succ, i64_w, i32_w]
                 rfl
                exact norm_ (by first | (simp only [putAll, Act.put, List.setIfInBounds_toArray, List.set_cons_zero, List.set_cons_succ]; done) | (simp only [putAll, Act.put, List.setIfInBounds_toArray, List.set_cons_zero, List.set_cons_succ]; rfl)) (hJ12_13 (gb331, gb332) _ ⟨hHeld, (bk_ BK325), (bk_ BK331), (bk_ BK332), GW331.out, GE331.out, NB325_331.out, NB331_325.out, NB332_331.out, NB331_332.out, GW332.out, GE332.out, NB325_332.out, NB332_325.out, (bl3_ HB GE325 GE331 GE332)⟩)
             ·skip
              rintro _ w15 ⟨hS_, h0_, h1_⟩
              have n0_ : Aside0 (w15.heap[gb325]? = some (.cells #[.int .i64 a0_0, .slice A0_1 l0_1.length c0_1, .slice A0_2 l0_2.length c0_2, .int .i64 a0_3, .int .i64 a0_4, .int .i64 a0_5, .int .i64 a0_6, .int .i64 a0_7, .slice A0_8 l0_8.length c0_8, .int .i64 a0_9] 45 (0, 0))) := ⟨h0_⟩
              have n1_ : Aside0 (Below w.heap.size w w15) := ⟨h1_⟩
              clear BK325
              clear HB
              clear h0_ h1_
              have BK325 := n0_
              have HB := n1_
              clear n0_ n1_
              have hHeld : w15.cell? ⟨gb325, 0, none⟩ = some (.int .i64 a0_0) ∧ w15.cell? ⟨gb325, 1, none⟩ = some (.slice A0_1 l0_1.length c0_1) ∧ w15.cell? ⟨gb325, 2, none⟩ = some (.slice A0_2 l0_2.length c0_2) ∧ w15.cell? ⟨gb325, 3, none⟩ = some (.int .i64 a0_3) ∧ w15.cell? ⟨gb325, 4, none⟩ = some (.int .i64 a0_4) ∧ w15.cell? ⟨gb325, 5, none⟩ = some (.int .i64 a0_5) ∧ w15.cell? ⟨gb325, 6, none⟩ = some (.int .i64 a0_6) ∧ w15.cell? ⟨gb325, 7, none⟩ = some (.int .i64 a0_7) ∧ w15.cell? ⟨gb325, 8, none⟩ = some (.slice A0_8 l0_8.length c0_8) ∧ w15.cell? ⟨gb325, 9, none⟩ = some (.int .i64 a0_9) := hS_
              refine norm_ (a' := ?_) ?_ ?_
              rotate_left
              ·simp only [putAll, Act.put, List.setIfInBounds_toArray, List.set_cons_zero, List.set_cons_succ]
               rfl
              refine three_ (i := 7) (j := 12) (k := 13) (Ni := some 21) (Nj := some 9) (Nk := some 10) #[true, true, true, true, true, true, true, true, true, true, true, false, false, false, false, false, false] #[true, true, true, true, true, true, true, false, true, true, true, false, true, false, false, false, false] #[true, true, true, true, true, true, true, false, true, true, true, false, false, true, false, false, false] rfl rfl rfl rfl rfl rfl (three_of HT_.out (by kernel_rfl)) (by decide) (by decide) (by decide) (fun K hK => ?_) (fun K hK => ?_) (fun K hK => ?_)
              ·skip
               refine goes_ Try.func36 (by kernel_rfl) rfl #[.agg #[.int .i64 a0_0, .slice A0_1 l0_1.length c0_1, .slice A0_2 l0_2.length c0_2, .int .i64 a0_3, .int .i64 a0_4, .int .i64 a0_5, .int .i64 a0_6, .int .i64 a0_7, .slice A0_8 l0_8.length c0_8, .int .i64 a0_9], .int .i64 a2, .int .i64 a3] (by rfl) rfl rfl mp_ ?_
               with_reducible refine (impl_NodeAt.calls a0_0 _ _ l0_1 _ _ l0_2 a0_3 a0_4 a0_5 a0_6 a0_7 _ _ l0_8 a0_9 a2 a3 t328 t329 _ ?side1 ?side2 ?side3 ?side4 ?side5 ?side6 A6.out).mono ?_
               (case side1 => exact ck_ HR0_1 HB)
               (case side2 => exact HC0_1.out)
               (case side3 => exact ck_ HR0_2 HB)
               (case side4 => exact HC0_2.out)
               (case side5 => exact ck_ HR0_8 HB)
               (case side6 => exact HC0_8.out)
               rintro e w16 ⟨rfl, hb⟩
               refine ⟨_, rfl, ?_⟩
               have n0_ := Aside0.mk (blk_below (bk_ BK325) hb)
               have n1_ := Aside0.mk (below_step (bl1_ HB GE325) hb)
               clear BK325
               clear HB
               have BK325 := n0_
               have HB := n1_
               clear n0_ n1_
               (try clear hb)
               (try clear hb2)
               (try clear hk)
               (try clear hi)
               refine hK.out _ _ ⟨(blk_cell BK325.out 0).trans rfl, (blk_cell BK325.out 1).trans rfl, (blk_cell BK325.out 2).trans rfl, (blk_cell BK325.out 3).trans rfl, (blk_cell BK325.out 4).trans rfl, (blk_cell BK325.out 5).trans rfl, (blk_cell BK325.out 6).trans rfl, (blk_cell BK325.out 7).trans rfl, (blk_cell BK325.out 8).trans rfl, (blk_cell BK325.out 9).trans rfl⟩ (fun hHeld => ?_)
               clear hK K
               refine norm_ (a' := ?_) ?_ ?_
               rotate_left
               ·show Act.put _ (some 21) _ = _
                simp only [Act.put, List.setIfInBounds_toArray, List.set_cons_zero, List.set_cons_succ, i64_w, i32_w]
                rfl
               exact norm_ (by first | (simp only [putAll, Act.put, List.setIfInBounds_toArray, List.set_cons_zero, List.set_cons_succ]; done) | (simp only [putAll, Act.put, List.setIfInBounds_toArray, List.set_cons_zero, List.set_cons_succ]; rfl)) (hJ3_7 () _ ⟨hHeld, (bk_ BK325), (bl1_ HB GE325)⟩)
              ·skip
               refine box_step ?hg (N := 9) ?hd (cs := #[.int .i64 0, .int .i64 0]) (t := 54) ?hr ?_; (case hd => rfl); (case hg => rfl); (case hr => first | (go_simp; done) | (go_simp; rfl))
               intro gb331 hg w16 hbox hb
               have n0_ := Aside0.mk (blk_below (bk_ BK325) hb)
               have n1_ := Aside0.mk (below_step (bl1_ HB GE325) hb)
               have n2_ := Aside0.mk (hbox)
               have n3_ := Aside0.mk ((by rw [hg]; exact (below_size (bl1_ HB GE325)) : w.heap.size ≤ gb331))
               have n4_ := Aside0.mk ((by rw [hg]; exact (below_size (bl1_ HB GE325)) : w.heap.size ≤ gb331))
               have n5_ := Aside0.mk ((by rw [hg]; exact Nat.ne_of_lt (blk_lt (bk_ BK325)) : gb325 ≠ gb331))
               have n6_ := Aside0.mk ((by rw [hg]; exact Nat.ne_of_gt (blk_lt (bk_ BK325)) : gb331 ≠ gb325))
               clear BK325
               clear HB
               have BK325 := n0_
               have HB := n1_
               have BK331 := n2_
               have GW331 := n3_
               have GE331 := n4_
               have NB325_331 := n5_
               have NB331_325 := n6_
               clear n0_ n1_ n2_ n3_ n4_ n5_ n6_
               clear hb hbox hg
               refine hK.out _ _ ⟨(blk_cell BK325.out 0).trans rfl, (blk_cell BK325.out 1).trans rfl, (blk_cell BK325.out 2).trans rfl, (blk_cell BK325.out 3).trans rfl, (blk_cell BK325.out 4).trans rfl, (blk_cell BK325.out 5).trans rfl, (blk_cell BK325.out 6).trans rfl, (blk_cell BK325.out 7).trans rfl, (blk_cell BK325.out 8).trans rfl, (blk_cell BK325.out 9).trans rfl⟩ (fun hHeld => ?_)
               clear hK K
               refine norm_ (a' := ?_) ?_ ?_
               rotate_left
               ·show Act.put _ (some 9) _ = _
                simp only [Act.put, List.setIfInBounds_toArray, List.set_cons_zero, List.set_cons_succ, i64_w, i32_w]
                rfl
               exact norm_ (by first | (simp only [putAll, Act.put, List.setIfInBounds_toArray, List.set_cons_zero, List.set_cons_succ]; done) | (simp only [putAll, Act.put, List.setIfInBounds_toArray, List.set_cons_zero, List.set_cons_succ]; rfl)) (hJ3_12 (gb331) _ ⟨hHeld, (bk_ BK325), (bk_ BK331), GW331.out, GE331.out, NB325_331.out, NB331_325.out, (bl2_ HB GE325 GE331)⟩)
              ·skip
               refine box_step ?hg (N := 10) ?hd (cs := #[.int .i64 0, .int .i64 0]) (t := 54) ?hr ?_; (case hd => rfl); (case hg => rfl); (case hr => first | (go_simp; done) | (go_simp; rfl))
               intro gb332 hg w16 hbox hb
               have n0_ := Aside0.mk (blk_below (bk_ BK325) hb)
               have n1_ := Aside0.mk (below_step (bl1_ HB GE325) hb)
               have n2_ := Aside0.mk (hbox)
               have n3_ := Aside0.mk ((by rw [hg]; exact (below_size (bl1_ HB GE325)) : w.heap.size ≤ gb332))
               have n4_ := Aside0.mk ((by rw [hg]; exact (below_size (bl1_ HB GE325)) : w.heap.size ≤ gb332))
               have n5_ := Aside0.mk ((by rw [hg]; exact Nat.ne_of_lt (blk_lt (bk_ BK325)) : gb325 ≠ gb332))
               have n6_ := Aside0.mk ((by rw [hg]; exact Nat.ne_of_gt (blk_lt (bk_ BK325)) : gb332 ≠ gb325))
               clear BK325
               clear HB
               have BK325 := n0_
               have HB := n1_
               have BK332 := n2_
               have GW332 := n3_
               have GE332 := n4_
               have NB325_332 := n5_
               have NB332_325 := n6_
               clear n0_ n1_ n2_ n3_ n4_ n5_ n6_
               clear hb hbox hg
               refine hK.out _ _ ⟨(blk_cell BK325.out 0).trans rfl, (blk_cell BK325.out 1).trans rfl, (blk_cell BK325.out 2).trans rfl, (blk_cell BK325.out 3).trans rfl, (blk_cell BK325.out 4).trans rfl, (blk_cell BK325.out 5).trans rfl, (blk_cell BK325.out 6).trans rfl, (blk_cell BK325.out 7).trans rfl, (blk_cell BK325.out 8).trans rfl, (blk_cell BK325.out 9).trans rfl⟩ (fun hHeld => ?_)
               clear hK K
               refine norm_ (a' := ?_) ?_ ?_
               rotate_left
               ·show Act.put _ (some 10) _ = _
                simp only [Act.put, List.setIfInBounds_toArray, List.set_cons_zero, List.set_cons_succ, i64_w, i32_w]
                rfl
               exact norm_ (by first | (simp only [putAll, Act.put, List.setIfInBounds_toArray, List.set_cons_zero, List.set_cons_succ]; done) | (simp only [putAll, Act.put, List.setIfInBounds_toArray, List.set_cons_zero, List.set_cons_succ]; rfl)) (hJ3_13 (gb332) _ ⟨hHeld, (bk_ BK325), (bk_ BK332), GW332.out, GE332.out, NB325_332.out, NB332_325.out, (bl2_ HB GE325 GE332)⟩)
            ·skip
             rintro ⟨gb331, gb332⟩ w16 ⟨hS_, h0_, h1_, h2_, h3_, h4_, h5_, h6_, h7_, h8_, h9_, h10_, h11_, h12_, h13_⟩
             have n0_ : Aside0 (w16.heap[gb325]? = some (.cells #[.int .i64 a0_0, .slice A0_1 l0_1.length c0_1, .slice A0_2 l0_2.length c0_2, .int .i64 a0_3, .int .i64 a0_4, .int .i64 a0_5, .int .i64 a0_6, .int .i64 a0_7, .slice A0_8 l0_8.length c0_8, .int .i64 a0_9] 45 (0, 0))) := ⟨h0_⟩
             have n1_ : Aside0 (w16.heap[gb331]? = some (.cells #[.int .i64 0, .int .i64 0] 54 (0, 0))) := ⟨h1_⟩
             have n2_ : Aside0 (w16.heap[gb332]? = some (.cells #[.int .i64 0, .int .i64 0] 54 (0, 0))) := ⟨h2_⟩
             have n3_ : Aside0 (w.heap.size ≤ gb331) := ⟨h3_⟩
             have n4_ : Aside0 (w.heap.size ≤ gb331) := ⟨h4_⟩
             have n5_ : Aside0 (gb325 ≠ gb331) := ⟨h5_⟩
             have n6_ : Aside0 (gb331 ≠ gb325) := ⟨h6_⟩
             have n7_ : Aside0 (gb332 ≠ gb331) := ⟨h7_⟩
             have n8_ : Aside0 (gb331 ≠ gb332) := ⟨h8_⟩
             have n9_ : Aside0 (w.heap.size ≤ gb332) := ⟨h9_⟩
             have n10_ : Aside0 (w.heap.size ≤ gb332) := ⟨h10_⟩
             have n11_ : Aside0 (gb325 ≠ gb332) := ⟨h11_⟩
             have n12_ : Aside0 (gb332 ≠ gb325) := ⟨h12_⟩
             have n13_ : Aside0 (Below w.heap.size w w16) := ⟨h13_⟩
             clear BK325
             clear HB
             clear h0_ h1_ h2_ h3_ h4_ h5_ h6_ h7_ h8_ h9_ h10_ h11_ h12_ h13_
             have BK325 := n0_
             have BK331 := n1_
             have BK332 := n2_
             have GW331 := n3_
             have GE331 := n4_
             have NB325_331 := n5_
             have NB331_325 := n6_
             have NB332_331 := n7_
             have NB331_332 := n8_
             have GW332 := n9_
             have GE332 := n10_
             have NB325_332 := n11_
             have NB332_325 := n12_
             have HB := n13_
             clear n0_ n1_ n2_ n3_ n4_ n5_ n6_ n7_ n8_ n9_ n10_ n11_ n12_ n13_
             have hHeld : w16.cell? ⟨gb325, 0, none⟩ = some (.int .i64 a0_0) ∧ w16.cell? ⟨gb325, 1, none⟩ = some (.slice A0_1 l0_1.length c0_1) ∧ w16.cell? ⟨gb325, 2, none⟩ = some (.slice A0_2 l0_2.length c0_2) ∧ w16.cell? ⟨gb325, 3, none⟩ = some (.int .i64 a0_3) ∧ w16.cell? ⟨gb325, 4, none⟩ = some (.int .i64 a0_4) ∧ w16.cell? ⟨gb325, 5, none⟩ = some (.int .i64 a0_5) ∧ w16.cell? ⟨gb325, 6, none⟩ = some (.int .i64 a0_6) ∧ w16.cell? ⟨gb325, 7, none⟩ = some (.int .i64 a0_7) ∧ w16.cell? ⟨gb325, 8, none⟩ = some (.slice A0_8 l0_8.length c0_8) ∧ w16.cell? ⟨gb325, 9, none⟩ = some (.int .i64 a0_9) := hS_
             refine norm_ (a' := ?_) ?_ ?_
             rotate_left
             ·simp only [putAll, Act.put, List.setIfInBounds_toArray, List.set_cons_zero, List.set_cons_succ]
              rfl
             refine one_ (i := 3) (N := some 17) #[true, true, true, true, true, true, true, false, true, true, true, false, true, true, false, false, false] rfl rfl (one_of HT_.out (by kernel_rfl)) (by decide) (fun K hK => ?_)
             refine goes_ Try.func36 (by kernel_rfl) rfl #[.agg #[.int .i64 a0_0, .slice A0_1 l0_1.length c0_1, .slice A0_2 l0_2.length c0_2, .int .i64 a0_3, .int .i64 a0_4, .int .i64 a0_5, .int .i64 a0_6, .int .i64 a0_7, .slice A0_8 l0_8.length c0_8, .int .i64 a0_9], .int .i64 a1, .int .i64 a3] (by rfl) rfl rfl mp_ ?_
             with_reducible refine (impl_NodeAt.calls a0_0 _ _ l0_1 _ _ l0_2 a0_3 a0_4 a0_5 a0_6 a0_7 _ _ l0_8 a0_9 a1 a3 t326 t327 _ ?side1 ?side2 ?side3 ?side4 ?side5 ?side6 A5.out).mono ?_
             (case side1 => exact ck_ HR0_1 HB)
             (case side2 => exact HC0_1.out)
             (case side3 => exact ck_ HR0_2 HB)
             (case side4 => exact HC0_2.out)
             (case side5 => exact ck_ HR0_8 HB)
             (case side6 => exact HC0_8.out)
             rintro e w17 ⟨rfl, hb⟩
             refine ⟨_, rfl, ?_⟩
             have n0_ := Aside0.mk (blk_below (bk_ BK325) hb)
             have n1_ := Aside0.mk (blk_below (bk_ BK331) hb)
             have n2_ := Aside0.mk (blk_below (bk_ BK332) hb)
             have n3_ := Aside0.mk (below_step (bl3_ HB GE325 GE331 GE332) hb)
             clear BK325
             clear BK331
             clear BK332
             clear HB
             have BK325 := n0_
             have BK331 := n1_
             have BK332 := n2_
             have HB := n3_
             clear n0_ n1_ n2_ n3_
             (try clear hb)
             (try clear hb2)
             (try clear hk)
             (try clear hi)
             refine hK.out _ _ ⟨(blk_cell BK325.out 0).trans rfl, (blk_cell BK325.out 1).trans rfl, (blk_cell BK325.out 2).trans rfl, (blk_cell BK325.out 3).trans rfl, (blk_cell BK325.out 4).trans rfl, (blk_cell BK325.out 5).trans rfl, (blk_cell BK325.out 6).trans rfl, (blk_cell BK325.out 7).trans rfl, (blk_cell BK325.out 8).trans rfl, (blk_cell BK325.out 9).trans rfl⟩ (fun hHeld => ?_)
             clear hK K
             refine norm_ (a' := ?_) ?_ ?_
             rotate_left
             ·show Act.put _ (some 17) _ = _
              simp only [Act.put, List.setIfInBounds_toArray, List.set_cons_zero, List.set_cons_succ, i64_w, i32_w]
              rfl
             exact norm_ (by first | (simp only [putAll, Act.put, List.setIfInBounds_toArray, List.set_cons_zero, List.set_cons_succ]; done) | (simp only [putAll, Act.put, List.setIfInBounds_toArray, List.set_cons_zero, List.set_cons_succ]; rfl)) (hJ3_12_13 (gb331, gb332) _ ⟨hHeld, (bk_ BK325), (bk_ BK331), (bk_ BK332), GW331.out, GE331.out, NB325_331.out, NB331_325.out, NB332_331.out, NB331_332.out, GW332.out, GE332.out, NB325_332.out, NB332_325.out, (bl3_ HB GE325 GE331 GE332)⟩)
           ·skip
            rintro gb332 w16 ⟨hS_, h0_, h1_, h2_, h3_, h4_, h5_, h6_⟩
            have n0_ : Aside0 (w16.heap[gb325]? = some (.cells #[.int .i64 a0_0, .slice A0_1 l0_1.length c0_1, .slice A0_2 l0_2.length c0_2, .int .i64 a0_3, .int .i64 a0_4, .int .i64 a0_5, .int .i64 a0_6, .int .i64 a0_7, .slice A0_8 l0_8.length c0_8, .int .i64 a0_9] 45 (0, 0))) := ⟨h0_⟩
            have n1_ : Aside0 (w16.heap[gb332]? = some (.cells #[.int .i64 0, .int .i64 0] 54 (0, 0))) := ⟨h1_⟩
            have n2_ : Aside0 (w.heap.size ≤ gb332) := ⟨h2_⟩
            have n3_ : Aside0 (w.heap.size ≤ gb332) := ⟨h3_⟩
            have n4_ : Aside0 (gb325 ≠ gb332) := ⟨h4_⟩
            have n5_ : Aside0 (gb332 ≠ gb325) := ⟨h5_⟩
            have n6_ : Aside0 (Below w.heap.size w w16) := ⟨h6_⟩
            clear BK325
            clear HB
            clear h0_ h1_ h2_ h3_ h4_ h5_ h6_
            have BK325 := n0_
            have BK332 := n1_
            have GW332 := n2_
            have GE332 := n3_
            have NB325_332 := n4_
            have NB332_325 := n5_
            have HB := n6_
            clear n0_ n1_ n2_ n3_ n4_ n5_ n6_
            have hHeld : w16.cell? ⟨gb325, 0, none⟩ = some (.int .i64 a0_0) ∧ w16.cell? ⟨gb325, 1, none⟩ = some (.slice A0_1 l0_1.length c0_1) ∧ w16.cell? ⟨gb325, 2, none⟩ = some (.slice A0_2 l0_2.length c0_2) ∧ w16.cell? ⟨gb325, 3, none⟩ = some (.int .i64 a0_3) ∧ w16.cell? ⟨gb325, 4, none⟩ = some (.int .i64 a0_4) ∧ w16.cell? ⟨gb325, 5, none⟩ = some (.int .i64 a0_5) ∧ w16.cell? ⟨gb325, 6, none⟩ = some (.int .i64 a0_6) ∧ w16.cell? ⟨gb325, 7, none⟩ = some (.int .i64 a0_7) ∧ w16.cell? ⟨gb325, 8, none⟩ = some (.slice A0_8 l0_8.length c0_8) ∧ w16.cell? ⟨gb325, 9, none⟩ = some (.int .i64 a0_9) := hS_
            refine norm_ (a' := ?_) ?_ ?_
            rotate_left
            ·simp only [putAll, Act.put, List.setIfInBounds_toArray, List.set_cons_zero, List.set_cons_succ]
             rfl
            refine two_ (i := 7) (j := 12) (Ni := some 21) (Nj := some 9) #[true, true, true, true, true, true, true, true, true, true, true, false, false, true, false, false, false] #[true, true, true, true, true, true, true, false, true, true, true, false, true, true, false, false, false] rfl rfl rfl rfl (two_of HT_.out (by kernel_rfl)) (by decide) (by decide) (fun K hK => ?_) (fun K hK => ?_)
            ·skip
             refine goes_ Try.func36 (by kernel_rfl) rfl #[.agg #[.int .i64 a0_0, .slice A0_1 l0_1.length c0_1, .slice A0_2 l0_2.length c0_2, .int .i64 a0_3, .int .i64 a0_4, .int .i64 a0_5, .int .i64 a0_6, .int .i64 a0_7, .slice A0_8 l0_8.length c0_8, .int .i64 a0_9], .int .i64 a2, .int .i64 a3] (by rfl) rfl rfl mp_ ?_
             with_reducible refine (impl_NodeAt.calls a0_0 _ _ l0_1 _ _ l0_2 a0_3 a0_4 a0_5 a0_6 a0_7 _ _ l0_8 a0_9 a2 a3 t328 t329 _ ?side1 ?side2 ?side3 ?side4 ?side5 ?side6 A6.out).mono ?_
             (case side1 => exact ck_ HR0_1 HB)
             (case side2 => exact HC0_1.out)
             (case side3 => exact ck_ HR0_2 HB)
             (case side4 => exact HC0_2.out)
             (case side5 => exact ck_ HR0_8 HB)
             (case side6 => exact HC0_8.out)
             rintro e w17 ⟨rfl, hb⟩
             refine ⟨_, rfl, ?_⟩
             have n0_ := Aside0.mk (blk_below (bk_ BK325) hb)
             have n1_ := Aside0.mk (blk_below (bk_ BK332) hb)
             have n2_ := Aside0.mk (below_step (bl2_ HB GE325 GE332) hb)
             clear BK325
             clear BK332
             clear HB
             have BK325 := n0_
             have BK332 := n1_
             have HB := n2_
             clear n0_ n1_ n2_
             (try clear hb)
             (try clear hb2)
             (try clear hk)
             (try clear hi)
             refine hK.out _ _ ⟨(blk_cell BK325.out 0).trans rfl, (blk_cell BK325.out 1).trans rfl, (blk_cell BK325.out 2).trans rfl, (blk_cell BK325.out 3).trans rfl, (blk_cell BK325.out 4).trans rfl, (blk_cell BK325.out 5).trans rfl, (blk_cell BK325.out 6).trans rfl, (blk_cell BK325.out 7).trans rfl, (blk_cell BK325.out 8).trans rfl, (blk_cell BK325.out 9).trans rfl⟩ (fun hHeld => ?_)
             clear hK K
             refine norm_ (a' := ?_) ?_ ?_
             rotate_left
             ·show Act.put _ (some 21) _ = _
              simp only [Act.put, List.setIfInBounds_toArray, List.set_cons_zero, List.set_cons_succ, i64_w, i32_w]
              rfl
             exact norm_ (by first | (simp only [putAll, Act.put, List.setIfInBounds_toArray, List.set_cons_zero, List.set_cons_succ]; done) | (simp only [putAll, Act.put, List.setIfInBounds_toArray, List.set_cons_zero, List.set_cons_succ]; rfl)) (hJ3_7_13 (gb332) _ ⟨hHeld, (bk_ BK325), (bk_ BK332), GW332.out, GE332.out, NB325_332.out, NB332_325.out, (bl2_ HB GE325 GE332)⟩)
            ·skip
             refine box_step ?hg (N := 9) ?hd (cs := #[.int .i64 0, .int .i64 0]) (t := 54) ?hr ?_; (case hd => rfl); (case hg => rfl); (case hr => first | (go_simp; done) | (go_simp; rfl))
             intro gb331 hg w17 hbox hb
             have n0_ := Aside0.mk (blk_below (bk_ BK325) hb)
             have n1_ := Aside0.mk (blk_below (bk_ BK332) hb)
             have n2_ := Aside0.mk (below_step (bl2_ HB GE325 GE332) hb)
             have n3_ := Aside0.mk (hbox)
             have n4_ := Aside0.mk ((by rw [hg]; exact (below_size (bl2_ HB GE325 GE332)) : w.heap.size ≤ gb331))
             have n5_ := Aside0.mk ((by rw [hg]; exact (below_size (bl2_ HB GE325 GE332)) : w.heap.size ≤ gb331))
             have n6_ := Aside0.mk ((by rw [hg]; exact Nat.ne_of_lt (blk_lt (bk_ BK325)) : gb325 ≠ gb331))
             have n7_ := Aside0.mk ((by rw [hg]; exact Nat.ne_of_gt (blk_lt (bk_ BK325)) : gb331 ≠ gb325))
             have n8_ := Aside0.mk ((by rw [hg]; exact Nat.ne_of_lt (blk_lt (bk_ BK332)) : gb332 ≠ gb331))
             have n9_ := Aside0.mk ((by rw [hg]; exact Nat.ne_of_gt (blk_lt (bk_ BK332)) : gb331 ≠ gb332))
             clear BK325
             clear BK332
             clear HB
             have BK325 := n0_
             have BK332 := n1_
             have HB := n2_
             have BK331 := n3_
             have GW331 := n4_
             have GE331 := n5_
             have NB325_331 := n6_
             have NB331_325 := n7_
             have NB332_331 := n8_
             have NB331_332 := n9_
             clear n0_ n1_ n2_ n3_ n4_ n5_ n6_ n7_ n8_ n9_
             clear hb hbox hg
             refine hK.out _ _ ⟨(blk_cell BK325.out 0).trans rfl, (blk_cell BK325.out 1).trans rfl, (blk_cell BK325.out 2).trans rfl, (blk_cell BK325.out 3).trans rfl, (blk_cell BK325.out 4).trans rfl, (blk_cell BK325.out 5).trans rfl, (blk_cell BK325.out 6).trans rfl, (blk_cell BK325.out 7).trans rfl, (blk_cell BK325.out 8).trans rfl, (blk_cell BK325.out 9).trans rfl⟩ (fun hHeld => ?_)
             clear hK K
             refine norm_ (a' := ?_) ?_ ?_
             rotate_left
             ·show Act.put _ (some 9) _ = _
              simp only [Act.put, List.setIfInBounds_toArray, List.set_cons_zero, List.set_cons_succ, i64_w, i32_w]
              rfl
             exact norm_ (by first | (simp only [putAll, Act.put, List.setIfInBounds_toArray, List.set_cons_zero, List.set_cons_succ]; done) | (simp only [putAll, Act.put, List.setIfInBounds_toArray, List.set_cons_zero, List.set_cons_succ]; rfl)) (hJ3_12_13 (gb331, gb332) _ ⟨hHeld, (bk_ BK325), (bk_ BK331), (bk_ BK332), GW331.out, GE331.out, NB325_331.out, NB331_325.out, NB332_331.out, NB331_332.out, GW332.out, GE332.out, NB325_332.out, NB332_325.out, (bl3_ HB GE325 GE332 GE331)⟩)
          ·skip
           rintro gb331 w16 ⟨hS_, h0_, h1_, h2_, h3_, h4_, h5_, h6_⟩
           have n0_ : Aside0 (w16.heap[gb325]? = some (.cells #[.int .i64 a0_0, .slice A0_1 l0_1.length c0_1, .slice A0_2 l0_2.length c0_2, .int .i64 a0_3, .int .i64 a0_4, .int .i64 a0_5, .int .i64 a0_6, .int .i64 a0_7, .slice A0_8 l0_8.length c0_8, .int .i64 a0_9] 45 (0, 0))) := ⟨h0_⟩
           have n1_ : Aside0 (w16.heap[gb331]? = some (.cells #[.int .i64 0, .int .i64 0] 54 (0, 0))) := ⟨h1_⟩
           have n2_ : Aside0 (w.heap.size ≤ gb331) := ⟨h2_⟩
           have n3_ : Aside0 (w.heap.size ≤ gb331) := ⟨h3_⟩
           have n4_ : Aside0 (gb325 ≠ gb331) := ⟨h4_⟩
           have n5_ : Aside0 (gb331 ≠ gb325) := ⟨h5_⟩
           have n6_ : Aside0 (Below w.heap.size w w16) := ⟨h6_⟩
           clear BK325
           clear HB
           clear h0_ h1_ h2_ h3_ h4_ h5_ h6_
           have BK325 := n0_
           have BK331 := n1_
           have GW331 := n2_
           have GE331 := n3_
           have NB325_331 := n4_
           have NB331_325 := n5_
           have HB := n6_
           clear n0_ n1_ n2_ n3_ n4_ n5_ n6_
           have hHeld : w16.cell? ⟨gb325, 0, none⟩ = some (.int .i64 a0_0) ∧ w16.cell? ⟨gb325, 1, none⟩ = some (.slice A0_1 l0_1.length c0_1) ∧ w16.cell? ⟨gb325, 2, none⟩ = some (.slice A0_2 l0_2.length c0_2) ∧ w16.cell? ⟨gb325, 3, none⟩ = some (.int .i64 a0_3) ∧ w16.cell? ⟨gb325, 4, none⟩ = some (.int .i64 a0_4) ∧ w16.cell? ⟨gb325, 5, none⟩ = some (.int .i64 a0_5) ∧ w16.cell? ⟨gb325, 6, none⟩ = some (.int .i64 a0_6) ∧ w16.cell? ⟨gb325, 7, none⟩ = some (.int .i64 a0_7) ∧ w16.cell? ⟨gb325, 8, none⟩ = some (.slice A0_8 l0_8.length c0_8) ∧ w16.cell? ⟨gb325, 9, none⟩ = some (.int .i64 a0_9) := hS_
           refine norm_ (a' := ?_) ?_ ?_
           rotate_left
           ·simp only [putAll, Act.put, List.setIfInBounds_toArray, List.set_cons_zero, List.set_cons_succ]
            rfl
           refine two_ (i := 7) (j := 13) (Ni := some 21) (Nj := some 10) #[true, true, true, true, true, true, true, true, true, true, true, false, true, false, false, false, false] #[true, true, true, true, true, true, true, false, true, true, true, false, true, true, false, false, false] rfl rfl rfl rfl (two_of HT_.out (by kernel_rfl)) (by decide) (by decide) (fun K hK => ?_) (fun K hK => ?_)
           ·skip
            refine goes_ Try.func36 (by kernel_rfl) rfl #[.agg #[.int .i64 a0_0, .slice A0_1 l0_1.length c0_1, .slice A0_2 l0_2.length c0_2, .int .i64 a0_3, .int .i64 a0_4, .int .i64 a0_5, .int .i64 a0_6, .int .i64 a0_7, .slice A0_8 l0_8.length c0_8, .int .i64 a0_9], .int .i64 a2, .int .i64 a3] (by rfl) rfl rfl mp_ ?_
            with_reducible refine (impl_NodeAt.calls a0_0 _ _ l0_1 _ _ l0_2 a0_3 a0_4 a0_5 a0_6 a0_7 _ _ l0_8 a0_9 a2 a3 t328 t329 _ ?side1 ?side2 ?side3 ?side4 ?side5 ?side6 A6.out).mono ?_
            (case side1 => exact ck_ HR0_1 HB)
            (case side2 => exact HC0_1.out)
            (case side3 => exact ck_ HR0_2 HB)
            (case side4 => exact HC0_2.out)
            (case side5 => exact ck_ HR0_8 HB)
            (case side6 => exact HC0_8.out)
            rintro e w17 ⟨rfl, hb⟩
            refine ⟨_, rfl, ?_⟩
            have n0_ := Aside0.mk (blk_below (bk_ BK325) hb)
            have n1_ := Aside0.mk (blk_below (bk_ BK331) hb)
            have n2_ := Aside0.mk (below_step (bl2_ HB GE325 GE331) hb)
            clear BK325
            clear BK331
            clear HB
            have BK325 := n0_
            have BK331 := n1_
            have HB := n2_
            clear n0_ n1_ n2_
            (try clear hb)
            (try clear hb2)
            (try clear hk)
            (try clear hi)
            refine hK.out _ _ ⟨(blk_cell BK325.out 0).trans rfl, (blk_cell BK325.out 1).trans rfl, (blk_cell BK325.out 2).trans rfl, (blk_cell BK325.out 3).trans rfl, (blk_cell BK325.out 4).trans rfl, (blk_cell BK325.out 5).trans rfl, (blk_cell BK325.out 6).trans rfl, (blk_cell BK325.out 7).trans rfl, (blk_cell BK325.out 8).trans rfl, (blk_cell BK325.out 9).trans rfl⟩ (fun hHeld => ?_)
            clear hK K
            refine norm_ (a' := ?_) ?_ ?_
            rotate_left
            ·show Act.put _ (some 21) _ = _
             simp only [Act.put, List.setIfInBounds_toArray, List.set_cons_zero, List.set_cons_succ, i64_w, i32_w]
             rfl
            exact norm_ (by first | (simp only [putAll, Act.put, List.setIfInBounds_toArray, List.set_cons_zero, List.set_cons_succ]; done) | (simp only [putAll, Act.put, List.setIfInBounds_toArray, List.set_cons_zero, List.set_cons_succ]; rfl)) (hJ3_7_12 (gb331) _ ⟨hHeld, (bk_ BK325), (bk_ BK331), GW331.out, GE331.out, NB325_331.out, NB331_325.out, (bl2_ HB GE325 GE331)⟩)
           ·skip
            refine box_step ?hg (N := 10) ?hd (cs := #[.int .i64 0, .int .i64 0]) (t := 54) ?hr ?_; (case hd => rfl); (case hg => rfl); (case hr => first | (go_simp; done) | (go_simp; rfl))
            intro gb332 hg w17 hbox hb
            have n0_ := Aside0.mk (blk_below (bk_ BK325) hb)
            have n1_ := Aside0.mk (blk_below (bk_ BK331) hb)
            have n2_ := Aside0.mk (below_step (bl2_ HB GE325 GE331) hb)
            have n3_ := Aside0.mk (hbox)
            have n4_ := Aside0.mk ((by rw [hg]; exact (below_size (bl2_ HB GE325 GE331)) : w.heap.size ≤ gb332))
            have n5_ := Aside0.mk ((by rw [hg]; exact (below_size (bl2_ HB GE325 GE331)) : w.heap.size ≤ gb332))
            have n6_ := Aside0.mk ((by rw [hg]; exact Nat.ne_of_lt (blk_lt (bk_ BK325)) : gb325 ≠ gb332))
            have n7_ := Aside0.mk ((by rw [hg]; exact Nat.ne_of_gt (blk_lt (bk_ BK325)) : gb332 ≠ gb325))
            have n8_ := Aside0.mk ((by rw [hg]; exact Nat.ne_of_lt (blk_lt (bk_ BK331)) : gb331 ≠ gb332))
            have n9_ := Aside0.mk ((by rw [hg]; exact Nat.ne_of_gt (blk_lt (bk_ BK331)) : gb332 ≠ gb331))
            clear BK325
            clear BK331
            clear HB
            have BK325 := n0_
            have BK331 := n1_
            have HB := n2_
            have BK332 := n3_
            have GW332 := n4_
            have GE332 := n5_
            have NB325_332 := n6_
            have NB332_325 := n7_
            have NB331_332 := n8_
            have NB332_331 := n9_
            clear n0_ n1_ n2_ n3_ n4_ n5_ n6_ n7_ n8_ n9_
            clear hb hbox hg
            refine hK.out _ _ ⟨(blk_cell BK325.out 0).trans rfl, (blk_cell BK325.out 1).trans rfl, (blk_cell BK325.out 2).trans rfl, (blk_cell BK325.out 3).trans rfl, (blk_cell BK325.out 4).trans rfl, (blk_cell BK325.out 5).trans rfl, (blk_cell BK325.out 6).trans rfl, (blk_cell BK325.out 7).trans rfl, (blk_cell BK325.out 8).trans rfl, (blk_cell BK325.out 9).trans rfl⟩ (fun hHeld => ?_)
            clear hK K
            refine norm_ (a' := ?_) ?_ ?_
            rotate_left
            ·show Act.put _ (some 10) _ = _
             simp only [Act.put, List.setIfInBounds_toArray, List.set_cons_zero, List.set_cons_succ, i64_w, i32_w]
             rfl
            exact norm_ (by first | (simp only [putAll, Act.put, List.setIfInBounds_toArray, List.set_cons_zero, List.set_cons_succ]; done) | (simp only [putAll, Act.put, List.setIfInBounds_toArray, List.set_cons_zero, List.set_cons_succ]; rfl)) (hJ3_12_13 (gb331, gb332) _ ⟨hHeld, (bk_ BK325), (bk_ BK331), (bk_ BK332), GW331.out, GE331.out, NB325_331.out, NB331_325.out, NB332_331.out, NB331_332.out, GW332.out, GE332.out, NB325_332.out, NB332_325.out, (bl3_ HB GE325 GE331 GE332)⟩)
         ·skip
          rintro _ w16 ⟨hS_, h0_, h1_⟩
          have n0_ : Aside0 (w16.heap[gb325]? = some (.cells #[.int .i64 a0_0, .slice A0_1 l0_1.length c0_1, .slice A0_2 l0_2.length c0_2, .int .i64 a0_3, .int .i64 a0_4, .int .i64 a0_5, .int .i64 a0_6, .int .i64 a0_7, .slice A0_8 l0_8.length c0_8, .int .i64 a0_9] 45 (0, 0))) := ⟨h0_⟩
          have n1_ : Aside0 (Below w.heap.size w w16) := ⟨h1_⟩
          clear BK325
          clear HB
          clear h0_ h1_
          have BK325 := n0_
          have HB := n1_
          clear n0_ n1_
          have hHeld : w16.cell? ⟨gb325, 0, none⟩ = some (.int .i64 a0_0) ∧ w16.cell? ⟨gb325, 1, none⟩ = some (.slice A0_1 l0_1.length c0_1) ∧ w16.cell? ⟨gb325, 2, none⟩ = some (.slice A0_2 l0_2.length c0_2) ∧ w16.cell? ⟨gb325, 3, none⟩ = some (.int .i64 a0_3) ∧ w16.cell? ⟨gb325, 4, none⟩ = some (.int .i64 a0_4) ∧ w16.cell? ⟨gb325, 5, none⟩ = some (.int .i64 a0_5) ∧ w16.cell? ⟨gb325, 6, none⟩ = some (.int .i64 a0_6) ∧ w16.cell? ⟨gb325, 7, none⟩ = some (.int .i64 a0_7) ∧ w16.cell? ⟨gb325, 8, none⟩ = some (.slice A0_8 l0_8.length c0_8) ∧ w16.cell? ⟨gb325, 9, none⟩ = some (.int .i64 a0_9) := hS_
          refine norm_ (a' := ?_) ?_ ?_
          rotate_left
          ·simp only [putAll, Act.put, List.setIfInBounds_toArray, List.set_cons_zero, List.set_cons_succ]
           rfl
          refine three_ (i := 11) (j := 12) (k := 13) (Ni := some 25) (Nj := some 9) (Nk := some 10) #[true, true, true, true, true, true, true, true, true, true, true, true, false, false, false, false, false] #[true, true, true, true, true, true, true, true, true, true, true, false, true, false, false, false, false] #[true, true, true, true, true, true, true, true, true, true, true, false, false, true, false, false, false] rfl rfl rfl rfl rfl rfl (three_of HT_.out (by kernel_rfl)) (by decide) (by decide) (by decide) (fun K hK => ?_) (fun K hK => ?_) (fun K hK => ?_)
          ·skip
           refine goes_ Try.func34 (by kernel_rfl) rfl #[.agg #[.int .i64 a0_0, .slice A0_1 l0_1.length c0_1, .slice A0_2 l0_2.length c0_2, .int .i64 a0_3, .int .i64 a0_4, .int .i64 a0_5, .int .i64 a0_6, .int .i64 a0_7, .slice A0_8 l0_8.length c0_8, .int .i64 a0_9], .int .i64 a1, .int .i64 a2] (by rfl) rfl rfl mp_ ?_
           with_reducible refine (impl_LimitOf.calls k a0_0 _ _ l0_1 _ _ l0_2 a0_3 a0_4 a0_5 a0_6 a0_7 _ _ l0_8 a0_9 a1 a2 t330 _ ?side1 ?side2 ?side3 ?side4 ?side5 ?side6 A7.out).mono ?_
           (case side1 => exact ck_ HR0_1 HB)
           (case side2 => exact HC0_1.out)
           (case side3 => exact ck_ HR0_2 HB)
           (case side4 => exact HC0_2.out)
           (case side5 => exact ck_ HR0_8 HB)
           (case side6 => exact HC0_8.out)
           rintro e w17 ⟨rfl, hb⟩
           refine ⟨_, rfl, ?_⟩
           have n0_ := Aside0.mk (blk_below (bk_ BK325) hb)
           have n1_ := Aside0.mk (below_step (bl1_ HB GE325) hb)
           clear BK325
           clear HB
           have BK325 := n0_
           have HB := n1_
           clear n0_ n1_
           (try clear hb)
           (try clear hb2)
           (try clear hk)
           (try clear hi)
           refine hK.out _ _ ⟨(blk_cell BK325.out 0).trans rfl, (blk_cell BK325.out 1).trans rfl, (blk_cell BK325.out 2).trans rfl, (blk_cell BK325.out 3).trans rfl, (blk_cell BK325.out 4).trans rfl, (blk_cell BK325.out 5).trans rfl, (blk_cell BK325.out 6).trans rfl, (blk_cell BK325.out 7).trans rfl, (blk_cell BK325.out 8).trans rfl, (blk_cell BK325.out 9).trans rfl⟩ (fun hHeld => ?_)
           clear hK K
           refine norm_ (a' := ?_) ?_ ?_
           rotate_left
           ·show Act.put _ (some 25) _ = _
            simp only [Act.put, List.setIfInBounds_toArray, List.set_cons_zero, List.set_cons_succ, i64_w, i32_w]
            rfl
           exact norm_ (by first | (simp only [putAll, Act.put, List.setIfInBounds_toArray, List.set_cons_zero, List.set_cons_succ]; done) | (simp only [putAll, Act.put, List.setIfInBounds_toArray, List.set_cons_zero, List.set_cons_succ]; rfl)) (hJ3_7_11 () _ ⟨hHeld, (bk_ BK325), (bl1_ HB GE325)⟩)
          ·skip
           refine box_step ?hg (N := 9) ?hd (cs := #[.int .i64 0, .int .i64 0]) (t := 54) ?hr ?_; (case hd => rfl); (case hg => rfl); (case hr => first | (go_simp; done) | (go_simp; rfl))
           intro gb331 hg w17 hbox hb
           have n0_ := Aside0.mk (blk_below (bk_ BK325) hb)
           have n1_ := Aside0.mk (below_step (bl1_ HB GE325) hb)
           have n2_ := Aside0.mk (hbox)
           have n3_ := Aside0.mk ((by rw [hg]; exact (below_size (bl1_ HB GE325)) : w.heap.size ≤ gb331))
           have n4_ := Aside0.mk ((by rw [hg]; exact (below_size (bl1_ HB GE325)) : w.heap.size ≤ gb331))
           have n5_ := Aside0.mk ((by rw [hg]; exact Nat.ne_of_lt (blk_lt (bk_ BK325)) : gb325 ≠ gb331))
           have n6_ := Aside0.mk ((by rw [hg]; exact Nat.ne_of_gt (blk_lt (bk_ BK325)) : gb331 ≠ gb325))
           clear BK325
           clear HB
           have BK325 := n0_
           have HB := n1_
           have BK331 := n2_
           have GW331 := n3_
           have GE331 := n4_
           have NB325_331 := n5_
           have NB331_325 := n6_
           clear n0_ n1_ n2_ n3_ n4_ n5_ n6_
           clear hb hbox hg
           refine hK.out _ _ ⟨(blk_cell BK325.out 0).trans rfl, (blk_cell BK325.out 1).trans rfl, (blk_cell BK325.out 2).trans rfl, (blk_cell BK325.out 3).trans rfl, (blk_cell BK325.out 4).trans rfl, (blk_cell BK325.out 5).trans rfl, (blk_cell BK325.out 6).trans rfl, (blk_cell BK325.out 7).trans rfl, (blk_cell BK325.out 8).trans rfl, (blk_cell BK325.out 9).trans rfl⟩ (fun hHeld => ?_)
           clear hK K
           refine norm_ (a' := ?_) ?_ ?_
           rotate_left
           ·show Act.put _ (some 9) _ = _
            simp only [Act.put, List.setIfInBounds_toArray, List.set_cons_zero, List.set_cons_succ, i64_w, i32_w]
            rfl
           exact norm_ (by first | (simp only [putAll, Act.put, List.setIfInBounds_toArray, List.set_cons_zero, List.set_cons_succ]; done) | (simp only [putAll, Act.put, List.setIfInBounds_toArray, List.set_cons_zero, List.set_cons_succ]; rfl)) (hJ3_7_12 (gb331) _ ⟨hHeld, (bk_ BK325), (bk_ BK331), GW331.out, GE331.out, NB325_331.out, NB331_325.out, (bl2_ HB GE325 GE331)⟩)
          ·skip
           refine box_step ?hg (N := 10) ?hd (cs := #[.int .i64 0, .int .i64 0]) (t := 54) ?hr ?_; (case hd => rfl); (case hg => rfl); (case hr => first | (go_simp; done) | (go_simp; rfl))
           intro gb332 hg w17 hbox hb
           have n0_ := Aside0.mk (blk_below (bk_ BK325) hb)
           have n1_ := Aside0.mk (below_step (bl1_ HB GE325) hb)
           have n2_ := Aside0.mk (hbox)
           have n3_ := Aside0.mk ((by rw [hg]; exact (below_size (bl1_ HB GE325)) : w.heap.size ≤ gb332))
           have n4_ := Aside0.mk ((by rw [hg]; exact (below_size (bl1_ HB GE325)) : w.heap.size ≤ gb332))
           have n5_ := Aside0.mk ((by rw [hg]; exact Nat.ne_of_lt (blk_lt (bk_ BK325)) : gb325 ≠ gb332))
           have n6_ := Aside0.mk ((by rw [hg]; exact Nat.ne_of_gt (blk_lt (bk_ BK325)) : gb332 ≠ gb325))
           clear BK325
           clear HB
           have BK325 := n0_
           have HB := n1_
           have BK332 := n2_
           have GW332 := n3_
           have GE332 := n4_
           have NB325_332 := n5_
           have NB332_325 := n6_
           clear n0_ n1_ n2_ n3_ n4_ n5_ n6_
           clear hb hbox hg
           refine hK.out _ _ ⟨(blk_cell BK325.out 0).trans rfl, (blk_cell BK325.out 1).trans rfl, (blk_cell BK325.out 2).trans rfl, (blk_cell BK325.out 3).trans rfl, (blk_cell BK325.out 4).trans rfl, (blk_cell BK325.out 5).trans rfl, (blk_cell BK325.out 6).trans rfl, (blk_cell BK325.out 7).trans rfl, (blk_cell BK325.out 8).trans rfl, (blk_cell BK325.out 9).trans rfl⟩ (fun hHeld => ?_)
           clear hK K
           refine norm_ (a' := ?_) ?_ ?_
           rotate_left
           ·show Act.put _ (some 10) _ = _
            simp only [Act.put, List.setIfInBounds_toArray, List.set_cons_zero, List.set_cons_succ, i64_w, i32_w]
            rfl
           exact norm_ (by first | (simp only [putAll, Act.put, List.setIfInBounds_toArray, List.set_cons_zero, List.set_cons_succ]; done) | (simp only [putAll, Act.put, List.setIfInBounds_toArray, List.set_cons_zero, List.set_cons_succ]; rfl)) (hJ3_7_13 (gb332) _ ⟨hHeld, (bk_ BK325), (bk_ BK332), GW332.out, GE332.out, NB325_332.out, NB332_325.out, (bl2_ HB GE325 GE332)⟩)
        ·skip
         rintro ⟨gb331, gb332⟩ w17 ⟨hS_, h0_, h1_, h2_, h3_, h4_, h5_, h6_, h7_, h8_, h9_, h10_, h11_, h12_, h13_⟩
         have n0_ : Aside0 (w17.heap[gb325]? = some (.cells #[.int .i64 a0_0, .slice A0_1 l0_1.length c0_1, .slice A0_2 l0_2.length c0_2, .int .i64 a0_3, .int .i64 a0_4, .int .i64 a0_5, .int .i64 a0_6, .int .i64 a0_7, .slice A0_8 l0_8.length c0_8, .int .i64 a0_9] 45 (0, 0))) := ⟨h0_⟩
         have n1_ : Aside0 (w17.heap[gb331]? = some (.cells #[.int .i64 0, .int .i64 0] 54 (0, 0))) := ⟨h1_⟩
         have n2_ : Aside0 (w17.heap[gb332]? = some (.cells #[.int .i64 0, .int .i64 0] 54 (0, 0))) := ⟨h2_⟩
         have n3_ : Aside0 (w.heap.size ≤ gb331) := ⟨h3_⟩
         have n4_ : Aside0 (w.heap.size ≤ gb331) := ⟨h4_⟩
         have n5_ : Aside0 (gb325 ≠ gb331) := ⟨h5_⟩
         have n6_ : Aside0 (gb331 ≠ gb325) := ⟨h6_⟩
         have n7_ : Aside0 (gb332 ≠ gb331) := ⟨h7_⟩
         have n8_ : Aside0 (gb331 ≠ gb332) := ⟨h8_⟩
         have n9_ : Aside0 (w.heap.size ≤ gb332) := ⟨h9_⟩
         have n10_ : Aside0 (w.heap.size ≤ gb332) := ⟨h10_⟩
         have n11_ : Aside0 (gb325 ≠ gb332) := ⟨h11_⟩
         have n12_ : Aside0 (gb332 ≠ gb325) := ⟨h12_⟩
         have n13_ : Aside0 (Below w.heap.size w w17) := ⟨h13_⟩
         clear BK325
         clear HB
         clear h0_ h1_ h2_ h3_ h4_ h5_ h6_ h7_ h8_ h9_ h10_ h11_ h12_ h13_
         have BK325 := n0_
         have BK331 := n1_
         have BK332 := n2_
         have GW331 := n3_
         have GE331 := n4_
         have NB325_331 := n5_
         have NB331_325 := n6_
         have NB332_331 := n7_
         have NB331_332 := n8_
         have GW332 := n9_
         have GE332 := n10_
         have NB325_332 := n11_
         have NB332_325 := n12_
         have HB := n13_
         clear n0_ n1_ n2_ n3_ n4_ n5_ n6_ n7_ n8_ n9_ n10_ n11_ n12_ n13_
         have hHeld : w17.cell? ⟨gb325, 0, none⟩ = some (.int .i64 a0_0) ∧ w17.cell? ⟨gb325, 1, none⟩ = some (.slice A0_1 l0_1.length c0_1) ∧ w17.cell? ⟨gb325, 2, none⟩ = some (.slice A0_2 l0_2.length c0_2) ∧ w17.cell? ⟨gb325, 3, none⟩ = some (.int .i64 a0_3) ∧ w17.cell? ⟨gb325, 4, none⟩ = some (.int .i64 a0_4) ∧ w17.cell? ⟨gb325, 5, none⟩ = some (.int .i64 a0_5) ∧ w17.cell? ⟨gb325, 6, none⟩ = some (.int .i64 a0_6) ∧ w17.cell? ⟨gb325, 7, none⟩ = some (.int .i64 a0_7) ∧ w17.cell? ⟨gb325, 8, none⟩ = some (.slice A0_8 l0_8.length c0_8) ∧ w17.cell? ⟨gb325, 9, none⟩ = some (.int .i64 a0_9) := hS_
         refine norm_ (a' := ?_) ?_ ?_
         rotate_left
         ·simp only [putAll, Act.put, List.setIfInBounds_toArray, List.set_cons_zero, List.set_cons_succ]
          rfl
         refine one_ (i := 7) (N := some 21) #[true, true, true, true, true, true, true, true, true, true, true, false, true, true, false, false, false] rfl rfl (one_of HT_.out (by kernel_rfl)) (by decide) (fun K hK => ?_)
         refine goes_ Try.func36 (by kernel_rfl) rfl #[.agg #[.int .i64 a0_0, .slice A0_1 l0_1.length c0_1, .slice A0_2 l0_2.length c0_2, .int .i64 a0_3, .int .i64 a0_4, .int .i64 a0_5, .int .i64 a0_6, .int .i64 a0_7, .slice A0_8 l0_8.length c0_8, .int .i64 a0_9], .int .i64 a2, .int .i64 a3] (by rfl) rfl rfl mp_ ?_
         with_reducible refine (impl_NodeAt.calls a0_0 _ _ l0_1 _ _ l0_2 a0_3 a0_4 a0_5 a0_6 a0_7 _ _ l0_8 a0_9 a2 a3 t328 t329 _ ?side1 ?side2 ?side3 ?side4 ?side5 ?side6 A6.out).mono ?_
         (case side1 => exact ck_ HR0_1 HB)
         (case side2 => exact HC0_1.out)
         (case side3 => exact ck_ HR0_2 HB)
         (case side4 => exact HC0_2.out)
         (case side5 => exact ck_ HR0_8 HB)
         (case side6 => exact HC0_8.out)
         rintro e w18 ⟨rfl, hb⟩
         refine ⟨_, rfl, ?_⟩
         have n0_ := Aside0.mk (blk_below (bk_ BK325) hb)
         have n1_ := Aside0.mk (blk_below (bk_ BK331) hb)
         have n2_ := Aside0.mk (blk_below (bk_ BK332) hb)
         have n3_ := Aside0.mk (below_step (bl3_ HB GE325 GE331 GE332) hb)
         clear BK325
         clear BK331
         clear BK332
         clear HB
         have BK325 := n0_
         have BK331 := n1_
         have BK332 := n2_
         have HB := n3_
         clear n0_ n1_ n2_ n3_
         (try clear hb)
         (try clear hb2)
         (try clear hk)
         (try clear hi)
         refine hK.out _ _ ⟨(blk_cell BK325.out 0).trans rfl, (blk_cell BK325.out 1).trans rfl, (blk_cell BK325.out 2).trans rfl, (blk_cell BK325.out 3).trans rfl, (blk_cell BK325.out 4).trans rfl, (blk_cell BK325.out 5).trans rfl, (blk_cell BK325.out 6).trans rfl, (blk_cell BK325.out 7).trans rfl, (blk_cell BK325.out 8).trans rfl, (blk_cell BK325.out 9).trans rfl⟩ (fun hHeld => ?_)
         clear hK K
         refine norm_ (a' := ?_) ?_ ?_
         rotate_left
         ·show Act.put _ (some 21) _ = _
          simp only [Act.put, List.setIfInBounds_toArray, List.set_cons_zero, List.set_cons_succ, i64_w, i32_w]
          rfl
         exact norm_ (by first | (simp only [putAll, Act.put, List.setIfInBounds_toArray, List.set_cons_zero, List.set_cons_succ]; done) | (simp only [putAll, Act.put, List.setIfInBounds_toArray, List.set_cons_zero, List.set_cons_succ]; rfl)) (hJ3_7_12_13 (gb331, gb332) _ ⟨hHeld, (bk_ BK325), (bk_ BK331), (bk_ BK332), GW331.out, GE331.out, NB325_331.out, NB331_325.out, NB332_331.out, NB331_332.out, GW332.out, GE332.out, NB325_332.out, NB332_325.out, (bl3_ HB GE325 GE331 GE332)⟩)
       ·skip
        rintro gb332 w17 ⟨hS_, h0_, h1_, h2_, h3_, h4_, h5_, h6_⟩
        have n0_ : Aside0 (w17.heap[gb325]? = some (.cells #[.int .i64 a0_0, .slice A0_1 l0_1.length c0_1, .slice A0_2 l0_2.length c0_2, .int .i64 a0_3, .int .i64 a0_4, .int .i64 a0_5, .int .i64 a0_6, .int .i64 a0_7, .slice A0_8 l0_8.length c0_8, .int .i64 a0_9] 45 (0, 0))) := ⟨h0_⟩
        have n1_ : Aside0 (w17.heap[gb332]? = some (.cells #[.int .i64 0, .int .i64 0] 54 (0, 0))) := ⟨h1_⟩
        have n2_ : Aside0 (w.heap.size ≤ gb332) := ⟨h2_⟩
        have n3_ : Aside0 (w.heap.size ≤ gb332) := ⟨h3_⟩
        have n4_ : Aside0 (gb325 ≠ gb332) := ⟨h4_⟩
        have n5_ : Aside0 (gb332 ≠ gb325) := ⟨h5_⟩
        have n6_ : Aside0 (Below w.heap.size w w17) := ⟨h6_⟩
        clear BK325
        clear HB
        clear h0_ h1_ h2_ h3_ h4_ h5_ h6_
        have BK325 := n0_
        have BK332 := n1_
        have GW332 := n2_
        have GE332 := n3_
        have NB325_332 := n4_
        have NB332_325 := n5_
        have HB := n6_
        clear n0_ n1_ n2_ n3_ n4_ n5_ n6_
        have hHeld : w17.cell? ⟨gb325, 0, none⟩ = some (.int .i64 a0_0) ∧ w17.cell? ⟨gb325, 1, none⟩ = some (.slice A0_1 l0_1.length c0_1) ∧ w17.cell? ⟨gb325, 2, none⟩ = some (.slice A0_2 l0_2.length c0_2) ∧ w17.cell? ⟨gb325, 3, none⟩ = some (.int .i64 a0_3) ∧ w17.cell? ⟨gb325, 4, none⟩ = some (.int .i64 a0_4) ∧ w17.cell? ⟨gb325, 5, none⟩ = some (.int .i64 a0_5) ∧ w17.cell? ⟨gb325, 6, none⟩ = some (.int .i64 a0_6) ∧ w17.cell? ⟨gb325, 7, none⟩ = some (.int .i64 a0_7) ∧ w17.cell? ⟨gb325, 8, none⟩ = some (.slice A0_8 l0_8.length c0_8) ∧ w17.cell? ⟨gb325, 9, none⟩ = some (.int .i64 a0_9) := hS_
        refine norm_ (a' := ?_) ?_ ?_
        rotate_left
        ·simp only [putAll, Act.put, List.setIfInBounds_toArray, List.set_cons_zero, List.set_cons_succ]
         rfl
        refine two_ (i := 11) (j := 12) (Ni := some 25) (Nj := some 9) #[true, true, true, true, true, true, true, true, true, true, true, true, false, true, false, false, false] #[true, true, true, true, true, true, true, true, true, true, true, false, true, true, false, false, false] rfl rfl rfl rfl (two_of HT_.out (by kernel_rfl)) (by decide) (by decide) (fun K hK => ?_) (fun K hK => ?_)
        ·skip
         refine goes_ Try.func34 (by kernel_rfl) rfl #[.agg #[.int .i64 a0_0, .slice A0_1 l0_1.length c0_1, .slice A0_2 l0_2.length c0_2, .int .i64 a0_3, .int .i64 a0_4, .int .i64 a0_5, .int .i64 a0_6, .int .i64 a0_7, .slice A0_8 l0_8.length c0_8, .int .i64 a0_9], .int .i64 a1, .int .i64 a2] (by rfl) rfl rfl mp_ ?_
         with_reducible refine (impl_LimitOf.calls k a0_0 _ _ l0_1 _ _ l0_2 a0_3 a0_4 a0_5 a0_6 a0_7 _ _ l0_8 a0_9 a1 a2 t330 _ ?side1 ?side2 ?side3 ?side4 ?side5 ?side6 A7.out).mono ?_
         (case side1 => exact ck_ HR0_1 HB)
         (case side2 => exact HC0_1.out)
         (case side3 => exact ck_ HR0_2 HB)
         (case side4 => exact HC0_2.out)
         (case side5 => exact ck_ HR0_8 HB)
         (case side6 => exact HC0_8.out)
         rintro e w18 ⟨rfl, hb⟩
         refine ⟨_, rfl, ?_⟩
         have n0_ := Aside0.mk (blk_below (bk_ BK325) hb)
         have n1_ := Aside0.mk (blk_below (bk_ BK332) hb)
         have n2_ := Aside0.mk (below_step (bl2_ HB GE325 GE332) hb)
         clear BK325
         clear BK332
         clear HB
         have BK325 := n0_
         have BK332 := n1_
         have HB := n2_
         clear n0_ n1_ n2_
         (try clear hb)
         (try clear hb2)
         (try clear hk)
         (try clear hi)
         refine hK.out _ _ ⟨(blk_cell BK325.out 0).trans rfl, (blk_cell BK325.out 1).trans rfl, (blk_cell BK325.out 2).trans rfl, (blk_cell BK325.out 3).trans rfl, (blk_cell BK325.out 4).trans rfl, (blk_cell BK325.out 5).trans rfl, (blk_cell BK325.out 6).trans rfl, (blk_cell BK325.out 7).trans rfl, (blk_cell BK325.out 8).trans rfl, (blk_cell BK325.out 9).trans rfl⟩ (fun hHeld => ?_)
         clear hK K
         refine norm_ (a' := ?_) ?_ ?_
         rotate_left
         ·show Act.put _ (some 25) _ = _
          simp only [Act.put, List.setIfInBounds_toArray, List.set_cons_zero, List.set_cons_succ, i64_w, i32_w]
          rfl
         exact norm_ (by first | (simp only [putAll, Act.put, List.setIfInBounds_toArray, List.set_cons_zero, List.set_cons_succ]; done) | (simp only [putAll, Act.put, List.setIfInBounds_toArray, List.set_cons_zero, List.set_cons_succ]; rfl)) (hJ3_7_11_13 (gb332) _ ⟨hHeld, (bk_ BK325), (bk_ BK332), GW332.out, GE332.out, NB325_332.out, NB332_325.out, (bl2_ HB GE325 GE332)⟩)
        ·skip
         refine box_step ?hg (N := 9) ?hd (cs := #[.int .i64 0, .int .i64 0]) (t := 54) ?hr ?_; (case hd => rfl); (case hg => rfl); (case hr => first | (go_simp; done) | (go_simp; rfl))
         intro gb331 hg w18 hbox hb
         have n0_ := Aside0.mk (blk_below (bk_ BK325) hb)
         have n1_ := Aside0.mk (blk_below (bk_ BK332) hb)
         have n2_ := Aside0.mk (below_step (bl2_ HB GE325 GE332) hb)
         have n3_ := Aside0.mk (hbox)
         have n4_ := Aside0.mk ((by rw [hg]; exact (below_size (bl2_ HB GE325 GE332)) : w.heap.size ≤ gb331))
         have n5_ := Aside0.mk ((by rw [hg]; exact (below_size (bl2_ HB GE325 GE332)) : w.heap.size ≤ gb331))
         have n6_ := Aside0.mk ((by rw [hg]; exact Nat.ne_of_lt (blk_lt (bk_ BK325)) : gb325 ≠ gb331))
         have n7_ := Aside0.mk ((by rw [hg]; exact Nat.ne_of_gt (blk_lt (bk_ BK325)) : gb331 ≠ gb325))
         have n8_ := Aside0.mk ((by rw [hg]; exact Nat.ne_of_lt (blk_lt (bk_ BK332)) : gb332 ≠ gb331))
         have n9_ := Aside0.mk ((by rw [hg]; exact Nat.ne_of_gt (blk_lt (bk_ BK332)) : gb331 ≠ gb332))
         clear BK325
         clear BK332
         clear HB
         have BK325 := n0_
         have BK332 := n1_
         have HB := n2_
         have BK331 := n3_
         have GW331 := n4_
         have GE331 := n5_
         have NB325_331 := n6_
         have NB331_325 := n7_
         have NB332_331 := n8_
         have NB331_332 := n9_
         clear n0_ n1_ n2_ n3_ n4_ n5_ n6_ n7_ n8_ n9_
         clear hb hbox hg
         refine hK.out _ _ ⟨(blk_cell BK325.out 0).trans rfl, (blk_cell BK325.out 1).trans rfl, (blk_cell BK325.out 2).trans rfl, (blk_cell BK325.out 3).trans rfl, (blk_cell BK325.out 4).trans rfl, (blk_cell BK325.out 5).trans rfl, (blk_cell BK325.out 6).trans rfl, (blk_cell BK325.out 7).trans rfl, (blk_cell BK325.out 8).trans rfl, (blk_cell BK325.out 9).trans rfl⟩ (fun hHeld => ?_)
         clear hK K
         refine norm_ (a' := ?_) ?_ ?_
         rotate_left
         ·show Act.put _ (some 9) _ = _
          simp only [Act.put, List.setIfInBounds_toArray, List.set_cons_zero, List.set_cons_succ, i64_w, i32_w]
          rfl
         exact norm_ (by first | (simp only [putAll, Act.put, List.setIfInBounds_toArray, List.set_cons_zero, List.set_cons_succ]; done) | (simp only [putAll, Act.put, List.setIfInBounds_toArray, List.set_cons_zero, List.set_cons_succ]; rfl)) (hJ3_7_12_13 (gb331, gb332) _ ⟨hHeld, (bk_ BK325), (bk_ BK331), (bk_ BK332), GW331.out, GE331.out, NB325_331.out, NB331_325.out, NB332_331.out, NB331_332.out, GW332.out, GE332.out, NB325_332.out, NB332_325.out, (bl3_ HB GE325 GE332 GE331)⟩)
      ·skip
       rintro gb331 w17 ⟨hS_, h0_, h1_, h2_, h3_, h4_, h5_, h6_⟩
       have n0_ : Aside0 (w17.heap[gb325]? = some (.cells #[.int .i64 a0_0, .slice A0_1 l0_1.length c0_1, .slice A0_2 l0_2.length c0_2, .int .i64 a0_3, .int .i64 a0_4, .int .i64 a0_5, .int .i64 a0_6, .int .i64 a0_7, .slice A0_8 l0_8.length c0_8, .int .i64 a0_9] 45 (0, 0))) := ⟨h0_⟩
       have n1_ : Aside0 (w17.heap[gb331]? = some (.cells #[.int .i64 0, .int .i64 0] 54 (0, 0))) := ⟨h1_⟩
       have n2_ : Aside0 (w.heap.size ≤ gb331) := ⟨h2_⟩
       have n3_ : Aside0 (w.heap.size ≤ gb331) := ⟨h3_⟩
       have n4_ : Aside0 (gb325 ≠ gb331) := ⟨h4_⟩
       have n5_ : Aside0 (gb331 ≠ gb325) := ⟨h5_⟩
       have n6_ : Aside0 (Below w.heap.size w w17) := ⟨h6_⟩
       clear BK325
       clear HB
       clear h0_ h1_ h2_ h3_ h4_ h5_ h6_
       have BK325 := n0_
       have BK331 := n1_
       have GW331 := n2_
       have GE331 := n3_
       have NB325_331 := n4_
       have NB331_325 := n5_
       have HB := n6_
       clear n0_ n1_ n2_ n3_ n4_ n5_ n6_
       have hHeld : w17.cell? ⟨gb325, 0, none⟩ = some (.int .i64 a0_0) ∧ w17.cell? ⟨gb325, 1, none⟩ = some (.slice A0_1 l0_1.length c0_1) ∧ w17.cell? ⟨gb325, 2, none⟩ = some (.slice A0_2 l0_2.length c0_2) ∧ w17.cell? ⟨gb325, 3, none⟩ = some (.int .i64 a0_3) ∧ w17.cell? ⟨gb325, 4, none⟩ = some (.int .i64 a0_4) ∧ w17.cell? ⟨gb325, 5, none⟩ = some (.int .i64 a0_5) ∧ w17.cell? ⟨gb325, 6, none⟩ = some (.int .i64 a0_6) ∧ w17.cell? ⟨gb325, 7, none⟩ = some (.int .i64 a0_7) ∧ w17.cell? ⟨gb325, 8, none⟩ = some (.slice A0_8 l0_8.length c0_8) ∧ w17.cell? ⟨gb325, 9, none⟩ = some (.int .i64 a0_9) := hS_
       refine norm_ (a' := ?_) ?_ ?_
       rotate_left
       ·simp only [putAll, Act.put, List.setIfInBounds_toArray, List.set_cons_zero, List.set_cons_succ]
        rfl
       refine two_ (i := 11) (j := 13) (Ni := some 25) (Nj := some 10) #[true, true, true, true, true, true, true, true, true, true, true, true, true, false, false, false, false] #[true, true, true, true, true, true, true, true, true, true, true, false, true, true, false, false, false] rfl rfl rfl rfl (two_of HT_.out (by kernel_rfl)) (by decide) (by decide) (fun K hK => ?_) (fun K hK => ?_)
       ·skip
        refine goes_ Try.func34 (by kernel_rfl) rfl #[.agg #[.int .i64 a0_0, .slice A0_1 l0_1.length c0_1, .slice A0_2 l0_2.length c0_2, .int .i64 a0_3, .int .i64 a0_4, .int .i64 a0_5, .int .i64 a0_6, .int .i64 a0_7, .slice A0_8 l0_8.length c0_8, .int .i64 a0_9], .int .i64 a1, .int .i64 a2] (by rfl) rfl rfl mp_ ?_
        with_reducible refine (impl_LimitOf.calls k a0_0 _ _ l0_1 _ _ l0_2 a0_3 a0_4 a0_5 a0_6 a0_7 _ _ l0_8 a0_9 a1 a2 t330 _ ?side1 ?side2 ?side3 ?side4 ?side5 ?side6 A7.out).mono ?_
        (case side1 => exact ck_ HR0_1 HB)
        (case side2 => exact HC0_1.out)
        (case side3 => exact ck_ HR0_2 HB)
        (case side4 => exact HC0_2.out)
        (case side5 => exact ck_ HR0_8 HB)
        (case side6 => exact HC0_8.out)
        rintro e w18 ⟨rfl, hb⟩
        refine ⟨_, rfl, ?_⟩
        have n0_ := Aside0.mk (blk_below (bk_ BK325) hb)
        have n1_ := Aside0.mk (blk_below (bk_ BK331) hb)
        have n2_ := Aside0.mk (below_step (bl2_ HB GE325 GE331) hb)
        clear BK325
        clear BK331
        clear HB
        have BK325 := n0_
        have BK331 := n1_
        have HB := n2_
        clear n0_ n1_ n2_
        (try clear hb)
        (try clear hb2)
        (try clear hk)
        (try clear hi)
        refine hK.out _ _ ⟨(blk_cell BK325.out 0).trans rfl, (blk_cell BK325.out 1).trans rfl, (blk_cell BK325.out 2).trans rfl, (blk_cell BK325.out 3).trans rfl, (blk_cell BK325.out 4).trans rfl, (blk_cell BK325.out 5).trans rfl, (blk_cell BK325.out 6).trans rfl, (blk_cell BK325.out 7).trans rfl, (blk_cell BK325.out 8).trans rfl, (blk_cell BK325.out 9).trans rfl⟩ (fun hHeld => ?_)
        clear hK K
        refine norm_ (a' := ?_) ?_ ?_
        rotate_left
        ·show Act.put _ (some 25) _ = _
         simp only [Act.put, List.setIfInBounds_toArray, List.set_cons_zero, List.set_cons_succ, i64_w, i32_w]
         rfl
        exact norm_ (by first | (simp only [putAll, Act.put, List.setIfInBounds_toArray, List.set_cons_zero, List.set_cons_succ]; done) | (simp only [putAll, Act.put, List.setIfInBounds_toArray, List.set_cons_zero, List.set_cons_succ]; rfl)) (hJ3_7_11_12 (gb331) _ ⟨hHeld, (bk_ BK325), (bk_ BK331), GW331.out, GE331.out, NB325_331.out, NB331_325.out, (bl2_ HB GE325 GE331)⟩)
       ·skip
        refine box_step ?hg (N := 10) ?hd (cs := #[.int .i64 0, .int .i64 0]) (t := 54) ?hr ?_; (case hd => rfl); (case hg => rfl); (case hr => first | (go_simp; done) | (go_simp; rfl))
        intro gb332 hg w18 hbox hb
        have n0_ := Aside0.mk (blk_below (bk_ BK325) hb)
        have n1_ := Aside0.mk (blk_below (bk_ BK331) hb)
        have n2_ := Aside0.mk (below_step (bl2_ HB GE325 GE331) hb)
        have n3_ := Aside0.mk (hbox)
        have n4_ := Aside0.mk ((by rw [hg]; exact (below_size (bl2_ HB GE325 GE331)) : w.heap.size ≤ gb332))
        have n5_ := Aside0.mk ((by rw [hg]; exact (below_size (bl2_ HB GE325 GE331)) : w.heap.size ≤ gb332))
        have n6_ := Aside0.mk ((by rw [hg]; exact Nat.ne_of_lt (blk_lt (bk_ BK325)) : gb325 ≠ gb332))
        have n7_ := Aside0.mk ((by rw [hg]; exact Nat.ne_of_gt (blk_lt (bk_ BK325)) : gb332 ≠ gb325))
        have n8_ := Aside0.mk ((by rw [hg]; exact Nat.ne_of_lt (blk_lt (bk_ BK331)) : gb331 ≠ gb332))
        have n9_ := Aside0.mk ((by rw [hg]; exact Nat.ne_of_gt (blk_lt (bk_ BK331)) : gb332 ≠ gb331))
        clear BK325
        clear BK331
        clear HB
        have BK325 := n0_
        have BK331 := n1_
        have HB := n2_
        have BK332 := n3_
        have GW332 := n4_
        have GE332 := n5_
        have NB325_332 := n6_
        have NB332_325 := n7_
        have NB331_332 := n8_
        have NB332_331 := n9_
        clear n0_ n1_ n2_ n3_ n4_ n5_ n6_ n7_ n8_ n9_
        clear hb hbox hg
        refine hK.out _ _ ⟨(blk_cell BK325.out 0).trans rfl, (blk_cell BK325.out 1).trans rfl, (blk_cell BK325.out 2).trans rfl, (blk_cell BK325.out 3).trans rfl, (blk_cell BK325.out 4).trans rfl, (blk_cell BK325.out 5).trans rfl, (blk_cell BK325.out 6).trans rfl, (blk_cell BK325.out 7).trans rfl, (blk_cell BK325.out 8).trans rfl, (blk_cell BK325.out 9).trans rfl⟩ (fun hHeld => ?_)
        clear hK K
        refine norm_ (a' := ?_) ?_ ?_
        rotate_left
        ·show Act.put _ (some 10) _ = _
         simp only [Act.put, List.setIfInBounds_toArray, List.set_cons_zero, List.set_cons_succ, i64_w, i32_w]
         rfl
        exact norm_ (by first | (simp only [putAll, Act.put, List.setIfInBounds_toArray, List.set_cons_zero, List.set_cons_succ]; done) | (simp only [putAll, Act.put, List.setIfInBounds_toArray, List.set_cons_zero, List.set_cons_succ]; rfl)) (hJ3_7_12_13 (gb331, gb332) _ ⟨hHeld, (bk_ BK325), (bk_ BK331), (bk_ BK332), GW331.out, GE331.out, NB325_331.out, NB331_325.out, NB332_331.out, NB331_332.out, GW332.out, GE332.out, NB325_332.out, NB332_325.out, (bl3_ HB GE325 GE331 GE332)⟩)
     ·skip
      rintro _ w17 ⟨hS_, h0_, h1_⟩
      have n0_ : Aside0 (w17.heap[gb325]? = some (.cells #[.int .i64 a0_0, .slice A0_1 l0_1.length c0_1, .slice A0_2 l0_2.length c0_2, .int .i64 a0_3, .int .i64 a0_4, .int .i64 a0_5, .int .i64 a0_6, .int .i64 a0_7, .slice A0_8 l0_8.length c0_8, .int .i64 a0_9] 45 (0, 0))) := ⟨h0_⟩
      have n1_ : Aside0 (Below w.heap.size w w17) := ⟨h1_⟩
      clear BK325
      clear HB
      clear h0_ h1_
      have BK325 := n0_
      have HB := n1_
      clear n0_ n1_
      have hHeld : w17.cell? ⟨gb325, 0, none⟩ = some (.int .i64 a0_0) ∧ w17.cell? ⟨gb325, 1, none⟩ = some (.slice A0_1 l0_1.length c0_1) ∧ w17.cell? ⟨gb325, 2, none⟩ = some (.slice A0_2 l0_2.length c0_2) ∧ w17.cell? ⟨gb325, 3, none⟩ = some (.int .i64 a0_3) ∧ w17.cell? ⟨gb325, 4, none⟩ = some (.int .i64 a0_4) ∧ w17.cell? ⟨gb325, 5, none⟩ = some (.int .i64 a0_5) ∧ w17.cell? ⟨gb325, 6, none⟩ = some (.int .i64 a0_6) ∧ w17.cell? ⟨gb325, 7, none⟩ = some (.int .i64 a0_7) ∧ w17.cell? ⟨gb325, 8, none⟩ = some (.slice A0_8 l0_8.length c0_8) ∧ w17.cell? ⟨gb325, 9, none⟩ = some (.int .i64 a0_9) := hS_
      refine norm_ (a' := ?_) ?_ ?_
      rotate_left
      ·simp only [putAll, Act.put, List.setIfInBounds_toArray, List.set_cons_zero, List.set_cons_succ]
       rfl
      refine two_ (i := 12) (j := 13) (Ni := some 9) (Nj := some 10) #[true, true, true, true, true, true, true, true, true, true, true, true, true, false, false, false, false] #[true, true, true, true, true, true, true, true, true, true, true, true, false, true, false, false, false] rfl rfl rfl rfl (two_of HT_.out (by kernel_rfl)) (by decide) (by decide) (fun K hK => ?_) (fun K hK => ?_)
      ·skip
       refine box_step ?hg (N := 9) ?hd (cs := #[.int .i64 0, .int .i64 0]) (t := 54) ?hr ?_; (case hd => rfl); (case hg => rfl); (case hr => first | (go_simp; done) | (go_simp; rfl))
       intro gb331 hg w18 hbox hb
       have n0_ := Aside0.mk (blk_below (bk_ BK325) hb)
       have n1_ := Aside0.mk (below_step (bl1_ HB GE325) hb)
       have n2_ := Aside0.mk (hbox)
       have n3_ := Aside0.mk ((by rw [hg]; exact (below_size (bl1_ HB GE325)) : w.heap.size ≤ gb331))
       have n4_ := Aside0.mk ((by rw [hg]; exact (below_size (bl1_ HB GE325)) : w.heap.size ≤ gb331))
       have n5_ := Aside0.mk ((by rw [hg]; exact Nat.ne_of_lt (blk_lt (bk_ BK325)) : gb325 ≠ gb331))
       have n6_ := Aside0.mk ((by rw [hg]; exact Nat.ne_of_gt (blk_lt (bk_ BK325)) : gb331 ≠ gb325))
       clear BK325
       clear HB
       have BK325 := n0_
       have HB := n1_
       have BK331 := n2_
       have GW331 := n3_
       have GE331 := n4_
       have NB325_331 := n5_
       have NB331_325 := n6_
       clear n0_ n1_ n2_ n3_ n4_ n5_ n6_
       clear hb hbox hg
       refine hK.out _ _ ⟨(blk_cell BK325.out 0).trans rfl, (blk_cell BK325.out 1).trans rfl, (blk_cell BK325.out 2).trans rfl, (blk_cell BK325.out 3).trans rfl, (blk_cell BK325.out 4).trans rfl, (blk_cell BK325.out 5).trans rfl, (blk_cell BK325.out 6).trans rfl, (blk_cell BK325.out 7).trans rfl, (blk_cell BK325.out 8).trans rfl, (blk_cell BK325.out 9).trans rfl⟩ (fun hHeld => ?_)
       clear hK K
       refine norm_ (a' := ?_) ?_ ?_
       rotate_left
       ·show Act.put _ (some 9) _ = _
        simp only [Act.put, List.setIfInBounds_toArray, List.set_cons_zero, List.set_cons_succ, i64_w, i32_w]
        rfl
       exact norm_ (by first | (simp only [putAll, Act.put, List.setIfInBounds_toArray, List.set_cons_zero, List.set_cons_succ]; done) | (simp only [putAll, Act.put, List.setIfInBounds_toArray, List.set_cons_zero, List.set_cons_succ]; rfl)) (hJ3_7_11_12 (gb331) _ ⟨hHeld, (bk_ BK325), (bk_ BK331), GW331.out, GE331.out, NB325_331.out, NB331_325.out, (bl2_ HB GE325 GE331)⟩)
      ·skip
       refine box_step ?hg (N := 10) ?hd (cs := #[.int .i64 0, .int .i64 0]) (t := 54) ?hr ?_; (case hd => rfl); (case hg => rfl); (case hr => first | (go_simp; done) | (go_simp; rfl))
       intro gb332 hg w18 hbox hb
       have n0_ := Aside0.mk (blk_below (bk_ BK325) hb)
       have n1_ := Aside0.mk (below_step (bl1_ HB GE325) hb)
       have n2_ := Aside0.mk (hbox)
       have n3_ := Aside0.mk ((by rw [hg]; exact (below_size (bl1_ HB GE325)) : w.heap.size ≤ gb332))
       have n4_ := Aside0.mk ((by rw [hg]; exact (below_size (bl1_ HB GE325)) : w.heap.size ≤ gb332))
       have n5_ := Aside0.mk ((by rw [hg]; exact Nat.ne_of_lt (blk_lt (bk_ BK325)) : gb325 ≠ gb332))
       have n6_ := Aside0.mk ((by rw [hg]; exact Nat.ne_of_gt (blk_lt (bk_ BK325)) : gb332 ≠ gb325))
       clear BK325
       clear HB
       have BK325 := n0_
       have HB := n1_
       have BK332 := n2_
       have GW332 := n3_
       have GE332 := n4_
       have NB325_332 := n5_
       have NB332_325 := n6_
       clear n0_ n1_ n2_ n3_ n4_ n5_ n6_
       clear hb hbox hg
       refine hK.out _ _ ⟨(blk_cell BK325.out 0).trans rfl, (blk_cell BK325.out 1).trans rfl, (blk_cell BK325.out 2).trans rfl, (blk_cell BK325.out 3).trans rfl, (blk_cell BK325.out 4).trans rfl, (blk_cell BK325.out 5).trans rfl, (blk_cell BK325.out 6).trans rfl, (blk_cell BK325.out 7).trans rfl, (blk_cell BK325.out 8).trans rfl, (blk_cell BK325.out 9).trans rfl⟩ (fun hHeld => ?_)
       clear hK K
       refine norm_ (a' := ?_) ?_ ?_
       rotate_left
       ·show Act.put _ (some 10) _ = _
        simp only [Act.put, List.setIfInBounds_toArray, List.set_cons_zero, List.set_cons_succ, i64_w, i32_w]
        rfl
       exact norm_ (by first | (simp only [putAll, Act.put, List.setIfInBounds_toArray, List.set_cons_zero, List.set_cons_succ]; done) | (simp only [putAll, Act.put, List.setIfInBounds_toArray, List.set_cons_zero, List.set_cons_succ]; rfl)) (hJ3_7_11_13 (gb332) _ ⟨hHeld, (bk_ BK325), (bk_ BK332), GW332.out, GE332.out, NB325_332.out, NB332_325.out, (bl2_ HB GE325 GE332)⟩)
    ·skip
     rintro ⟨gb331, gb332⟩ w18 ⟨hS_, h0_, h1_, h2_, h3_, h4_, h5_, h6_, h7_, h8_, h9_, h10_, h11_, h12_, h13_⟩
     have n0_ : Aside0 (w18.heap[gb325]? = some (.cells #[.int .i64 a0_0, .slice A0_1 l0_1.length c0_1, .slice A0_2 l0_2.length c0_2, .int .i64 a0_3, .int .i64 a0_4, .int .i64 a0_5, .int .i64 a0_6, .int .i64 a0_7, .slice A0_8 l0_8.length c0_8, .int .i64 a0_9] 45 (0, 0))) := ⟨h0_⟩
     have n1_ : Aside0 (w18.heap[gb331]? = some (.cells #[.int .i64 0, .int .i64 0] 54 (0, 0))) := ⟨h1_⟩
     have n2_ : Aside0 (w18.heap[gb332]? = some (.cells #[.int .i64 0, .int .i64 0] 54 (0, 0))) := ⟨h2_⟩
     have n3_ : Aside0 (w.heap.size ≤ gb331) := ⟨h3_⟩
     have n4_ : Aside0 (w.heap.size ≤ gb331) := ⟨h4_⟩
     have n5_ : Aside0 (gb325 ≠ gb331) := ⟨h5_⟩
     have n6_ : Aside0 (gb331 ≠ gb325) := ⟨h6_⟩
     have n7_ : Aside0 (gb332 ≠ gb331) := ⟨h7_⟩
     have n8_ : Aside0 (gb331 ≠ gb332) := ⟨h8_⟩
     have n9_ : Aside0 (w.heap.size ≤ gb332) := ⟨h9_⟩
     have n10_ : Aside0 (w.heap.size ≤ gb332) := ⟨h10_⟩
     have n11_ : Aside0 (gb325 ≠ gb332) := ⟨h11_⟩
     have n12_ : Aside0 (gb332 ≠ gb325) := ⟨h12_⟩
     have n13_ : Aside0 (Below w.heap.size w w18) := ⟨h13_⟩
     clear BK325
     clear HB
     clear h0_ h1_ h2_ h3_ h4_ h5_ h6_ h7_ h8_ h9_ h10_ h11_ h12_ h13_
     have BK325 := n0_
     have BK331 := n1_
     have BK332 := n2_
     have GW331 := n3_
     have GE331 := n4_
     have NB325_331 := n5_
     have NB331_325 := n6_
     have NB332_331 := n7_
     have NB331_332 := n8_
     have GW332 := n9_
     have GE332 := n10_
     have NB325_332 := n11_
     have NB332_325 := n12_
     have HB := n13_
     clear n0_ n1_ n2_ n3_ n4_ n5_ n6_ n7_ n8_ n9_ n10_ n11_ n12_ n13_
     have hHeld : w18.cell? ⟨gb325, 0, none⟩ = some (.int .i64 a0_0) ∧ w18.cell? ⟨gb325, 1, none⟩ = some (.slice A0_1 l0_1.length c0_1) ∧ w18.cell? ⟨gb325, 2, none⟩ = some (.slice A0_2 l0_2.length c0_2) ∧ w18.cell? ⟨gb325, 3, none⟩ = some (.int .i64 a0_3) ∧ w18.cell? ⟨gb325, 4, none⟩ = some (.int .i64 a0_4) ∧ w18.cell? ⟨gb325, 5, none⟩ = some (.int .i64 a0_5) ∧ w18.cell? ⟨gb325, 6, none⟩ = some (.int .i64 a0_6) ∧ w18.cell? ⟨gb325, 7, none⟩ = some (.int .i64 a0_7) ∧ w18.cell? ⟨gb325, 8, none⟩ = some (.slice A0_8 l0_8.length c0_8) ∧ w18.cell? ⟨gb325, 9, none⟩ = some (.int .i64 a0_9) := hS_
     refine norm_ (a' := ?_) ?_ ?_
     rotate_left
     ·simp only [putAll, Act.put, List.setIfInBounds_toArray, List.set_cons_zero, List.set_cons_succ]
      rfl
     refine one_ (i := 11) (N := some 25) #[true, true, true, true, true, true, true, true, true, true, true, true, true, true, false, false, false] rfl rfl (one_of HT_.out (by kernel_rfl)) (by decide) (fun K hK => ?_)
     refine goes_ Try.func34 (by kernel_rfl) rfl #[.agg #[.int .i64 a0_0, .slice A0_1 l0_1.length c0_1, .slice A0_2 l0_2.length c0_2, .int .i64 a0_3, .int .i64 a0_4, .int .i64 a0_5, .int .i64 a0_6, .int .i64 a0_7, .slice A0_8 l0_8.length c0_8, .int .i64 a0_9], .int .i64 a1, .int .i64 a2] (by rfl) rfl rfl mp_ ?_
     with_reducible refine (impl_LimitOf.calls k a0_0 _ _ l0_1 _ _ l0_2 a0_3 a0_4 a0_5 a0_6 a0_7 _ _ l0_8 a0_9 a1 a2 t330 _ ?side1 ?side2 ?side3 ?side4 ?side5 ?side6 A7.out).mono ?_
     (case side1 => exact ck_ HR0_1 HB)
     (case side2 => exact HC0_1.out)
     (case side3 => exact ck_ HR0_2 HB)
     (case side4 => exact HC0_2.out)
     (case side5 => exact ck_ HR0_8 HB)
     (case side6 => exact HC0_8.out)
     rintro e w19 ⟨rfl, hb⟩
     refine ⟨_, rfl, ?_⟩
     have n0_ := Aside0.mk (blk_below (bk_ BK325) hb)
     have n1_ := Aside0.mk (blk_below (bk_ BK331) hb)
     have n2_ := Aside0.mk (blk_below (bk_ BK332) hb)
     have n3_ := Aside0.mk (below_step (bl3_ HB GE325 GE331 GE332) hb)
     clear BK325
     clear BK331
     clear BK332
     clear HB
     have BK325 := n0_
     have BK331 := n1_
     have BK332 := n2_
     have HB := n3_
     clear n0_ n1_ n2_ n3_
     (try clear hb)
     (try clear hb2)
     (try clear hk)
     (try clear hi)
     refine hK.out _ _ ⟨(blk_cell BK325.out 0).trans rfl, (blk_cell BK325.out 1).trans rfl, (blk_cell BK325.out 2).trans rfl, (blk_cell BK325.out 3).trans rfl, (blk_cell BK325.out 4).trans rfl, (blk_cell BK325.out 5).trans rfl, (blk_cell BK325.out 6).trans rfl, (blk_cell BK325.out 7).trans rfl, (blk_cell BK325.out 8).trans rfl, (blk_cell BK325.out 9).trans rfl⟩ (fun hHeld => ?_)
     clear hK K
     refine norm_ (a' := ?_) ?_ ?_
     rotate_left
     ·show Act.put _ (some 25) _ = _
      simp only [Act.put, List.setIfInBounds_toArray, List.set_cons_zero, List.set_cons_succ, i64_w, i32_w]
      rfl
     exact norm_ (by first | (simp only [putAll, Act.put, List.setIfInBounds_toArray, List.set_cons_zero, List.set_cons_succ]; done) | (simp only [putAll, Act.put, List.setIfInBounds_toArray, List.set_cons_zero, List.set_cons_succ]; rfl)) (hJ3_7_11_12_13 (gb331, gb332) _ ⟨hHeld, (bk_ BK325), (bk_ BK331), (bk_ BK332), GW331.out, GE331.out, NB325_331.out, NB331_325.out, NB332_331.out, NB331_332.out, GW332.out, GE332.out, NB325_332.out, NB332_325.out, (bl3_ HB GE325 GE331 GE332)⟩)
   ·skip
    rintro gb332 w18 ⟨hS_, h0_, h1_, h2_, h3_, h4_, h5_, h6_⟩
    have n0_ : Aside0 (w18.heap[gb325]? = some (.cells #[.int .i64 a0_0, .slice A0_1 l0_1.length c0_1, .slice A0_2 l0_2.length c0_2, .int .i64 a0_3, .int .i64 a0_4, .int .i64 a0_5, .int .i64 a0_6, .int .i64 a0_7, .slice A0_8 l0_8.length c0_8, .int .i64 a0_9] 45 (0, 0))) := ⟨h0_⟩
    have n1_ : Aside0 (w18.heap[gb332]? = some (.cells #[.int .i64 0, .int .i64 0] 54 (0, 0))) := ⟨h1_⟩
    have n2_ : Aside0 (w.heap.size ≤ gb332) := ⟨h2_⟩
    have n3_ : Aside0 (w.heap.size ≤ gb332) := ⟨h3_⟩
    have n4_ : Aside0 (gb325 ≠ gb332) := ⟨h4_⟩
    have n5_ : Aside0 (gb332 ≠ gb325) := ⟨h5_⟩
    have n6_ : Aside0 (Below w.heap.size w w18) := ⟨h6_⟩
    clear BK325
    clear HB
    clear h0_ h1_ h2_ h3_ h4_ h5_ h6_
    have BK325 := n0_
    have BK332 := n1_
    have GW332 := n2_
    have GE332 := n3_
    have NB325_332 := n4_
    have NB332_325 := n5_
    have HB := n6_
    clear n0_ n1_ n2_ n3_ n4_ n5_ n6_
    have hHeld : w18.cell? ⟨gb325, 0, none⟩ = some (.int .i64 a0_0) ∧ w18.cell? ⟨gb325, 1, none⟩ = some (.slice A0_1 l0_1.length c0_1) ∧ w18.cell? ⟨gb325, 2, none⟩ = some (.slice A0_2 l0_2.length c0_2) ∧ w18.cell? ⟨gb325, 3, none⟩ = some (.int .i64 a0_3) ∧ w18.cell? ⟨gb325, 4, none⟩ = some (.int .i64 a0_4) ∧ w18.cell? ⟨gb325, 5, none⟩ = some (.int .i64 a0_5) ∧ w18.cell? ⟨gb325, 6, none⟩ = some (.int .i64 a0_6) ∧ w18.cell? ⟨gb325, 7, none⟩ = some (.int .i64 a0_7) ∧ w18.cell? ⟨gb325, 8, none⟩ = some (.slice A0_8 l0_8.length c0_8) ∧ w18.cell? ⟨gb325, 9, none⟩ = some (.int .i64 a0_9) := hS_
    refine norm_ (a' := ?_) ?_ ?_
    rotate_left
    ·simp only [putAll, Act.put, List.setIfInBounds_toArray, List.set_cons_zero, List.set_cons_succ]
     rfl
    refine one_ (i := 12) (N := some 9) #[true, true, true, true, true, true, true, true, true, true, true, true, true, true, false, false, false] rfl rfl (one_of HT_.out (by kernel_rfl)) (by decide) (fun K hK => ?_)
    refine box_step ?hg (N := 9) ?hd (cs := #[.int .i64 0, .int .i64 0]) (t := 54) ?hr ?_; (case hd => rfl); (case hg => rfl); (case hr => first | (go_simp; done) | (go_simp; rfl))
    intro gb331 hg w19 hbox hb
    have n0_ := Aside0.mk (blk_below (bk_ BK325) hb)
    have n1_ := Aside0.mk (blk_below (bk_ BK332) hb)
    have n2_ := Aside0.mk (below_step (bl2_ HB GE325 GE332) hb)
    have n3_ := Aside0.mk (hbox)
    have n4_ := Aside0.mk ((by rw [hg]; exact (below_size (bl2_ HB GE325 GE332)) : w.heap.size ≤ gb331))
    have n5_ := Aside0.mk ((by rw [hg]; exact (below_size (bl2_ HB GE325 GE332)) : w.heap.size ≤ gb331))
    have n6_ := Aside0.mk ((by rw [hg]; exact Nat.ne_of_lt (blk_lt (bk_ BK325)) : gb325 ≠ gb331))
    have n7_ := Aside0.mk ((by rw [hg]; exact Nat.ne_of_gt (blk_lt (bk_ BK325)) : gb331 ≠ gb325))
    have n8_ := Aside0.mk ((by rw [hg]; exact Nat.ne_of_lt (blk_lt (bk_ BK332)) : gb332 ≠ gb331))
    have n9_ := Aside0.mk ((by rw [hg]; exact Nat.ne_of_gt (blk_lt (bk_ BK332)) : gb331 ≠ gb332))
    clear BK325
    clear BK332
    clear HB
    have BK325 := n0_
    have BK332 := n1_
    have HB := n2_
    have BK331 := n3_
    have GW331 := n4_
    have GE331 := n5_
    have NB325_331 := n6_
    have NB331_325 := n7_
    have NB332_331 := n8_
    have NB331_332 := n9_
    clear n0_ n1_ n2_ n3_ n4_ n5_ n6_ n7_ n8_ n9_
    clear hb hbox hg
    refine hK.out _ _ ⟨(blk_cell BK325.out 0).trans rfl, (blk_cell BK325.out 1).trans rfl, (blk_cell BK325.out 2).trans rfl, (blk_cell BK325.out 3).trans rfl, (blk_cell BK325.out 4).trans rfl, (blk_cell BK325.out 5).trans rfl, (blk_cell BK325.out 6).trans rfl, (blk_cell BK325.out 7).trans rfl, (blk_cell BK325.out 8).trans rfl, (blk_cell BK325.out 9).trans rfl⟩ (fun hHeld => ?_)
    clear hK K
    refine norm_ (a' := ?_) ?_ ?_
    rotate_left
    ·show Act.put _ (some 9) _ = _
     simp only [Act.put, List.setIfInBounds_toArray, List.set_cons_zero, List.set_cons_succ, i64_w, i32_w]
     rfl
    exact norm_ (by first | (simp only [putAll, Act.put, List.setIfInBounds_toArray, List.set_cons_zero, List.set_cons_succ]; done) | (simp only [putAll, Act.put, List.setIfInBounds_toArray, List.set_cons_zero, List.set_cons_succ]; rfl)) (hJ3_7_11_12_13 (gb331, gb332) _ ⟨hHeld, (bk_ BK325), (bk_ BK331), (bk_ BK332), GW331.out, GE331.out, NB325_331.out, NB331_325.out, NB332_331.out, NB331_332.out, GW332.out, GE332.out, NB325_332.out, NB332_325.out, (bl3_ HB GE325 GE332 GE331)⟩)
  ·skip
   rintro gb331 w18 ⟨hS_, h0_, h1_, h2_, h3_, h4_, h5_, h6_⟩
   have n0_ : Aside0 (w18.heap[gb325]? = some (.cells #[.int .i64 a0_0, .slice A0_1 l0_1.length c0_1, .slice A0_2 l0_2.length c0_2, .int .i64 a0_3, .int .i64 a0_4, .int .i64 a0_5, .int .i64 a0_6, .int .i64 a0_7, .slice A0_8 l0_8.length c0_8, .int .i64 a0_9] 45 (0, 0))) := ⟨h0_⟩
   have n1_ : Aside0 (w18.heap[gb331]? = some (.cells #[.int .i64 0, .int .i64 0] 54 (0, 0))) := ⟨h1_⟩
   have n2_ : Aside0 (w.heap.size ≤ gb331) := ⟨h2_⟩
   have n3_ : Aside0 (w.heap.size ≤ gb331) := ⟨h3_⟩
   have n4_ : Aside0 (gb325 ≠ gb331) := ⟨h4_⟩
   have n5_ : Aside0 (gb331 ≠ gb325) := ⟨h5_⟩
   have n6_ : Aside0 (Below w.heap.size w w18) := ⟨h6_⟩
   clear BK325
   clear HB
   clear h0_ h1_ h2_ h3_ h4_ h5_ h6_
   have BK325 := n0_
   have BK331 := n1_
   have GW331 := n2_
   have GE331 := n3_
   have NB325_331 := n4_
   have NB331_325 := n5_
   have HB := n6_
   clear n0_ n1_ n2_ n3_ n4_ n5_ n6_
   have hHeld : w18.cell? ⟨gb325, 0, none⟩ = some (.int .i64 a0_0) ∧ w18.cell? ⟨gb325, 1, none⟩ = some (.slice A0_1 l0_1.length c0_1) ∧ w18.cell? ⟨gb325, 2, none⟩ = some (.slice A0_2 l0_2.length c0_2) ∧ w18.cell? ⟨gb325, 3, none⟩ = some (.int .i64 a0_3) ∧ w18.cell? ⟨gb325, 4, none⟩ = some (.int .i64 a0_4) ∧ w18.cell? ⟨gb325, 5, none⟩ = some (.int .i64 a0_5) ∧ w18.cell? ⟨gb325, 6, none⟩ = some (.int .i64 a0_6) ∧ w18.cell? ⟨gb325, 7, none⟩ = some (.int .i64 a0_7) ∧ w18.cell? ⟨gb325, 8, none⟩ = some (.slice A0_8 l0_8.length c0_8) ∧ w18.cell? ⟨gb325, 9, none⟩ = some (.int .i64 a0_9) := hS_
   refine norm_ (a' := ?_) ?_ ?_
   rotate_left
   ·simp only [putAll, Act.put, List.setIfInBounds_toArray, List.set_cons_zero, List.set_cons_succ]
    rfl
   refine one_ (i := 13) (N := some 10) #[true, true, true, true, true, true, true, true, true, true, true, true, true, true, false, false, false] rfl rfl (one_of HT_.out (by kernel_rfl)) (by decide) (fun K hK => ?_)
   refine box_step ?hg (N := 10) ?hd (cs := #[.int .i64 0, .int .i64 0]) (t := 54) ?hr ?_; (case hd => rfl); (case hg => rfl); (case hr => first | (go_simp; done) | (go_simp; rfl))
   intro gb332 hg w19 hbox hb
   have n0_ := Aside0.mk (blk_below (bk_ BK325) hb)
   have n1_ := Aside0.mk (blk_below (bk_ BK331) hb)
   have n2_ := Aside0.mk (below_step (bl2_ HB GE325 GE331) hb)
   have n3_ := Aside0.mk (hbox)
   have n4_ := Aside0.mk ((by rw [hg]; exact (below_size (bl2_ HB GE325 GE331)) : w.heap.size ≤ gb332))
   have n5_ := Aside0.mk ((by rw [hg]; exact (below_size (bl2_ HB GE325 GE331)) : w.heap.size ≤ gb332))
   have n6_ := Aside0.mk ((by rw [hg]; exact Nat.ne_of_lt (blk_lt (bk_ BK325)) : gb325 ≠ gb332))
   have n7_ := Aside0.mk ((by rw [hg]; exact Nat.ne_of_gt (blk_lt (bk_ BK325)) : gb332 ≠ gb325))
   have n8_ := Aside0.mk ((by rw [hg]; exact Nat.ne_of_lt (blk_lt (bk_ BK331)) : gb331 ≠ gb332))
   have n9_ := Aside0.mk ((by rw [hg]; exact Nat.ne_of_gt (blk_lt (bk_ BK331)) : gb332 ≠ gb331))
   clear BK325
   clear BK331
   clear HB
   have BK325 := n0_
   have BK331 := n1_
   have HB := n2_
   have BK332 := n3_
   have GW332 := n4_
   have GE332 := n5_
   have NB325_332 := n6_
   have NB332_325 := n7_
   have NB331_332 := n8_
   have NB332_331 := n9_
   clear n0_ n1_ n2_ n3_ n4_ n5_ n6_ n7_ n8_ n9_
   clear hb hbox hg
   refine hK.out _ _ ⟨(blk_cell BK325.out 0).trans rfl, (blk_cell BK325.out 1).trans rfl, (blk_cell BK325.out 2).trans rfl, (blk_cell BK325.out 3).trans rfl, (blk_cell BK325.out 4).trans rfl, (blk_cell BK325.out 5).trans rfl, (blk_cell BK325.out 6).trans rfl, (blk_cell BK325.out 7).trans rfl, (blk_cell BK325.out 8).trans rfl, (blk_cell BK325.out 9).trans rfl⟩ (fun hHeld => ?_)
   clear hK K
   refine norm_ (a' := ?_) ?_ ?_
   rotate_left
   ·show Act.put _ (some 10) _ = _
    simp only [Act.put, List.setIfInBounds_toArray, List.set_cons_zero, List.set_cons_succ, i64_w, i32_w]
    rfl
   exact norm_ (by first | (simp only [putAll, Act.put, List.setIfInBounds_toArray, List.set_cons_zero, List.set_cons_succ]; done) | (simp only [putAll, Act.put, List.setIfInBounds_toArray, List.set_cons_zero, List.set_cons_succ]; rfl)) (hJ3_7_11_12_13 (gb331, gb332) _ ⟨hHeld, (bk_ BK325), (bk_ BK331), (bk_ BK332), GW331.out, GE331.out, NB325_331.out, NB331_325.out, NB332_331.out, NB331_332.out, GW332.out, GE332.out, NB325_332.out, NB332_325.out, (bl3_ HB GE325 GE331 GE332)⟩)
 rintro ⟨gb331, gb332⟩ w19 ⟨hS_, h0_, h1_, h2_, h3_, h4_, h5_, h6_, h7_, h8_, h9_, h10_, h11_, h12_, h13_⟩
 have n0_ : Aside0 (w19.heap[gb325]? = some (.cells #[.int .i64 a0_0, .slice A0_1 l0_1.length c0_1, .slice A0_2 l0_2.length c0_2, .int .i64 a0_3, .int .i64 a0_4, .int .i64 a0_5, .int .i64 a0_6, .int .i64 a0_7, .slice A0_8 l0_8.length c0_8, .int .i64 a0_9] 45 (0, 0))) := ⟨h0_⟩
 have n1_ : Aside0 (w19.heap[gb331]? = some (.cells #[.int .i64 0, .int .i64 0] 54 (0, 0))) := ⟨h1_⟩
 have n2_ : Aside0 (w19.heap[gb332]? = some (.cells #[.int .i64 0, .int .i64 0] 54 (0, 0))) := ⟨h2_⟩
 have n3_ : Aside0 (w.heap.size ≤ gb331) := ⟨h3_⟩
 have n4_ : Aside0 (w.heap.size ≤ gb331) := ⟨h4_⟩
 have n5_ : Aside0 (gb325 ≠ gb331) := ⟨h5_⟩
 have n6_ : Aside0 (gb331 ≠ gb325) := ⟨h6_⟩
 have n7_ : Aside0 (gb332 ≠ gb331) := ⟨h7_⟩
 have n8_ : Aside0 (gb331 ≠ gb332) := ⟨h8_⟩
 have n9_ : Aside0 (w.heap.size ≤ gb332) := ⟨h9_⟩
 have n10_ : Aside0 (w.heap.size ≤ gb332) := ⟨h10_⟩
 have n11_ : Aside0 (gb325 ≠ gb332) := ⟨h11_⟩
 have n12_ : Aside0 (gb332 ≠ gb325) := ⟨h12_⟩
 have n13_ : Aside0 (Below w.heap.size w w19) := ⟨h13_⟩
 clear BK325
 clear HB
 clear h0_ h1_ h2_ h3_ h4_ h5_ h6_ h7_ h8_ h9_ h10_ h11_ h12_ h13_
 have BK325 := n0_
 have BK331 := n1_
 have BK332 := n2_
 have GW331 := n3_
 have GE331 := n4_
 have NB325_331 := n5_
 have NB331_325 := n6_
 have NB332_331 := n7_
 have NB331_332 := n8_
 have GW332 := n9_
 have GE332 := n10_
 have NB325_332 := n11_
 have NB332_325 := n12_
 have HB := n13_
 clear n0_ n1_ n2_ n3_ n4_ n5_ n6_ n7_ n8_ n9_ n10_ n11_ n12_ n13_
 have hHeld : w19.cell? ⟨gb325, 0, none⟩ = some (.int .i64 a0_0) ∧ w19.cell? ⟨gb325, 1, none⟩ = some (.slice A0_1 l0_1.length c0_1) ∧ w19.cell? ⟨gb325, 2, none⟩ = some (.slice A0_2 l0_2.length c0_2) ∧ w19.cell? ⟨gb325, 3, none⟩ = some (.int .i64 a0_3) ∧ w19.cell? ⟨gb325, 4, none⟩ = some (.int .i64 a0_4) ∧ w19.cell? ⟨gb325, 5, none⟩ = some (.int .i64 a0_5) ∧ w19.cell? ⟨gb325, 6, none⟩ = some (.int .i64 a0_6) ∧ w19.cell? ⟨gb325, 7, none⟩ = some (.int .i64 a0_7) ∧ w19.cell? ⟨gb325, 8, none⟩ = some (.slice A0_8 l0_8.length c0_8) ∧ w19.cell? ⟨gb325, 9, none⟩ = some (.int .i64 a0_9) := hS_
 refine norm_ (a' := ?_) ?_ ?_
 rotate_left
 ·simp only [putAll, Act.put, List.setIfInBounds_toArray, List.set_cons_zero, List.set_cons_succ]
  rfl
 refine one_ (i := 14) (N := none) #[true, true, true, true, true, true, true, true, true, true, true, true, true, true, true, false, false] rfl rfl (one_of HT_.out (by kernel_rfl)) (by decide) (fun K hK => ?_)
 have hs20 : w19.cell? ⟨gb331, 0, none⟩ = some (.int .i64 0) := (blk_cell BK331.out 0).trans rfl
 have hfs20 := blk_frozen BK331.out 0
 have hns20_0 := NB325_331.out
 have hns20_2 := NB332_331.out
 have hms20_0 := NB331_325.out
 have hms20_2 := NB331_332.out
 have hs21 : w19.cell? ⟨gb331, 1, none⟩ = some (.int .i64 0) := (blk_cell BK331.out 1).trans rfl
 have hfs21 := blk_frozen BK331.out 1
 have hns21_0 := NB325_331.out
 have hns21_2 := NB332_331.out
 have hms21_0 := NB331_325.out
 have hms21_2 := NB331_332.out
 refine skip_ (w1 := ?_) (by rfl) rfl ?_ ?_
 rotate_left
 ·go_simp
  rfl
 refine hK.out _ _ ⟨((cell_far (p := ⟨gb331, _, none⟩) NB325_331.out _).trans (((cell_far (p := ⟨gb331, _, none⟩) NB325_331.out _).trans (hHeld.1)))), ((cell_far (p := ⟨gb331, _, none⟩) NB325_331.out _).trans (((cell_far (p := ⟨gb331, _, none⟩) NB325_331.out _).trans (hHeld.2.1)))), ((cell_far (p := ⟨gb331, _, none⟩) NB325_331.out _).trans (((cell_far (p := ⟨gb331, _, none⟩) NB325_331.out _).trans (hHeld.2.2.1)))), ((cell_far (p := ⟨gb331, _, none⟩) NB325_331.out _).trans (((cell_far (p := ⟨gb331, _, none⟩) NB325_331.out _).trans (hHeld.2.2.2.1)))), ((cell_far (p := ⟨gb331, _, none⟩) NB325_331.out _).trans (((cell_far (p := ⟨gb331, _, none⟩) NB325_331.out _).trans (hHeld.2.2.2.2.1)))), ((cell_far (p := ⟨gb331, _, none⟩) NB325_331.out _).trans (((cell_far (p := ⟨gb331, _, none⟩) NB325_331.out _).trans (hHeld.2.2.2.2.2.1)))), ((cell_far (p := ⟨gb331, _, none⟩) NB325_331.out _).trans (((cell_far (p := ⟨gb331, _, none⟩) NB325_331.out _).trans (hHeld.2.2.2.2.2.2.1)))), ((cell_far (p := ⟨gb331, _, none⟩) NB325_331.out _).trans (((cell_far (p := ⟨gb331, _, none⟩) NB325_331.out _).trans (hHeld.2.2.2.2.2.2.2.1)))), ((cell_far (p := ⟨gb331, _, none⟩) NB325_331.out _).trans (((cell_far (p := ⟨gb331, _, none⟩) NB325_331.out _).trans (hHeld.2.2.2.2.2.2.2.2.1)))), ((cell_far (p := ⟨gb331, _, none⟩) NB325_331.out _).trans (((cell_far (p := ⟨gb331, _, none⟩) NB325_331.out _).trans (hHeld.2.2.2.2.2.2.2.2.2))))⟩ (fun hHeld => ?_)
 clear hK K
 refine one_ (i := 15) (N := none) #[true, true, true, true, true, true, true, true, true, true, true, true, true, true, true, true, false] rfl rfl (one_of HT_.out (by kernel_rfl)) (by decide) (fun K hK => ?_)
 have hs22 : w19.cell? ⟨gb332, 0, none⟩ = some (.int .i64 0) := (blk_cell BK332.out 0).trans rfl
 have hfs22 := blk_frozen BK332.out 0
 have hns22_0 := NB325_332.out
 have hns22_1 := NB331_332.out
 have hms22_0 := NB332_325.out
 have hms22_1 := NB332_331.out
 have hs23 : w19.cell? ⟨gb332, 1, none⟩ = some (.int .i64 0) := (blk_cell BK332.out 1).trans rfl
 have hfs23 := blk_frozen BK332.out 1
 have hns23_0 := NB325_332.out
 have hns23_1 := NB331_332.out
 have hms23_0 := NB332_325.out
 have hms23_1 := NB332_331.out
 refine skip_ (w1 := ?_) (by rfl) rfl ?_ ?_
 rotate_left
 ·go_simp
  rfl
 refine hK.out _ _ ⟨((cell_far (p := ⟨gb332, _, none⟩) NB325_332.out _).trans (((cell_far (p := ⟨gb332, _, none⟩) NB325_332.out _).trans (hHeld.1)))), ((cell_far (p := ⟨gb332, _, none⟩) NB325_332.out _).trans (((cell_far (p := ⟨gb332, _, none⟩) NB325_332.out _).trans (hHeld.2.1)))), ((cell_far (p := ⟨gb332, _, none⟩) NB325_332.out _).trans (((cell_far (p := ⟨gb332, _, none⟩) NB325_332.out _).trans (hHeld.2.2.1)))), ((cell_far (p := ⟨gb332, _, none⟩) NB325_332.out _).trans (((cell_far (p := ⟨gb332, _, none⟩) NB325_332.out _).trans (hHeld.2.2.2.1)))), ((cell_far (p := ⟨gb332, _, none⟩) NB325_332.out _).trans (((cell_far (p := ⟨gb332, _, none⟩) NB325_332.out _).trans (hHeld.2.2.2.2.1)))), ((cell_far (p := ⟨gb332, _, none⟩) NB325_332.out _).trans (((cell_far (p := ⟨gb332, _, none⟩) NB325_332.out _).trans (hHeld.2.2.2.2.2.1)))), ((cell_far (p := ⟨gb332, _, none⟩) NB325_332.out _).trans (((cell_far (p := ⟨gb332, _, none⟩) NB325_332.out _).trans (hHeld.2.2.2.2.2.2.1)))), ((cell_far (p := ⟨gb332, _, none⟩) NB325_332.out _).trans (((cell_far (p := ⟨gb332, _, none⟩) NB325_332.out _).trans (hHeld.2.2.2.2.2.2.2.1)))), ((cell_far (p := ⟨gb332, _, none⟩) NB325_332.out _).trans (((cell_far (p := ⟨gb332, _, none⟩) NB325_332.out _).trans (hHeld.2.2.2.2.2.2.2.2.1)))), ((cell_far (p := ⟨gb332, _, none⟩) NB325_332.out _).trans (((cell_far (p := ⟨gb332, _, none⟩) NB325_332.out _).trans (hHeld.2.2.2.2.2.2.2.2.2))))⟩ (fun hHeld => ?_)
 clear hK K
 refine pure_ (i := 16) (N := some 11) (v := ?_) (a' := ?_) #[true, true, true, true, true, true, true, true, true, true, true, true, true, true, true, true, true] rfl rfl (any_of HT_.out (by kernel_rfl)) (fun _ _ _ h => h) (Or.inl ⟨by rfl, ?_⟩) ?_ ?_
 rotate_left
 ·intro w'
  go_simp
  with_reducible rfl
 rotate_left
 ·simp only [Act.put, List.setIfInBounds_toArray, List.set_cons_zero, List.set_cons_succ, i64_w, i32_w]
  rfl
 refine done_ (done_of HT_.out (by kernel_rfl)) ?_
 try go_wp2
 have n0_ : Aside0 (((((w19.setCell ⟨gb331, 0, none⟩ (.int .i64 t326)).setCell ⟨gb331, 1, none⟩ (.int .i64 t327)).setCell ⟨gb332, 0, none⟩ (.int .i64 t328)).setCell ⟨gb332, 1, none⟩ (.int .i64 t329)).heap[gb325]? = some (.cells #[.int .i64 a0_0, .slice A0_1 l0_1.length c0_1, .slice A0_2 l0_2.length c0_2, .int .i64 a0_3, .int .i64 a0_4, .int .i64 a0_5, .int .i64 a0_6, .int .i64 a0_7, .slice A0_8 l0_8.length c0_8, .int .i64 a0_9] 45 (0, 0))) := ⟨by (with_reducible repeat (first | refine blk_drewN ?_ _ | refine blk_drew ?_ | refine blk_alloc ?_ _)); refine blk_far ?_ NB325_332.out _; (with_reducible repeat (first | refine blk_drewN ?_ _ | refine blk_drew ?_ | refine blk_alloc ?_ _)); refine blk_far ?_ NB325_332.out _; (with_reducible repeat (first | refine blk_drewN ?_ _ | refine blk_drew ?_ | refine blk_alloc ?_ _)); refine blk_far ?_ NB325_331.out _; (with_reducible repeat (first | refine blk_drewN ?_ _ | refine blk_drew ?_ | refine blk_alloc ?_ _)); refine blk_far ?_ NB325_331.out _; (with_reducible repeat (first | refine blk_drewN ?_ _ | refine blk_drew ?_ | refine blk_alloc ?_ _)); exact BK325.out⟩
 have n1_ : Aside0 (((((w19.setCell ⟨gb331, 0, none⟩ (.int .i64 t326)).setCell ⟨gb331, 1, none⟩ (.int .i64 t327)).setCell ⟨gb332, 0, none⟩ (.int .i64 t328)).setCell ⟨gb332, 1, none⟩ (.int .i64 t329)).heap[gb331]? = some (.cells #[.int .i64 t326, .int .i64 t327] 54 (0, 0))) := ⟨by (with_reducible repeat (first | refine blk_drewN ?_ _ | refine blk_drew ?_ | refine blk_alloc ?_ _)); refine blk_far ?_ NB331_332.out _; (with_reducible repeat (first | refine blk_drewN ?_ _ | refine blk_drew ?_ | refine blk_alloc ?_ _)); refine blk_far ?_ NB331_332.out _; (with_reducible repeat (first | refine blk_drewN ?_ _ | refine blk_drew ?_ | refine blk_alloc ?_ _)); refine blk_put (cs := #[.int .i64 t326, .int .i64 0]) ?_ 1 _ rfl; (with_reducible repeat (first | refine blk_drewN ?_ _ | refine blk_drew ?_ | refine blk_alloc ?_ _)); refine blk_put (cs := #[.int .i64 0, .int .i64 0]) ?_ 0 _ rfl; (with_reducible repeat (first | refine blk_drewN ?_ _ | refine blk_drew ?_ | refine blk_alloc ?_ _)); exact BK331.out⟩
 have n2_ : Aside0 (((((w19.setCell ⟨gb331, 0, none⟩ (.int .i64 t326)).setCell ⟨gb331, 1, none⟩ (.int .i64 t327)).setCell ⟨gb332, 0, none⟩ (.int .i64 t328)).setCell ⟨gb332, 1, none⟩ (.int .i64 t329)).heap[gb332]? = some (.cells #[.int .i64 t328, .int .i64 t329] 54 (0, 0))) := ⟨by (with_reducible repeat (first | refine blk_drewN ?_ _ | refine blk_drew ?_ | refine blk_alloc ?_ _)); refine blk_put (cs := #[.int .i64 t328, .int .i64 0]) ?_ 1 _ rfl; (with_reducible repeat (first | refine blk_drewN ?_ _ | refine blk_drew ?_ | refine blk_alloc ?_ _)); refine blk_put (cs := #[.int .i64 0, .int .i64 0]) ?_ 0 _ rfl; (with_reducible repeat (first | refine blk_drewN ?_ _ | refine blk_drew ?_ | refine blk_alloc ?_ _)); refine blk_far ?_ NB332_331.out _; (with_reducible repeat (first | refine blk_drewN ?_ _ | refine blk_drew ?_ | refine blk_alloc ?_ _)); refine blk_far ?_ NB332_331.out _; (with_reducible repeat (first | refine blk_drewN ?_ _ | refine blk_drew ?_ | refine blk_alloc ?_ _)); exact BK332.out⟩
 have n3_ : Aside0 (Below w.heap.size w ((((w19.setCell ⟨gb331, 0, none⟩ (.int .i64 t326)).setCell ⟨gb331, 1, none⟩ (.int .i64 t327)).setCell ⟨gb332, 0, none⟩ (.int .i64 t328)).setCell ⟨gb332, 1, none⟩ (.int .i64 t329))) := ⟨by repeat (first | (with_reducible first | exact HB.out | apply below_alloc | apply pw_below_drewN | apply below_drew1 | refine below_set ?_ GE325.out | refine below_set ?_ GE331.out | refine below_set ?_ GE332.out) | exact HB.out)⟩
 (try clear BK325)
 (try clear BK331)
 (try clear BK332)
 (try clear HB)
 generalize ((((w19.setCell ⟨gb331, 0, none⟩ (.int .i64 t326)).setCell ⟨gb331, 1, none⟩ (.int .i64 t327)).setCell ⟨gb332, 0, none⟩ (.int .i64 t328)).setCell ⟨gb332, 1, none⟩ (.int .i64 t329)) = w24 at n0_ n1_ n2_ n3_ ⊢
 have BK325 := n0_
 have BK331 := n1_
 have BK332 := n2_
 have HB := n3_
 clear n0_ n1_ n2_ n3_
 have n0_ := Aside0.mk (blk_drew BK325.out)
 have n1_ := Aside0.mk (blk_drew BK331.out)
 have n2_ := Aside0.mk (blk_drew BK332.out)
 have n3_ := Aside0.mk (below_drew1 HB.out)
 clear BK325
 clear BK331
 clear BK332
 clear HB
 have BK325 := n0_
 have BK331 := n1_
 have BK332 := n2_
 have HB := n3_
 clear n0_ n1_ n2_ n3_
 refine start_ (n := 13) (S := fun w' => w'.cell? ⟨gb331, 0, none⟩ = some (.int .i64 t326) ∧ w'.cell? ⟨gb331, 1, none⟩ = some (.int .i64 t327) ∧ w'.cell? ⟨gb332, 0, none⟩ = some (.int .i64 t328) ∧ w'.cell? ⟨gb332, 1, none⟩ = some (.int .i64 t329)) (ds := []) #[false, false, false, false, false, false, false, false, false, false, false, false, false] (by kernel_rfl) rfl rfl ⟨(blk_cell BK331.out 0).trans rfl, (blk_cell BK331.out 1).trans rfl, (blk_cell BK332.out 0).trans rfl, (blk_cell BK332.out 1).trans rfl⟩ (fun hHeld => ?_); refine with_tabW impl_SightAt.tab2 impl_SightAt.bits2 (fun HT_ HW_ => ?_)
 generalize w24.drew = w25 at BK325 BK331 BK332 HB hHeld ⊢
 refine pure_ (i := 5) (N := some 31) (v := ?_) (a' := ?_) #[false, false, false, false, false, true, false, false, false, false, false, false, false] rfl rfl (any_of HT_.out (by kernel_rfl)) (fun _ _ _ h => h) (Or.inl ⟨by rfl, ?_⟩) ?_ ?_
 rotate_left
 ·intro w'
  go_simp
  with_reducible rfl
 rotate_left
 ·simp only [Act.put, List.setIfInBounds_toArray, List.set_cons_zero, List.set_cons_succ, i64_w, i32_w]
  rfl
 refine pure_ (i := 7) (N := some 33) (v := ?_) (a' := ?_) #[false, false, false, false, false, true, false, true, false, false, false, false, false] rfl rfl (any_of HT_.out (by kernel_rfl)) (fun _ _ _ h => h) (Or.inl ⟨by rfl, ?_⟩) ?_ ?_
 rotate_left
 ·intro w'
  go_simp
  with_reducible rfl
 rotate_left
 ·simp only [Act.put, List.setIfInBounds_toArray, List.set_cons_zero, List.set_cons_succ, i64_w, i32_w]
  rfl
 refine take_ (i := 0) (N := some 26) (v := ?_) (a' := ?_) #[true, false, false, false, false, true, false, true, false, false, false, false, false] rfl rfl (take_ofW HT_.out HW_.out (by kernel_rfl)) (fun _ _ _ h => h) (Or.inl ⟨by rfl, ?_⟩) hHeld ?_ ?_
 rotate_left
 ·rintro w' ⟨s0, s1, s2, s3⟩
  go_simp
  with_reducible rfl
 rotate_left
 ·simp only [Act.put, List.setIfInBounds_toArray, List.set_cons_zero, List.set_cons_succ, i64_w, i32_w]
  rfl
 refine take_ (i := 2) (N := some 28) (v := ?_) (a' := ?_) #[true, false, true, false, false, true, false, true, false, false, false, false, false] rfl rfl (take_ofW HT_.out HW_.out (by kernel_rfl)) (fun _ _ _ h => h) (Or.inl ⟨by rfl, ?_⟩) hHeld ?_ ?_
 rotate_left
 ·rintro w' ⟨s0, s1, s2, s3⟩
  go_simp
  with_reducible rfl
 rotate_left
 ·simp only [Act.put, List.setIfInBounds_toArray, List.set_cons_zero, List.set_cons_succ, i64_w, i32_w]
  rfl
 refine take_ (i := 6) (N := some 32) (v := ?_) (a' := ?_) #[true, false, true, false, false, true, true, true, false, false, false, false, false] rfl rfl (take_ofW HT_.out HW_.out (by kernel_rfl)) (fun _ _ _ h => h) (Or.inl ⟨by rfl, ?_⟩) hHeld ?_ ?_
 rotate_left
 ·rintro w' ⟨s0, s1, s2, s3⟩
  go_simp
  with_reducible rfl
 rotate_left
 ·simp only [Act.put, List.setIfInBounds_toArray, List.set_cons_zero, List.set_cons_succ, i64_w, i32_w]
  rfl
 refine take_ (i := 8) (N := some 34) (v := ?_) (a' := ?_) #[true, false, true, false, false, true, true, true, true, false, false, false, false] rfl rfl (take_ofW HT_.out HW_.out (by kernel_rfl)) (fun _ _ _ h => h) (Or.inl ⟨by rfl, ?_⟩) hHeld ?_ ?_
 rotate_left
 ·rintro w' ⟨s0, s1, s2, s3⟩
  go_simp
  with_reducible rfl
 rotate_left
 ·simp only [Act.put, List.setIfInBounds_toArray, List.set_cons_zero, List.set_cons_succ, i64_w, i32_w]
  rfl
 refine pure_ (i := 9) (N := some 35) (v := ?_) (a' := ?_) #[true, false, true, false, false, true, true, true, true, true, false, false, false] rfl rfl (any_of HT_.out (by kernel_rfl)) (fun _ _ _ h => h) (Or.inl ⟨by rfl, ?_⟩) ?_ ?_
 rotate_left
 ·intro w'
  go_simp
  with_reducible rfl
 rotate_left
 ·simp only [Act.put, List.setIfInBounds_toArray, List.set_cons_zero, List.set_cons_succ, i64_w, i32_w]
  rfl
 refine pure_ (i := 10) (N := some 36) (v := ?_) (a' := ?_) #[true, false, true, false, false, true, true, true, true, true, true, false, false] rfl rfl (any_of HT_.out (by kernel_rfl)) (fun _ _ _ h => h) (Or.inl ⟨by rfl, ?_⟩) ?_ ?_
 rotate_left
 ·intro w'
  go_simp
  with_reducible rfl
 rotate_left
 ·simp only [Act.put, List.setIfInBounds_toArray, List.set_cons_zero, List.set_cons_succ, i64_w, i32_w]
  rfl
 refine one_ (i := 1) (N := some 27) #[true, true, true, false, false, true, true, true, true, true, true, false, false] rfl rfl (one_of HT_.out (by kernel_rfl)) (by decide) (fun K hK => ?_)
 refine goes_ Try.func86 (by kernel_rfl) rfl #[.agg #[.int .i64 t326, .int .i64 t327]] (by rfl) rfl rfl mp_ ?_
 with_reducible refine (impl_MiddleOf.calls t326 t327 t333 _ A8.out).mono ?_
 rintro e w26 ⟨rfl, hb⟩
 refine ⟨_, rfl, ?_⟩
 have n0_ := Aside0.mk (blk_below (bk_ BK325) hb)
 have n1_ := Aside0.mk (blk_below (bk_ BK331) hb)
 have n2_ := Aside0.mk (blk_below (bk_ BK332) hb)
 have n3_ := Aside0.mk (below_step (bl3_ HB GE325 GE331 GE332) hb)
 clear BK325
 clear BK331
 clear BK332
 clear HB
 have BK325 := n0_
 have BK331 := n1_
 have BK332 := n2_
 have HB := n3_
 clear n0_ n1_ n2_ n3_
 (try clear hb)
 (try clear hb2)
 (try clear hk)
 (try clear hi)
 refine hK.out _ _ ⟨(blk_cell BK331.out 0).trans rfl, (blk_cell BK331.out 1).trans rfl, (blk_cell BK332.out 0).trans rfl, (blk_cell BK332.out 1).trans rfl⟩ (fun hHeld => ?_)
 clear hK K
 refine norm_ (a' := ?_) ?_ ?_
 rotate_left
 ·show Act.put _ (some 27) _ = _
  simp only [Act.put, List.setIfInBounds_toArray, List.set_cons_zero, List.set_cons_succ, i64_w, i32_w]
  rfl
 refine one_ (i := 3) (N := some 29) #[true, true, true, true, false, true, true, true, true, true, true, false, false] rfl rfl (one_of HT_.out (by kernel_rfl)) (by decide) (fun K hK => ?_)
 refine goes_ Try.func86 (by kernel_rfl) rfl #[.agg #[.int .i64 t328, .int .i64 t329]] (by rfl) rfl rfl mp_ ?_
 with_reducible refine (impl_MiddleOf.calls t328 t329 t334 _ A9.out).mono ?_
 rintro e w27 ⟨rfl, hb⟩
 refine ⟨_, rfl, ?_⟩
 have n0_ := Aside0.mk (blk_below (bk_ BK325) hb)
 have n1_ := Aside0.mk (blk_below (bk_ BK331) hb)
 have n2_ := Aside0.mk (blk_below (bk_ BK332) hb)
 have n3_ := Aside0.mk (below_step (bl3_ HB GE325 GE331 GE332) hb)
 clear BK325
 clear BK331
 clear BK332
 clear HB
 have BK325 := n0_
 have BK331 := n1_
 have BK332 := n2_
 have HB := n3_
 clear n0_ n1_ n2_ n3_
 (try clear hb)
 (try clear hb2)
 (try clear hk)
 (try clear hi)
 refine hK.out _ _ ⟨(blk_cell BK331.out 0).trans rfl, (blk_cell BK331.out 1).trans rfl, (blk_cell BK332.out 0).trans rfl, (blk_cell BK332.out 1).trans rfl⟩ (fun hHeld => ?_)
 clear hK K
 refine norm_ (a' := ?_) ?_ ?_
 rotate_left
 ·show Act.put _ (some 29) _ = _
  simp only [Act.put, List.setIfInBounds_toArray, List.set_cons_zero, List.set_cons_succ, i64_w, i32_w]
  rfl
 refine one_ (i := 4) (N := some 30) #[true, true, true, true, true, true, true, true, true, true, true, false, false] rfl rfl (one_of HT_.out (by kernel_rfl)) (by decide) (fun K hK => ?_)
 refine goes_ Try.func85 (by kernel_rfl) rfl #[.int .i64 t333, .int .i64 t334] (by rfl) rfl rfl mp_ ?_
 with_reducible refine (impl_GapOf.calls t333 t334 t335 _ A10.out).mono ?_
 rintro e w28 ⟨rfl, hb⟩
 refine ⟨_, rfl, ?_⟩
 have n0_ := Aside0.mk (blk_below (bk_ BK325) hb)
 have n1_ := Aside0.mk (blk_below (bk_ BK331) hb)
 have n2_ := Aside0.mk (blk_below (bk_ BK332) hb)
 have n3_ := Aside0.mk (below_step (bl3_ HB GE325 GE331 GE332) hb)
 clear BK325
 clear BK331
 clear BK332
 clear HB
 have BK325 := n0_
 have BK331 := n1_
 have BK332 := n2_
 have HB := n3_
 clear n0_ n1_ n2_ n3_
 (try clear hb)
 (try clear hb2)
 (try clear hk)
 (try clear hi)
 refine hK.out _ _ ⟨(blk_cell BK331.out 0).trans rfl, (blk_cell BK331.out 1).trans rfl, (blk_cell BK332.out 0).trans rfl, (blk_cell BK332.out 1).trans rfl⟩ (fun hHeld => ?_)
 clear hK K
 refine norm_ (a' := ?_) ?_ ?_
 rotate_left
 ·show Act.put _ (some 30) _ = _
  simp only [Act.put, List.setIfInBounds_toArray, List.set_cons_zero, List.set_cons_succ, i64_w, i32_w]
  rfl
 refine pure_ (i := 11) (N := some 12) (v := ?_) (a' := ?_) #[true, true, true, true, true, true, true, true, true, true, true, true, false] rfl rfl (any_of HT_.out (by kernel_rfl)) (fun _ _ _ h => h) (Or.inl ⟨by rfl, ?_⟩) ?_ ?_
 rotate_left
 ·intro w'
  go_simp
  with_reducible rfl
 rotate_left
 ·simp only [Act.put, List.setIfInBounds_toArray, List.set_cons_zero, List.set_cons_succ, i64_w, i32_w]
  rfl
 refine pure_ (i := 12) (N := some 13) (v := ?_) (a' := ?_) #[true, true, true, true, true, true, true, true, true, true, true, true, true] rfl rfl (any_of HT_.out (by kernel_rfl)) (fun _ _ _ h => h) (Or.inl ⟨by rfl, ?_⟩) ?_ ?_
 rotate_left
 ·intro w'
  go_simp
  with_reducible rfl
 rotate_left
 ·simp only [Act.put, List.setIfInBounds_toArray, List.set_cons_zero, List.set_cons_succ, i64_w, i32_w]
  rfl
 refine done_ (done_of HT_.out (by kernel_rfl)) ?_
 go_upto_region 3 with (fail)
 go_cut [37] (fun v37 wc => ∃ (kq : Nat) (x37_10 : Bool), v37 = .bool x37_10 ∧ Aside0 (impl_SightAt.j0 kq t330 t335 (wrap64 (Int.tdiv (wrap64 (t327 + t329)) 2)) x37_10 = some r) ∧ Aside0 (kq ≤ k) ∧ Aside0 (wc.heap[gb325]? = some (.cells #[.int .i64 a0_0, (.slice A0_1 l0_1.length c0_1), (.slice A0_2 l0_2.length c0_2), .int .i64 a0_3, .int .i64 a0_4, .int .i64 a0_5, .int .i64 a0_6, .int .i64 a0_7, (.slice A0_8 l0_8.length c0_8), .int .i64 a0_9] 45 (0, 0))) ∧ Aside0 (wc.heap[gb331]? = some (.cells #[.int .i64 t326, .int .i64 t327] 54 (0, 0))) ∧ Aside0 (wc.heap[gb332]? = some (.cells #[.int .i64 t328, .int .i64 t329] 54 (0, 0))) ∧ Aside0 (Below w.heap.size w wc))
 case first =>
  have H := HC11.out
  clear HC11
  by_cases c29 : t330 < 0
  ·rw [if_pos c29] at H
   have c29b0 : decide (t330 < 0) = true := decide_eq_true c29
   clear c29
   (first | rw [c29b0] | (simp only [i64_w, i32_w]; rw [c29b0]) | skip)
   have H' := Aside0.mk H
   clear H
   go_wp2
   go_meet
   case rel => exact ⟨_, (true), (by first | rfl | (simp; done) | (simp [*]; done)), H', ⟨by first | omega | exact Nat.le_refl _⟩, ⟨by (with_reducible repeat (first | refine blk_drewN ?_ _ | refine blk_drew ?_ | refine blk_alloc ?_ _)); exact BK325.out⟩, ⟨by (with_reducible repeat (first | refine blk_drewN ?_ _ | refine blk_drew ?_ | refine blk_alloc ?_ _)); exact BK331.out⟩, ⟨by (with_reducible repeat (first | refine blk_drewN ?_ _ | refine blk_drew ?_ | refine blk_alloc ?_ _)); exact BK332.out⟩, ⟨by repeat (first | (with_reducible first | exact HB.out | apply below_alloc | apply pw_below_drewN | apply below_drew1 | refine below_set ?_ GE325.out | refine below_set ?_ GE331.out | refine below_set ?_ GE332.out) | exact HB.out)⟩⟩
  ·rw [if_neg c29] at H
   have c29b0 : decide (t330 < 0) = false := decide_eq_false c29
   clear c29
   (first | rw [c29b0] | (simp only [i64_w, i32_w]; rw [c29b0]) | skip)
   have H' := Aside0.mk H
   clear H
   go_wp2
   go_meet
   case rel => exact ⟨_, (decide ((wrap64 (t335 - (wrap64 (Int.tdiv (wrap64 (t327 + t329)) 2)))) > t330)), (by first | rfl | (simp; done) | (simp [*]; done)), H', ⟨by first | omega | exact Nat.le_refl _⟩, ⟨by (with_reducible repeat (first | refine blk_drewN ?_ _ | refine blk_drew ?_ | refine blk_alloc ?_ _)); exact BK325.out⟩, ⟨by (with_reducible repeat (first | refine blk_drewN ?_ _ | refine blk_drew ?_ | refine blk_alloc ?_ _)); exact BK331.out⟩, ⟨by (with_reducible repeat (first | refine blk_drewN ?_ _ | refine blk_drew ?_ | refine blk_alloc ?_ _)); exact BK332.out⟩, ⟨by repeat (first | (with_reducible first | exact HB.out | apply below_alloc | apply pw_below_drewN | apply below_drew1 | refine below_set ?_ GE325.out | refine below_set ?_ GE331.out | refine below_set ?_ GE332.out) | exact HB.out)⟩⟩
 case rest =>
  clear HC11
  try clear c2
  try clear p2
  try clear c3
  try clear p6
  try clear c8
  try clear c29
  try clear c29b0
  obtain ⟨kq, x37_10, rfl, HA, HJ10, BK325, BK331, BK332, HB⟩ := hcut
  cases kq with
  | zero => exact absurd HA.out (by simp [impl_SightAt.j0])
  | succ kj10 =>
   have H := HA.out
   clear HA
   simp only [impl_SightAt.j0] at H
   by_cases c30 : x37_10 = true
   ·subst c30
    have H1 : (some 0) = some r := by rw [if_pos rfl] at H; exact H
    clear H
    have H := H1
    clear H1
    obtain rfl := Option.some.inj H
    go_wp2
    go_ret
    exact ⟨by first | rfl | (simp [errW_none, errW_some] <;> rfl) | (simp [*, errW_none, errW_some] <;> rfl), by repeat (first | (with_reducible first | exact HB.out | apply below_alloc | apply pw_below_drewN | apply below_drew1 | refine below_set ?_ GE325.out | refine below_set ?_ GE331.out | refine below_set ?_ GE332.out) | exact HB.out)⟩
   ·replace c30 := Bool.eq_false_iff.mpr c30
    subst c30
    have H1 : (if (wrap64 (t335 + (wrap64 (Int.tdiv (wrap64 (t327 + t329)) 2)))) ≤ t330 then (some 2) else (some 1)) = some r := by rw [if_neg (show ¬ (false = true) by decide)] at H; exact H
    clear H
    have H := H1
    clear H1
    by_cases c31 : (wrap64 (t335 + (wrap64 (Int.tdiv (wrap64 (t327 + t329)) 2)))) ≤ t330
    ·rw [if_pos c31] at H
     have c31b0 : decide ((wrap64 (t335 + (wrap64 (Int.tdiv (wrap64 (t327 + t329)) 2)))) ≤ t330) = true := decide_eq_true c31
     clear c31
     obtain rfl := Option.some.inj H
     go_wp2
     go_ret
     exact ⟨by first | rfl | (simp [errW_none, errW_some] <;> rfl) | (simp [*, errW_none, errW_some] <;> rfl), by repeat (first | (with_reducible first | exact HB.out | apply below_alloc | apply pw_below_drewN | apply below_drew1 | refine below_set ?_ GE325.out | refine below_set ?_ GE331.out | refine below_set ?_ GE332.out) | exact HB.out)⟩
    ·rw [if_neg c31] at H
     have c31b0 : decide ((wrap64 (t335 + (wrap64 (Int.tdiv (wrap64 (t327 + t329)) 2)))) ≤ t330) = false := decide_eq_false c31
     clear c31
     obtain rfl := Option.some.inj H
     go_wp2
     go_ret
     exact ⟨by first | rfl | (simp [errW_none, errW_some] <;> rfl) | (simp [*, errW_none, errW_some] <;> rfl), by repeat (first | (with_reducible first | exact HB.out | apply below_alloc | apply pw_below_drewN | apply below_drew1 | refine below_set ?_ GE325.out | refine below_set ?_ GE331.out | refine below_set ?_ GE332.out) | exact HB.out)⟩

end Go.Proofs.Ytflngcegkhgocaa.PFnExactSightAt
