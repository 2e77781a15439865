-- Written by a program of this session for this claim (the kit's printer with changes).
import Derived.Test.YtikklalaggkdoaaQFnExactQuietSpansx0
import Derived.Test.YtikklalaggkdoaaQFnExactQuietSpansx4
namespace Go.Proofs.Ytikklalaggkdoaa.PFnExactQuietSpans
open Go.RowKit Go.Proofs.YtikklalaggkdoaaW.PrintWords Go.Proofs.YtikklalaggkdoaaW.PrintLast Go.Proofs.YtikklalaggkdoaaW.PrintMore
attribute [local go_sem] max2_int min2_int max_two min_two max_three min_three max_four min_four   -- for this text's walks alone
set_option linter.unusedVariables false
set_option linter.unusedSimpArgs false

/-! ### impl_IsSite: function 89 -/
def impl_IsSite.f (a0_0 : Int) (l0_1 : List (S71)) (l0_2 : List (S75)) (a0_3 : Int) (a0_4 : Int) (a0_5 : Int) (a0_6 : Int) (a0_7 : Int) (l0_8 : List (S81)) (a0_9 : Int) (a1 : Int) : Option (Bool) := (impl_NodesOf.f a0_0 l0_1 l0_2 a0_3 a0_4 a0_5 a0_6 a0_7 l0_8 a0_9).bind fun t296 => ((impl_InRange.f a1 (l0_1.length : Int) (wrap64 (t296 - 1))).bind fun t297 => (some t297))
def impl_IsSite.T1 : Bool × List (List Nat × List Nat) := (true, [([], []), ([], []), ([1], [1]), ([2], [2]), ([], []), ([4], [4]), ([5], [5]), ([0, 3, 6, 5], [0, 3, 6]), ([7, 7, 0, 1, 2, 3, 4, 5, 6, 7], [7])])
def impl_IsSite.B1 : List Nat := [0, 0, 2, 6, 0, 16, 48, 127, 255]
theorem impl_IsSite.tab1 : rtab .any (opsOf Try.f89 1) = impl_IsSite.T1 := by kernel_rfl
theorem impl_IsSite.bits1 : waitsOk impl_IsSite.T1.2 impl_IsSite.B1 = true := by kernel_rfl
set_option maxHeartbeats 8000000 in
set_option maxRecDepth 100000 in
theorem impl_IsSite.calls (a0_0 : Int) (A0_1 : Option Addr) (c0_1 : Nat) (l0_1 : List (S71)) (A0_2 : Option Addr) (c0_2 : Nat) (l0_2 : List (S75)) (a0_3 : Int) (a0_4 : Int) (a0_5 : Int) (a0_6 : Int) (a0_7 : Int) (A0_8 : Option Addr) (c0_8 : Nat) (l0_8 : List (S81)) (a0_9 : Int) (a1 : Int) (r : Bool) (w : World) (hr0_1 : Kd.C k71 w A0_1 l0_1.length l0_1) (hc0_1 : l0_1.length ≤ c0_1) (hr0_2 : Kd.C k75 w A0_2 l0_2.length l0_2) (hc0_2 : l0_2.length ≤ c0_2) (hr0_8 : Kd.C k81 w A0_8 l0_8.length l0_8) (hc0_8 : l0_8.length ≤ c0_8) (h : impl_IsSite.f a0_0 l0_1 l0_2 a0_3 a0_4 a0_5 a0_6 a0_7 l0_8 a0_9 a1 = some r) :
  Calls Try.prog 89 #[.agg #[.int .i64 a0_0, .slice A0_1 l0_1.length c0_1, .slice A0_2 l0_2.length c0_2, .int .i64 a0_3, .int .i64 a0_4, .int .i64 a0_5, .int .i64 a0_6, .int .i64 a0_7, .slice A0_8 l0_8.length c0_8, .int .i64 a0_9], .int .i64 a1] w fun e w' => e = .returned (.bool r) ∧ Below w.heap.size w w' := by
 have hu33 := Try.underlying33
 have HR0_1 := Aside0.mk hr0_1
 have HC0_1 := Aside0.mk hc0_1
 clear hr0_1 hc0_1
 have HR0_2 := Aside0.mk hr0_2
 have HC0_2 := Aside0.mk hc0_2
 clear hr0_2 hc0_2
 have HR0_8 := Aside0.mk hr0_8
 have HC0_8 := Aside0.mk hc0_8
 clear hr0_8 hc0_8
 have HB := Aside0.mk (Below.refl w.heap.size w)
 have H := h
 clear h
 unfold impl_IsSite.f at H
 replace H := Option.bind_eq_some_iff.mp H
 obtain ⟨t296, A30, H⟩ := H
 have A3 := Aside0.mk A30
 clear A30
 replace H := Option.bind_eq_some_iff.mp H
 obtain ⟨t297, A40, H⟩ := H
 have A4 := Aside0.mk A40
 clear A40
 obtain rfl := Option.some.inj H
 go_enter Try.func89, Try.ntmps89
 try go_wp2_with (first | ((with_reducible refine gate_dst (N := 2) rfl ?_); refine box_event ?hg (N := 2) ?hd (cs := #[.int .i64 a0_0, .slice A0_1 l0_1.length c0_1, .slice A0_2 l0_2.length c0_2, .int .i64 a0_3, .int .i64 a0_4, .int .i64 a0_5, .int .i64 a0_6, .int .i64 a0_7, .slice A0_8 l0_8.length c0_8, .int .i64 a0_9]) (t := 33) ?hr ?_; (case hd => rfl); (case hg => rfl); (case hr => first | (go_simp; done) | (go_simp; rfl)); intro gb295 hg w5 hbox hb; have n0_ := Aside0.mk (below_step (bl_ HB) hb); have n1_ := Aside0.mk (hbox); have n2_ := Aside0.mk ((by rw [hg]; exact (below_size (bl_ HB)) : w.heap.size ≤ gb295)); have n3_ := Aside0.mk ((by rw [hg]; exact (below_size (bl_ HB)) : w.heap.size ≤ gb295)); clear HB; have HB := n0_; have BK295 := n1_; have GW295 := n2_; have GE295 := n3_; clear n0_ n1_ n2_ n3_; clear hb hbox hg))
 have n0_ := Aside0.mk (blk_drew BK295.out)
 have n1_ := Aside0.mk (below_drew1 HB.out)
 clear BK295
 clear HB
 have BK295 := n0_
 have HB := n1_
 clear n0_ n1_
 refine start_ (n := 9) (S := fun w' => w'.cell? ⟨gb295, 0, none⟩ = some (.int .i64 a0_0) ∧ w'.cell? ⟨gb295, 1, none⟩ = some (.slice A0_1 l0_1.length c0_1) ∧ w'.cell? ⟨gb295, 2, none⟩ = some (.slice A0_2 l0_2.length c0_2) ∧ w'.cell? ⟨gb295, 3, none⟩ = some (.int .i64 a0_3) ∧ w'.cell? ⟨gb295, 4, none⟩ = some (.int .i64 a0_4) ∧ w'.cell? ⟨gb295, 5, none⟩ = some (.int .i64 a0_5) ∧ w'.cell? ⟨gb295, 6, none⟩ = some (.int .i64 a0_6) ∧ w'.cell? ⟨gb295, 7, none⟩ = some (.int .i64 a0_7) ∧ w'.cell? ⟨gb295, 8, none⟩ = some (.slice A0_8 l0_8.length c0_8) ∧ w'.cell? ⟨gb295, 9, none⟩ = some (.int .i64 a0_9)) (ds := []) #[false, false, false, false, false, false, false, false, false] (by kernel_rfl) rfl rfl ⟨(bc_ BK295 0 rfl), (bc_ BK295 1 rfl), (bc_ BK295 2 rfl), (bc_ BK295 3 rfl), (bc_ BK295 4 rfl), (bc_ BK295 5 rfl), (bc_ BK295 6 rfl), (bc_ BK295 7 rfl), (bc_ BK295 8 rfl), (bc_ BK295 9 rfl)⟩ (fun hHeld => ?_); refine with_tabW impl_IsSite.tab1 impl_IsSite.bits1 (fun HT_ HW_ => ?_)
 generalize w5.drew = w6 at BK295 HB hHeld ⊢
 refine pure_ (i := 0) (N := some 5) (v := ?_) (a' := ?_) #[true, false, false, false, false, false, false, false, false] rfl rfl (any_of HT_.out (by kernel_rfl)) (fun _ _ _ h => h) (Or.inl ⟨by rfl, ?_⟩) ?_ ?_
 rotate_left
 ·intro w'
  go_simp
  with_reducible rfl
 rotate_left
 ·simp only [Act.put, List.setIfInBounds_toArray, List.set_cons_zero, List.set_cons_succ, i64_w, i32_w]
  rfl
 refine pure_ (i := 1) (N := some 6) (v := ?_) (a' := ?_) #[true, true, false, false, false, false, false, false, false] rfl rfl (any_of HT_.out (by kernel_rfl)) (fun _ _ _ h => h) (Or.inl ⟨by rfl, ?_⟩) ?_ ?_
 rotate_left
 ·intro w'
  go_simp
  with_reducible rfl
 rotate_left
 ·simp only [Act.put, List.setIfInBounds_toArray, List.set_cons_zero, List.set_cons_succ, i64_w, i32_w]
  rfl
 refine take_ (i := 2) (N := some 7) (v := ?_) (a' := ?_) #[true, true, true, false, false, false, false, false, false] rfl rfl (take_ofW HT_.out HW_.out (by kernel_rfl)) (fun _ _ _ h => h) (Or.inl ⟨by rfl, ?_⟩) hHeld ?_ ?_
 rotate_left
 ·rintro w' ⟨s0, s1, s2, s3, s4, s5, s6, s7, s8, s9⟩
  go_simp
  with_reducible rfl
 rotate_left
 ·simp only [Act.put, List.setIfInBounds_toArray, List.set_cons_zero, List.set_cons_succ, i64_w, i32_w]
  rfl
 refine pure_ (i := 3) (N := some 8) (v := ?_) (a' := ?_) #[true, true, true, true, false, false, false, false, false] rfl rfl (any_of HT_.out (by kernel_rfl)) (fun _ _ _ h => h) (Or.inl ⟨by rfl, ?_⟩) ?_ ?_
 rotate_left
 ·intro w'
  go_simp
  with_reducible rfl
 rotate_left
 ·simp only [Act.put, List.setIfInBounds_toArray, List.set_cons_zero, List.set_cons_succ, i64_w, i32_w]
  rfl
 refine take_ (i := 4) (N := some 9) (v := ?_) (a' := ?_) #[true, true, true, true, true, false, false, false, false] rfl rfl (take_ofW HT_.out HW_.out (by kernel_rfl)) (fun _ _ _ h => h) (Or.inl ⟨by rfl, ?_⟩) hHeld ?_ ?_
 rotate_left
 ·rintro w' ⟨s0, s1, s2, s3, s4, s5, s6, s7, s8, s9⟩
  go_simp
  with_reducible rfl
 rotate_left
 ·simp only [Act.put, List.setIfInBounds_toArray, List.set_cons_zero, List.set_cons_succ, i64_w, i32_w]
  rfl
 refine one_ (i := 5) (N := some 10) #[true, true, true, true, true, true, false, false, false] rfl rfl (one_of HT_.out (by kernel_rfl)) (by decide) (fun K hK => ?_)
 refine goes_ Try.func105 (by kernel_rfl) rfl #[.agg #[.int .i64 a0_0, .slice A0_1 l0_1.length c0_1, .slice A0_2 l0_2.length c0_2, .int .i64 a0_3, .int .i64 a0_4, .int .i64 a0_5, .int .i64 a0_6, .int .i64 a0_7, .slice A0_8 l0_8.length c0_8, .int .i64 a0_9]] (by rfl) rfl rfl mp_ ?_
 with_reducible refine (impl_NodesOf.calls a0_0 _ _ l0_1 _ _ l0_2 a0_3 a0_4 a0_5 a0_6 a0_7 _ _ l0_8 a0_9 t296 _ ?side1 ?side2 ?side3 ?side4 ?side5 ?side6 A3.out).mono ?_
 (case side1 => exact ck_ HR0_1 HB)
 (case side2 => exact HC0_1.out)
 (case side3 => exact ck_ HR0_2 HB)
 (case side4 => exact HC0_2.out)
 (case side5 => exact ck_ HR0_8 HB)
 (case side6 => exact HC0_8.out)
 rintro e w7 ⟨rfl, hb⟩
 refine ⟨_, rfl, ?_⟩
 have n0_ := Aside0.mk (blk_below (bk_ BK295) hb)
 have n1_ := Aside0.mk (below_step (bl1_ HB GE295) hb)
 clear BK295
 clear HB
 have BK295 := n0_
 have HB := n1_
 clear n0_ n1_
 (try clear hb)
 (try clear hb2)
 (try clear hk)
 (try clear hi)
 refine hK.out _ _ ⟨(bc_ BK295 0 rfl), (bc_ BK295 1 rfl), (bc_ BK295 2 rfl), (bc_ BK295 3 rfl), (bc_ BK295 4 rfl), (bc_ BK295 5 rfl), (bc_ BK295 6 rfl), (bc_ BK295 7 rfl), (bc_ BK295 8 rfl), (bc_ BK295 9 rfl)⟩ (fun hHeld => ?_)
 clear hK K
 refine norm_ (a' := ?_) ?_ ?_
 rotate_left
 ·show Act.put _ (some 10) _ = _
  simp only [Act.put, List.setIfInBounds_toArray, List.set_cons_zero, List.set_cons_succ, i64_w, i32_w]
  rfl
 refine pure_ (i := 6) (N := some 11) (v := ?_) (a' := ?_) #[true, true, true, true, true, true, true, false, false] rfl rfl (any_of HT_.out (by kernel_rfl)) (fun _ _ _ h => h) (Or.inl ⟨by rfl, ?_⟩) ?_ ?_
 rotate_left
 ·intro w'
  go_simp
  with_reducible rfl
 rotate_left
 ·simp only [Act.put, List.setIfInBounds_toArray, List.set_cons_zero, List.set_cons_succ, i64_w, i32_w]
  rfl
 refine one_ (i := 7) (N := some 12) #[true, true, true, true, true, true, true, true, false] rfl rfl (one_of HT_.out (by kernel_rfl)) (by decide) (fun K hK => ?_)
 refine goes_ Try.func87 (by kernel_rfl) rfl #[.int .i64 a1, .int .i64 (l0_1.length : Int), .int .i64 (wrap64 (t296 - 1))] (by rfl) rfl rfl mp_ ?_
 with_reducible refine (impl_InRange.calls a1 (l0_1.length : Int) (wrap64 (t296 - 1)) t297 _ A4.out).mono ?_
 rintro e w' ⟨rfl, ⟨nd, rfl⟩⟩
 refine ⟨_, rfl, ?_⟩
 refine hK.out _ _ ⟨(bc_ BK295 0 rfl), (bc_ BK295 1 rfl), (bc_ BK295 2 rfl), (bc_ BK295 3 rfl), (bc_ BK295 4 rfl), (bc_ BK295 5 rfl), (bc_ BK295 6 rfl), (bc_ BK295 7 rfl), (bc_ BK295 8 rfl), (bc_ BK295 9 rfl)⟩ (fun hHeld => ?_)
 clear hK K
 refine norm_ (a' := ?_) ?_ ?_
 rotate_left
 ·show Act.put _ (some 12) _ = _
  simp only [Act.put, List.setIfInBounds_toArray, List.set_cons_zero, List.set_cons_succ, i64_w, i32_w]
  rfl
 refine pure_ (i := 8) (N := some 4) (v := ?_) (a' := ?_) #[true, true, true, true, true, true, true, true, true] rfl rfl (any_of HT_.out (by kernel_rfl)) (fun _ _ _ h => h) (Or.inl ⟨by rfl, ?_⟩) ?_ ?_
 rotate_left
 ·intro w'
  go_simp
  with_reducible rfl
 rotate_left
 ·simp only [Act.put, List.setIfInBounds_toArray, List.set_cons_zero, List.set_cons_succ, i64_w, i32_w]
  rfl
 refine done_ (done_of HT_.out (by kernel_rfl)) ?_
 try go_wp2
 go_ret
 exact ⟨by first | rfl | (simp [errW_none, errW_some] <;> rfl) | (simp [*, errW_none, errW_some] <;> rfl), by repeat (first | (with_reducible first | exact HB.out | apply below_alloc | apply pw_below_drewN | apply below_drew1 | refine below_set ?_ GE295.out) | exact HB.out)⟩

/-! ### impl_NodeAt: function 69 -/
def impl_NodeAt.f (a0_0 : Int) (l0_1 : List (S71)) (l0_2 : List (S75)) (a0_3 : Int) (a0_4 : Int) (a0_5 : Int) (a0_6 : Int) (a0_7 : Int) (l0_8 : List (S81)) (a0_9 : Int) (a1 : Int) (a2 : Int) : Option (Int × Int) := (impl_isSatellite.f a0_0 l0_1 l0_2 a0_3 a0_4 a0_5 a0_6 a0_7 l0_8 a0_9 a1).bind fun t300 => (if t300 = true then (if 0 ≤ a1 then (if a1 < (l0_1.length : Int) then ((impl_PlacesAt.f ((rd_T71 l0_1 a1).f0) ((rd_T71 l0_1 a1).f1) ((rd_T71 l0_1 a1).f2) ((rd_T71 l0_1 a1).f3) a2).bind fun bt302 => (some (bt302.1, bt302.2))) else (none)) else (none)) else ((impl_IsSite.f a0_0 l0_1 l0_2 a0_3 a0_4 a0_5 a0_6 a0_7 l0_8 a0_9 a1).bind fun t304 => (if t304 = true then (if 0 ≤ (wrap64 (a1 - (l0_1.length : Int))) then (if (wrap64 (a1 - (l0_1.length : Int))) < (l0_2.length : Int) then ((impl_PlaceAt.f 0 ((rd_T75 l0_2 (wrap64 (a1 - (l0_1.length : Int)))).f1) ((rd_T75 l0_2 (wrap64 (a1 - (l0_1.length : Int)))).f2) 0 a2).bind fun t307 => (some (t307, 0))) else (none)) else (none)) else (some (0, 0)))))
set_option maxHeartbeats 8000000 in
set_option maxRecDepth 100000 in
theorem impl_NodeAt.calls (a0_0 : Int) (A0_1 : Option Addr) (c0_1 : Nat) (l0_1 : List (S71)) (A0_2 : Option Addr) (c0_2 : Nat) (l0_2 : List (S75)) (a0_3 : Int) (a0_4 : Int) (a0_5 : Int) (a0_6 : Int) (a0_7 : Int) (A0_8 : Option Addr) (c0_8 : Nat) (l0_8 : List (S81)) (a0_9 : Int) (a1 : Int) (a2 : Int) (r1 : Int) (r2 : Int) (w : World) (hr0_1 : Kd.C k71 w A0_1 l0_1.length l0_1) (hc0_1 : l0_1.length ≤ c0_1) (hr0_2 : Kd.C k75 w A0_2 l0_2.length l0_2) (hc0_2 : l0_2.length ≤ c0_2) (hr0_8 : Kd.C k81 w A0_8 l0_8.length l0_8) (hc0_8 : l0_8.length ≤ c0_8) (h : impl_NodeAt.f a0_0 l0_1 l0_2 a0_3 a0_4 a0_5 a0_6 a0_7 l0_8 a0_9 a1 a2 = some (r1, r2)) :
  Calls Try.prog 69 #[.agg #[.int .i64 a0_0, .slice A0_1 l0_1.length c0_1, .slice A0_2 l0_2.length c0_2, .int .i64 a0_3, .int .i64 a0_4, .int .i64 a0_5, .int .i64 a0_6, .int .i64 a0_7, .slice A0_8 l0_8.length c0_8, .int .i64 a0_9], .int .i64 a1, .int .i64 a2] w fun e w' => e = .returned (.agg #[.int .i64 r1, .int .i64 r2]) ∧ Below w.heap.size w w' := by
 have hu33 := Try.underlying33
 have hu79 := Try.underlying79
 have hu71 := Try.underlying71
 have hu75 := Try.underlying75
 have HR0_1 := Aside0.mk hr0_1
 have HC0_1 := Aside0.mk hc0_1
 clear hr0_1 hc0_1
 have HR0_2 := Aside0.mk hr0_2
 have HC0_2 := Aside0.mk hc0_2
 clear hr0_2 hc0_2
 have HR0_8 := Aside0.mk hr0_8
 have HC0_8 := Aside0.mk hc0_8
 clear hr0_8 hc0_8
 have HB := Aside0.mk (Below.refl w.heap.size w)
 have H := h
 clear h
 unfold impl_NodeAt.f at H
 replace H := Option.bind_eq_some_iff.mp H
 obtain ⟨t300, A40, H⟩ := H
 have A4 := Aside0.mk A40
 clear A40
 by_cases c5 : t300 = true
 ·subst c5
  have H1 : (if 0 ≤ a1 then (if a1 < (l0_1.length : Int) then ((impl_PlacesAt.f ((rd_T71 l0_1 a1).f0) ((rd_T71 l0_1 a1).f1) ((rd_T71 l0_1 a1).f2) ((rd_T71 l0_1 a1).f3) a2).bind fun bt302 => (some (bt302.1, bt302.2))) else (none)) else (none)) = some (r1, r2) := by rw [if_pos rfl] at H; exact H
  clear H
  have H := H1
  clear H1
  by_cases c6 : 0 ≤ a1
  ·rw [if_pos c6] at H
   have c6b0 : decide (0 ≤ a1) = true := decide_eq_true c6
   clear c6
   by_cases c7 : a1 < (l0_1.length : Int)
   ·rw [if_pos c7] at H
    have c7b0 : decide (a1 < (l0_1.length : Int)) = true := decide_eq_true c7
    clear c7
    replace H := Option.bind_eq_some_iff.mp H
    obtain ⟨⟨t302, t303⟩, A80, H⟩ := H
    replace H : (some (t302, t303)) = some (r1, r2) := H
    have A8 := Aside0.mk A80
    clear A80
    simp only [Option.some.injEq, Prod.mk.injEq] at H
    obtain ⟨rfl, rfl⟩ := H
    go_enter Try.func69, Try.ntmps69
    go_wp2_with (first | ((with_reducible refine gate_dst (N := 3) rfl ?_); refine box_event ?hg (N := 3) ?hd (cs := #[.int .i64 a0_0, .slice A0_1 l0_1.length c0_1, .slice A0_2 l0_2.length c0_2, .int .i64 a0_3, .int .i64 a0_4, .int .i64 a0_5, .int .i64 a0_6, .int .i64 a0_7, .slice A0_8 l0_8.length c0_8, .int .i64 a0_9]) (t := 33) ?hr ?_; (case hd => rfl); (case hg => rfl); (case hr => first | (go_simp; done) | (go_simp; rfl)); intro gb298 hg w9 hbox hb; have n0_ := Aside0.mk (below_step (bl_ HB) hb); have n1_ := Aside0.mk (hbox); have n2_ := Aside0.mk ((by rw [hg]; exact (below_size (bl_ HB)) : w.heap.size ≤ gb298)); have n3_ := Aside0.mk ((by rw [hg]; exact (below_size (bl_ HB)) : w.heap.size ≤ gb298)); clear HB; have HB := n0_; have BK298 := n1_; have GW298 := n2_; have GE298 := n3_; clear n0_ n1_ n2_ n3_; clear hb hbox hg) | ((with_reducible refine gate_dst (N := 6) rfl ?_); refine box_event ?hg (N := 6) ?hd (cs := #[.int .i64 0, .int .i64 0]) (t := 79) ?hr ?_; (case hd => rfl); (case hg => rfl); (case hr => first | (go_simp; done) | (go_simp; rfl)); intro gb299 hg w10 hbox hb; have n0_ := Aside0.mk (blk_below (bk_ BK298) hb); have n1_ := Aside0.mk (below_step (bl1_ HB GE298) hb); have n2_ := Aside0.mk (hbox); have n3_ := Aside0.mk ((by rw [hg]; exact (below_size (bl1_ HB GE298)) : w.heap.size ≤ gb299)); have n4_ := Aside0.mk ((by rw [hg]; exact (below_size (bl1_ HB GE298)) : w.heap.size ≤ gb299)); have n5_ := Aside0.mk ((by rw [hg]; exact Nat.ne_of_lt (blk_lt (bk_ BK298)) : gb298 ≠ gb299)); have n6_ := Aside0.mk ((by rw [hg]; exact Nat.ne_of_gt (blk_lt (bk_ BK298)) : gb299 ≠ gb298)); clear BK298; clear HB; have BK298 := n0_; have HB := n1_; have BK299 := n2_; have GW299 := n3_; have GE299 := n4_; have NB298_299 := n5_; have NB299_298 := n6_; clear n0_ n1_ n2_ n3_ n4_ n5_ n6_; clear hb hbox hg; have hnb11 := NB298_299.out; have hnc11 := NB299_298.out; have hcz12_0 : w10.cell? ⟨gb298, 0, none⟩ = some (.int .i64 a0_0) := bc_ BK298 0 rfl; have hcz12_1 : w10.cell? ⟨gb298, 1, none⟩ = some (.slice A0_1 l0_1.length c0_1) := bc_ BK298 1 rfl; have hcz12_2 : w10.cell? ⟨gb298, 2, none⟩ = some (.slice A0_2 l0_2.length c0_2) := bc_ BK298 2 rfl; have hcz12_3 : w10.cell? ⟨gb298, 3, none⟩ = some (.int .i64 a0_3) := bc_ BK298 3 rfl; have hcz12_4 : w10.cell? ⟨gb298, 4, none⟩ = some (.int .i64 a0_4) := bc_ BK298 4 rfl; have hcz12_5 : w10.cell? ⟨gb298, 5, none⟩ = some (.int .i64 a0_5) := bc_ BK298 5 rfl; have hcz12_6 : w10.cell? ⟨gb298, 6, none⟩ = some (.int .i64 a0_6) := bc_ BK298 6 rfl; have hcz12_7 : w10.cell? ⟨gb298, 7, none⟩ = some (.int .i64 a0_7) := bc_ BK298 7 rfl; have hcz12_8 : w10.cell? ⟨gb298, 8, none⟩ = some (.slice A0_8 l0_8.length c0_8) := bc_ BK298 8 rfl; have hcz12_9 : w10.cell? ⟨gb298, 9, none⟩ = some (.int .i64 a0_9) := bc_ BK298 9 rfl; have hfz12_0 := bf_ BK298 0; have hfz12_1 := bf_ BK298 1; have hfz12_2 := bf_ BK298 2; have hfz12_3 := bf_ BK298 3; have hfz12_4 := bf_ BK298 4; have hfz12_5 := bf_ BK298 5; have hfz12_6 := bf_ BK298 6; have hfz12_7 := bf_ BK298 7; have hfz12_8 := bf_ BK298 8; have hfz12_9 := bf_ BK298 9) | ((with_reducible refine gate_callee (f := 68) rfl ?_); refine goesL_ (some 11) rfl rfl Try.func68 (by kernel_rfl) rfl #[.agg #[.int .i64 a0_0, .slice A0_1 l0_1.length c0_1, .slice A0_2 l0_2.length c0_2, .int .i64 a0_3, .int .i64 a0_4, .int .i64 a0_5, .int .i64 a0_6, .int .i64 a0_7, .slice A0_8 l0_8.length c0_8, .int .i64 a0_9], .int .i64 a1] rfl mp_ ?_; (with_reducible refine (impl_isSatellite.calls a0_0 _ _ l0_1 _ _ l0_2 a0_3 a0_4 a0_5 a0_6 a0_7 _ _ l0_8 a0_9 a1 true _ ?side1 ?side2 ?side3 ?side4 ?side5 ?side6 A4.out).mono ?_); (case side1 => exact ck_ HR0_1 HB); (case side2 => exact HC0_1.out); (case side3 => exact ck_ HR0_2 HB); (case side4 => exact HC0_2.out); (case side5 => exact ck_ HR0_8 HB); (case side6 => exact HC0_8.out); rintro e w13 ⟨rfl, hb⟩; refine ⟨_, rfl, ?_⟩; have n0_ := Aside0.mk (blk_below (bk_ BK298) hb); have n1_ := Aside0.mk (blk_below (bk_ BK299) hb); have n2_ := Aside0.mk (below_step (bl2_ HB GE298 GE299) hb); clear BK298; clear BK299; clear HB; have BK298 := n0_; have BK299 := n1_; have HB := n2_; clear n0_ n1_ n2_; (try clear hb); (try clear hb2); (try clear hk); (try clear hi); have hcz14_0 : w13.cell? ⟨gb298, 0, none⟩ = some (.int .i64 a0_0) := bc_ BK298 0 rfl; have hcz14_1 : w13.cell? ⟨gb298, 1, none⟩ = some (.slice A0_1 l0_1.length c0_1) := bc_ BK298 1 rfl; have hcz14_2 : w13.cell? ⟨gb298, 2, none⟩ = some (.slice A0_2 l0_2.length c0_2) := bc_ BK298 2 rfl; have hcz14_3 : w13.cell? ⟨gb298, 3, none⟩ = some (.int .i64 a0_3) := bc_ BK298 3 rfl; have hcz14_4 : w13.cell? ⟨gb298, 4, none⟩ = some (.int .i64 a0_4) := bc_ BK298 4 rfl; have hcz14_5 : w13.cell? ⟨gb298, 5, none⟩ = some (.int .i64 a0_5) := bc_ BK298 5 rfl; have hcz14_6 : w13.cell? ⟨gb298, 6, none⟩ = some (.int .i64 a0_6) := bc_ BK298 6 rfl; have hcz14_7 : w13.cell? ⟨gb298, 7, none⟩ = some (.int .i64 a0_7) := bc_ BK298 7 rfl; have hcz14_8 : w13.cell? ⟨gb298, 8, none⟩ = some (.slice A0_8 l0_8.length c0_8) := bc_ BK298 8 rfl; have hcz14_9 : w13.cell? ⟨gb298, 9, none⟩ = some (.int .i64 a0_9) := bc_ BK298 9 rfl; have hfz14_0 := bf_ BK298 0; have hfz14_1 := bf_ BK298 1; have hfz14_2 := bf_ BK298 2; have hfz14_3 := bf_ BK298 3; have hfz14_4 := bf_ BK298 4; have hfz14_5 := bf_ BK298 5; have hfz14_6 := bf_ BK298 6; have hfz14_7 := bf_ BK298 7; have hfz14_8 := bf_ BK298 8; have hfz14_9 := bf_ BK298 9; have p301 : 0 ≤ (a1 : Int) := of_decide_eq_true (by first | (with_reducible assumption) | assumption); have q301 : a1 < (l0_1.length : Int) := of_decide_eq_true (by first | (with_reducible assumption) | assumption); obtain ⟨ad301, e301, hx301_0, hx301_1, hx301_2, hx301_3⟩ := at_T71 HR0_1.out a1 p301 q301; cases e301; replace hx301_0 := (HB.out.cell (World.block_lt_of_cell? w _ hx301_0)).trans hx301_0; replace hx301_1 := (HB.out.cell (World.block_lt_of_cell? w _ hx301_1)).trans hx301_1; replace hx301_2 := (HB.out.cell (World.block_lt_of_cell? w _ hx301_2)).trans hx301_2; replace hx301_3 := (HB.out.cell (World.block_lt_of_cell? w _ hx301_3)).trans hx301_3; replace p301 := eq_true p301; replace q301 := eq_true q301) | ((with_reducible refine gate_callee (f := 88) rfl ?_); refine goesL_ (some 18) rfl rfl Try.func88 (by kernel_rfl) rfl #[.agg #[.int .i64 ((rd_T71 l0_1 a1).f0), .int .i64 ((rd_T71 l0_1 a1).f1), .int .i64 ((rd_T71 l0_1 a1).f2), .int .i64 ((rd_T71 l0_1 a1).f3)], .int .i64 a2] rfl mp_ ?_; (with_reducible refine (impl_PlacesAt.calls ((rd_T71 l0_1 a1).f0) ((rd_T71 l0_1 a1).f1) ((rd_T71 l0_1 a1).f2) ((rd_T71 l0_1 a1).f3) a2 t302 t303 _ A8.out).mono ?_); rintro e w15 ⟨rfl, hb⟩; refine ⟨_, rfl, ?_⟩; have n0_ := Aside0.mk (blk_below (bk_ BK298) hb); have n1_ := Aside0.mk (blk_below (bk_ BK299) hb); have n2_ := Aside0.mk (below_step (bl2_ HB GE298 GE299) hb); clear BK298; clear BK299; clear HB; have BK298 := n0_; have BK299 := n1_; have HB := n2_; clear n0_ n1_ n2_; (try clear hb); (try clear hb2); (try clear hk); (try clear hi); have hcz16_0 : w15.cell? ⟨gb299, 0, none⟩ = some (.int .i64 0) := bc_ BK299 0 rfl; have hcz16_1 : w15.cell? ⟨gb299, 1, none⟩ = some (.int .i64 0) := bc_ BK299 1 rfl; have hfz16_0 := bf_ BK299 0; have hfz16_1 := bf_ BK299 1))
    refine bodyPost_ret (results_cell_row rfl _ _ gb299 79 #[.int .i64 t302, .int .i64 t303] (0, 0) _ rfl (by (with_reducible repeat (first | refine blk_drewN ?_ _ | refine blk_drew ?_ | refine blk_alloc ?_ _)); refine blk_put (cs := #[.int .i64 t302, .int .i64 0]) ?_ 1 _ rfl; (with_reducible repeat (first | refine blk_drewN ?_ _ | refine blk_drew ?_ | refine blk_alloc ?_ _)); refine blk_put (cs := #[.int .i64 0, .int .i64 0]) ?_ 0 _ rfl; (with_reducible repeat (first | refine blk_drewN ?_ _ | refine blk_drew ?_ | refine blk_alloc ?_ _)); exact BK299.out) Try.underlying79 rfl (by kernel_rfl)) rfl ?_
    exact ⟨by first | rfl | (simp [errW_none, errW_some] <;> rfl) | (simp [*, errW_none, errW_some] <;> rfl), by repeat (first | (with_reducible first | exact HB.out | apply below_alloc | apply pw_below_drewN | apply below_drew1 | refine below_set ?_ GE298.out | refine below_set ?_ GE299.out) | exact HB.out)⟩
   ·rw [if_neg c7] at H
    exact absurd H (by simp)
  ·rw [if_neg c6] at H
   exact absurd H (by simp)
 ·replace c5 := Bool.eq_false_iff.mpr c5
  subst c5
  have H1 : ((impl_IsSite.f a0_0 l0_1 l0_2 a0_3 a0_4 a0_5 a0_6 a0_7 l0_8 a0_9 a1).bind fun t304 => (if t304 = true then (if 0 ≤ (wrap64 (a1 - (l0_1.length : Int))) then (if (wrap64 (a1 - (l0_1.length : Int))) < (l0_2.length : Int) then ((impl_PlaceAt.f 0 ((rd_T75 l0_2 (wrap64 (a1 - (l0_1.length : Int)))).f1) ((rd_T75 l0_2 (wrap64 (a1 - (l0_1.length : Int)))).f2) 0 a2).bind fun t307 => (some (t307, 0))) else (none)) else (none)) else (some (0, 0)))) = some (r1, r2) := by rw [if_neg (show ¬ (false = true) by decide)] at H; exact H
  clear H
  have H := H1
  clear H1
  replace H := Option.bind_eq_some_iff.mp H
  obtain ⟨t304, A170, H⟩ := H
  have A17 := Aside0.mk A170
  clear A170
  by_cases c18 : t304 = true
  ·subst c18
   have H1 : (if 0 ≤ (wrap64 (a1 - (l0_1.length : Int))) then (if (wrap64 (a1 - (l0_1.length : Int))) < (l0_2.length : Int) then ((impl_PlaceAt.f 0 ((rd_T75 l0_2 (wrap64 (a1 - (l0_1.length : Int)))).f1) ((rd_T75 l0_2 (wrap64 (a1 - (l0_1.length : Int)))).f2) 0 a2).bind fun t307 => (some (t307, 0))) else (none)) else (none)) = some (r1, r2) := by rw [if_pos rfl] at H; exact H
   clear H
   have H := H1
   clear H1
   obtain ⟨ji19, hji19⟩ : ∃ j_ : Int, (wrap64 (a1 - (l0_1.length : Int))) = j_ := ⟨_, rfl⟩
   replace H : (if 0 ≤ (ji19) then (if (ji19) < (l0_2.length : Int) then ((impl_PlaceAt.f 0 ((rd_T75 l0_2 (ji19)).f1) ((rd_T75 l0_2 (ji19)).f2) 0 a2).bind fun t307 => (some (t307, 0))) else (none)) else (none)) = some (r1, r2) := by first | (rw [hji19] at H; exact H) | (simp only [hji19] at H ⊢; exact H)
   (try rw [hji19] at A4)
   (try rw [hji19] at A17)
   have hji19w : (IntKind.i64.wrap (a1 - (l0_1.length : Int))) = ji19 := (i64_w _).trans hji19
   by_cases c20 : 0 ≤ (ji19)
   ·rw [if_pos c20] at H
    have c20b0 : decide (0 ≤ (ji19)) = true := decide_eq_true c20
    clear c20
    by_cases c21 : (ji19) < (l0_2.length : Int)
    ·rw [if_pos c21] at H
     have c21b0 : decide ((ji19) < (l0_2.length : Int)) = true := decide_eq_true c21
     clear c21
     replace H := Option.bind_eq_some_iff.mp H
     obtain ⟨t307, A220, H⟩ := H
     have A22 := Aside0.mk A220
     clear A220
     simp only [Option.some.injEq, Prod.mk.injEq] at H
     obtain ⟨rfl, rfl⟩ := H
     go_enter Try.func69, Try.ntmps69
     go_wp2_with (first | ((with_reducible refine gate_dst (N := 3) rfl ?_); refine box_event ?hg (N := 3) ?hd (cs := #[.int .i64 a0_0, .slice A0_1 l0_1.length c0_1, .slice A0_2 l0_2.length c0_2, .int .i64 a0_3, .int .i64 a0_4, .int .i64 a0_5, .int .i64 a0_6, .int .i64 a0_7, .slice A0_8 l0_8.length c0_8, .int .i64 a0_9]) (t := 33) ?hr ?_; (case hd => rfl); (case hg => rfl); (case hr => first | (go_simp; done) | (go_simp; rfl)); intro gb298 hg w23 hbox hb; have n0_ := Aside0.mk (below_step (bl_ HB) hb); have n1_ := Aside0.mk (hbox); have n2_ := Aside0.mk ((by rw [hg]; exact (below_size (bl_ HB)) : w.heap.size ≤ gb298)); have n3_ := Aside0.mk ((by rw [hg]; exact (below_size (bl_ HB)) : w.heap.size ≤ gb298)); clear HB; have HB := n0_; have BK298 := n1_; have GW298 := n2_; have GE298 := n3_; clear n0_ n1_ n2_ n3_; clear hb hbox hg) | ((with_reducible refine gate_dst (N := 6) rfl ?_); refine box_event ?hg (N := 6) ?hd (cs := #[.int .i64 0, .int .i64 0]) (t := 79) ?hr ?_; (case hd => rfl); (case hg => rfl); (case hr => first | (go_simp; done) | (go_simp; rfl)); intro gb299 hg w24 hbox hb; have n0_ := Aside0.mk (blk_below (bk_ BK298) hb); have n1_ := Aside0.mk (below_step (bl1_ HB GE298) hb); have n2_ := Aside0.mk (hbox); have n3_ := Aside0.mk ((by rw [hg]; exact (below_size (bl1_ HB GE298)) : w.heap.size ≤ gb299)); have n4_ := Aside0.mk ((by rw [hg]; exact (below_size (bl1_ HB GE298)) : w.heap.size ≤ gb299)); have n5_ := Aside0.mk ((by rw [hg]; exact Nat.ne_of_lt (blk_lt (bk_ BK298)) : gb298 ≠ gb299)); have n6_ := Aside0.mk ((by rw [hg]; exact Nat.ne_of_gt (blk_lt (bk_ BK298)) : gb299 ≠ gb298)); clear BK298; clear HB; have BK298 := n0_; have HB := n1_; have BK299 := n2_; have GW299 := n3_; have GE299 := n4_; have NB298_299 := n5_; have NB299_298 := n6_; clear n0_ n1_ n2_ n3_ n4_ n5_ n6_; clear hb hbox hg; have hnb25 := NB298_299.out; have hnc25 := NB299_298.out; have hcz26_0 : w24.cell? ⟨gb298, 0, none⟩ = some (.int .i64 a0_0) := bc_ BK298 0 rfl; have hcz26_1 : w24.cell? ⟨gb298, 1, none⟩ = some (.slice A0_1 l0_1.length c0_1) := bc_ BK298 1 rfl; have hcz26_2 : w24.cell? ⟨gb298, 2, none⟩ = some (.slice A0_2 l0_2.length c0_2) := bc_ BK298 2 rfl; have hcz26_3 : w24.cell? ⟨gb298, 3, none⟩ = some (.int .i64 a0_3) := bc_ BK298 3 rfl; have hcz26_4 : w24.cell? ⟨gb298, 4, none⟩ = some (.int .i64 a0_4) := bc_ BK298 4 rfl; have hcz26_5 : w24.cell? ⟨gb298, 5, none⟩ = some (.int .i64 a0_5) := bc_ BK298 5 rfl; have hcz26_6 : w24.cell? ⟨gb298, 6, none⟩ = some (.int .i64 a0_6) := bc_ BK298 6 rfl; have hcz26_7 : w24.cell? ⟨gb298, 7, none⟩ = some (.int .i64 a0_7) := bc_ BK298 7 rfl; have hcz26_8 : w24.cell? ⟨gb298, 8, none⟩ = some (.slice A0_8 l0_8.length c0_8) := bc_ BK298 8 rfl; have hcz26_9 : w24.cell? ⟨gb298, 9, none⟩ = some (.int .i64 a0_9) := bc_ BK298 9 rfl; have hfz26_0 := bf_ BK298 0; have hfz26_1 := bf_ BK298 1; have hfz26_2 := bf_ BK298 2; have hfz26_3 := bf_ BK298 3; have hfz26_4 := bf_ BK298 4; have hfz26_5 := bf_ BK298 5; have hfz26_6 := bf_ BK298 6; have hfz26_7 := bf_ BK298 7; have hfz26_8 := bf_ BK298 8; have hfz26_9 := bf_ BK298 9) | ((with_reducible refine gate_callee (f := 68) rfl ?_); refine goesL_ (some 11) rfl rfl Try.func68 (by kernel_rfl) rfl #[.agg #[.int .i64 a0_0, .slice A0_1 l0_1.length c0_1, .slice A0_2 l0_2.length c0_2, .int .i64 a0_3, .int .i64 a0_4, .int .i64 a0_5, .int .i64 a0_6, .int .i64 a0_7, .slice A0_8 l0_8.length c0_8, .int .i64 a0_9], .int .i64 a1] rfl mp_ ?_; (with_reducible refine (impl_isSatellite.calls a0_0 _ _ l0_1 _ _ l0_2 a0_3 a0_4 a0_5 a0_6 a0_7 _ _ l0_8 a0_9 a1 false _ ?side1 ?side2 ?side3 ?side4 ?side5 ?side6 A4.out).mono ?_); (case side1 => exact ck_ HR0_1 HB); (case side2 => exact HC0_1.out); (case side3 => exact ck_ HR0_2 HB); (case side4 => exact HC0_2.out); (case side5 => exact ck_ HR0_8 HB); (case side6 => exact HC0_8.out); rintro e w27 ⟨rfl, hb⟩; refine ⟨_, rfl, ?_⟩; have n0_ := Aside0.mk (blk_below (bk_ BK298) hb); have n1_ := Aside0.mk (blk_below (bk_ BK299) hb); have n2_ := Aside0.mk (below_step (bl2_ HB GE298 GE299) hb); clear BK298; clear BK299; clear HB; have BK298 := n0_; have BK299 := n1_; have HB := n2_; clear n0_ n1_ n2_; (try clear hb); (try clear hb2); (try clear hk); (try clear hi); have hcz28_0 : w27.cell? ⟨gb298, 0, none⟩ = some (.int .i64 a0_0) := bc_ BK298 0 rfl; have hcz28_1 : w27.cell? ⟨gb298, 1, none⟩ = some (.slice A0_1 l0_1.length c0_1) := bc_ BK298 1 rfl; have hcz28_2 : w27.cell? ⟨gb298, 2, none⟩ = some (.slice A0_2 l0_2.length c0_2) := bc_ BK298 2 rfl; have hcz28_3 : w27.cell? ⟨gb298, 3, none⟩ = some (.int .i64 a0_3) := bc_ BK298 3 rfl; have hcz28_4 : w27.cell? ⟨gb298, 4, none⟩ = some (.int .i64 a0_4) := bc_ BK298 4 rfl; have hcz28_5 : w27.cell? ⟨gb298, 5, none⟩ = some (.int .i64 a0_5) := bc_ BK298 5 rfl; have hcz28_6 : w27.cell? ⟨gb298, 6, none⟩ = some (.int .i64 a0_6) := bc_ BK298 6 rfl; have hcz28_7 : w27.cell? ⟨gb298, 7, none⟩ = some (.int .i64 a0_7) := bc_ BK298 7 rfl; have hcz28_8 : w27.cell? ⟨gb298, 8, none⟩ = some (.slice A0_8 l0_8.length c0_8) := bc_ BK298 8 rfl; have hcz28_9 : w27.cell? ⟨gb298, 9, none⟩ = some (.int .i64 a0_9) := bc_ BK298 9 rfl; have hfz28_0 := bf_ BK298 0; have hfz28_1 := bf_ BK298 1; have hfz28_2 := bf_ BK298 2; have hfz28_3 := bf_ BK298 3; have hfz28_4 := bf_ BK298 4; have hfz28_5 := bf_ BK298 5; have hfz28_6 := bf_ BK298 6; have hfz28_7 := bf_ BK298 7; have hfz28_8 := bf_ BK298 8; have hfz28_9 := bf_ BK298 9) | ((with_reducible refine gate_callee (f := 89) rfl ?_); refine goesL_ (some 22) rfl rfl Try.func89 (by kernel_rfl) rfl #[.agg #[.int .i64 a0_0, .slice A0_1 l0_1.length c0_1, .slice A0_2 l0_2.length c0_2, .int .i64 a0_3, .int .i64 a0_4, .int .i64 a0_5, .int .i64 a0_6, .int .i64 a0_7, .slice A0_8 l0_8.length c0_8, .int .i64 a0_9], .int .i64 a1] rfl mp_ ?_; (with_reducible refine (impl_IsSite.calls a0_0 _ _ l0_1 _ _ l0_2 a0_3 a0_4 a0_5 a0_6 a0_7 _ _ l0_8 a0_9 a1 true _ ?side1 ?side2 ?side3 ?side4 ?side5 ?side6 A17.out).mono ?_); (case side1 => exact ck_ HR0_1 HB); (case side2 => exact HC0_1.out); (case side3 => exact ck_ HR0_2 HB); (case side4 => exact HC0_2.out); (case side5 => exact ck_ HR0_8 HB); (case side6 => exact HC0_8.out); rintro e w29 ⟨rfl, hb⟩; refine ⟨_, rfl, ?_⟩; have n0_ := Aside0.mk (blk_below (bk_ BK298) hb); have n1_ := Aside0.mk (blk_below (bk_ BK299) hb); have n2_ := Aside0.mk (below_step (bl2_ HB GE298 GE299) hb); clear BK298; clear BK299; clear HB; have BK298 := n0_; have BK299 := n1_; have HB := n2_; clear n0_ n1_ n2_; (try clear hb); (try clear hb2); (try clear hk); (try clear hi); have hcz30_0 : w29.cell? ⟨gb298, 0, none⟩ = some (.int .i64 a0_0) := bc_ BK298 0 rfl; have hcz30_1 : w29.cell? ⟨gb298, 1, none⟩ = some (.slice A0_1 l0_1.length c0_1) := bc_ BK298 1 rfl; have hcz30_2 : w29.cell? ⟨gb298, 2, none⟩ = some (.slice A0_2 l0_2.length c0_2) := bc_ BK298 2 rfl; have hcz30_3 : w29.cell? ⟨gb298, 3, none⟩ = some (.int .i64 a0_3) := bc_ BK298 3 rfl; have hcz30_4 : w29.cell? ⟨gb298, 4, none⟩ = some (.int .i64 a0_4) := bc_ BK298 4 rfl; have hcz30_5 : w29.cell? ⟨gb298, 5, none⟩ = some (.int .i64 a0_5) := bc_ BK298 5 rfl; have hcz30_6 : w29.cell? ⟨gb298, 6, none⟩ = some (.int .i64 a0_6) := bc_ BK298 6 rfl; have hcz30_7 : w29.cell? ⟨gb298, 7, none⟩ = some (.int .i64 a0_7) := bc_ BK298 7 rfl; have hcz30_8 : w29.cell? ⟨gb298, 8, none⟩ = some (.slice A0_8 l0_8.length c0_8) := bc_ BK298 8 rfl; have hcz30_9 : w29.cell? ⟨gb298, 9, none⟩ = some (.int .i64 a0_9) := bc_ BK298 9 rfl; have hfz30_0 := bf_ BK298 0; have hfz30_1 := bf_ BK298 1; have hfz30_2 := bf_ BK298 2; have hfz30_3 := bf_ BK298 3; have hfz30_4 := bf_ BK298 4; have hfz30_5 := bf_ BK298 5; have hfz30_6 := bf_ BK298 6; have hfz30_7 := bf_ BK298 7; have hfz30_8 := bf_ BK298 8; have hfz30_9 := bf_ BK298 9; have p305 : 0 ≤ ((ji19) : Int) := of_decide_eq_true (by first | (with_reducible assumption) | assumption); have q305 : (ji19) < (l0_2.length : Int) := of_decide_eq_true (by first | (with_reducible assumption) | assumption); obtain ⟨ad305, e305, hx305_0, hx305_1, hx305_2⟩ := at_T75 HR0_2.out (ji19) p305 q305; cases e305; replace hx305_0 := (HB.out.cell (World.block_lt_of_cell? w _ hx305_0)).trans hx305_0; replace hx305_1 := (HB.out.cell (World.block_lt_of_cell? w _ hx305_1)).trans hx305_1; replace hx305_2 := (HB.out.cell (World.block_lt_of_cell? w _ hx305_2)).trans hx305_2; replace p305 := eq_true p305; replace q305 := eq_true q305) | ((with_reducible refine gate_dst (N := 7) rfl ?_); refine box_event ?hg (N := 7) ?hd (cs := #[.int .i64 0, .int .i64 0, .int .i64 0]) (t := 75) ?hr ?_; (case hd => rfl); (case hg => rfl); (case hr => first | (go_simp; done) | (go_simp; rfl)); intro gb306 hg w31 hbox hb; have n0_ := Aside0.mk (blk_below (bk_ BK298) hb); have n1_ := Aside0.mk (blk_below (bk_ BK299) hb); have n2_ := Aside0.mk (below_step (bl2_ HB GE298 GE299) hb); have n3_ := Aside0.mk (hbox); have n4_ := Aside0.mk ((by rw [hg]; exact (below_size (bl2_ HB GE298 GE299)) : w.heap.size ≤ gb306)); have n5_ := Aside0.mk ((by rw [hg]; exact (below_size (bl2_ HB GE298 GE299)) : w.heap.size ≤ gb306)); have n6_ := Aside0.mk ((by rw [hg]; exact Nat.ne_of_lt (blk_lt (bk_ BK298)) : gb298 ≠ gb306)); have n7_ := Aside0.mk ((by rw [hg]; exact Nat.ne_of_gt (blk_lt (bk_ BK298)) : gb306 ≠ gb298)); have n8_ := Aside0.mk ((by rw [hg]; exact Nat.ne_of_lt (blk_lt (bk_ BK299)) : gb299 ≠ gb306)); have n9_ := Aside0.mk ((by rw [hg]; exact Nat.ne_of_gt (blk_lt (bk_ BK299)) : gb306 ≠ gb299)); clear BK298; clear BK299; clear HB; have BK298 := n0_; have BK299 := n1_; have HB := n2_; have BK306 := n3_; have GW306 := n4_; have GE306 := n5_; have NB298_306 := n6_; have NB306_298 := n7_; have NB299_306 := n8_; have NB306_299 := n9_; clear n0_ n1_ n2_ n3_ n4_ n5_ n6_ n7_ n8_ n9_; clear hb hbox hg; have hnb32 := NB306_298.out; have hnc32 := NB298_306.out; have hnb33 := NB306_299.out; have hnc33 := NB299_306.out; have hcz34_0 : w31.cell? ⟨gb306, 0, none⟩ = some (.int .i64 0) := bc_ BK306 0 rfl; have hcz34_1 : w31.cell? ⟨gb306, 1, none⟩ = some (.int .i64 0) := bc_ BK306 1 rfl; have hcz34_2 : w31.cell? ⟨gb306, 2, none⟩ = some (.int .i64 0) := bc_ BK306 2 rfl; have hfz34_0 := bf_ BK306 0; have hfz34_1 := bf_ BK306 1; have hfz34_2 := bf_ BK306 2) | ((with_reducible refine gate_callee (f := 90) rfl ?_); refine goesL_ (some 38) rfl rfl Try.func90 (by kernel_rfl) rfl #[.agg #[.int .i64 0, .int .i64 ((rd_T75 l0_2 (ji19)).f1), .int .i64 ((rd_T75 l0_2 (ji19)).f2), .int .i64 0], .int .i64 a2] rfl (by (try simp only [List.map_toArray, List.map_cons, List.map_nil]); first | done | (simp only [hji19]; rfl) | rfl | (simp only [List.length_drop, List.length_take]; rfl)) ?_; (with_reducible refine (impl_PlaceAt.calls 0 ((rd_T75 l0_2 (ji19)).f1) ((rd_T75 l0_2 (ji19)).f2) 0 a2 t307 _ A22.out).mono ?_); rintro e w35 ⟨rfl, hb⟩; refine ⟨_, rfl, ?_⟩; have n0_ := Aside0.mk (blk_below (g := gb298) (o := .cells #[.int .i64 a0_0, .slice A0_1 l0_1.length c0_1, .slice (some ad305) l0_2.length c0_2, .int .i64 a0_3, .int .i64 a0_4, .int .i64 a0_5, .int .i64 a0_6, .int .i64 a0_7, .slice A0_8 l0_8.length c0_8, .int .i64 a0_9] 33 (0, 0)) (by (with_reducible repeat (first | refine blk_drewN ?_ _ | refine blk_drew ?_ | refine blk_alloc ?_ _)); refine blk_far ?_ NB298_306.out _; (with_reducible repeat (first | refine blk_drewN ?_ _ | refine blk_drew ?_ | refine blk_alloc ?_ _)); refine blk_far ?_ NB298_306.out _; (with_reducible repeat (first | refine blk_drewN ?_ _ | refine blk_drew ?_ | refine blk_alloc ?_ _)); refine blk_far ?_ NB298_306.out _; (with_reducible repeat (first | refine blk_drewN ?_ _ | refine blk_drew ?_ | refine blk_alloc ?_ _)); exact BK298.out) hb); have n1_ := Aside0.mk (blk_below (g := gb299) (o := .cells #[.int .i64 0, .int .i64 0] 79 (0, 0)) (by (with_reducible repeat (first | refine blk_drewN ?_ _ | refine blk_drew ?_ | refine blk_alloc ?_ _)); refine blk_far ?_ NB299_306.out _; (with_reducible repeat (first | refine blk_drewN ?_ _ | refine blk_drew ?_ | refine blk_alloc ?_ _)); refine blk_far ?_ NB299_306.out _; (with_reducible repeat (first | refine blk_drewN ?_ _ | refine blk_drew ?_ | refine blk_alloc ?_ _)); refine blk_far ?_ NB299_306.out _; (with_reducible repeat (first | refine blk_drewN ?_ _ | refine blk_drew ?_ | refine blk_alloc ?_ _)); exact BK299.out) hb); have n2_ := Aside0.mk (blk_below (g := gb306) (o := .cells #[.int .i64 ((rd_T75 l0_2 (ji19)).f0), .int .i64 ((rd_T75 l0_2 (ji19)).f1), .int .i64 ((rd_T75 l0_2 (ji19)).f2)] 75 (0, 0)) (by (with_reducible repeat (first | refine blk_drewN ?_ _ | refine blk_drew ?_ | refine blk_alloc ?_ _)); refine blk_put (cs := #[.int .i64 ((rd_T75 l0_2 (ji19)).f0), .int .i64 ((rd_T75 l0_2 (ji19)).f1), .int .i64 0]) ?_ 2 _ rfl; (with_reducible repeat (first | refine blk_drewN ?_ _ | refine blk_drew ?_ | refine blk_alloc ?_ _)); refine blk_put (cs := #[.int .i64 ((rd_T75 l0_2 (ji19)).f0), .int .i64 0, .int .i64 0]) ?_ 1 _ rfl; (with_reducible repeat (first | refine blk_drewN ?_ _ | refine blk_drew ?_ | refine blk_alloc ?_ _)); refine blk_put (cs := #[.int .i64 0, .int .i64 0, .int .i64 0]) ?_ 0 _ rfl; (with_reducible repeat (first | refine blk_drewN ?_ _ | refine blk_drew ?_ | refine blk_alloc ?_ _)); exact BK306.out) hb); have n3_ := Aside0.mk (below_step (bl3_ HB GE298 GE299 GE306) hb); clear BK298; clear BK299; clear BK306; clear HB; have BK298 := n0_; have BK299 := n1_; have BK306 := n2_; have HB := n3_; clear n0_ n1_ n2_ n3_; (try clear hb); (try clear hb2); (try clear hk); (try clear hi); have hcz36_0 : w35.cell? ⟨gb299, 0, none⟩ = some (.int .i64 0) := bc_ BK299 0 rfl; have hcz36_1 : w35.cell? ⟨gb299, 1, none⟩ = some (.int .i64 0) := bc_ BK299 1 rfl; have hfz36_0 := bf_ BK299 0; have hfz36_1 := bf_ BK299 1))
     refine bodyPost_ret (results_cell_row rfl _ _ gb299 79 #[.int .i64 t307, .int .i64 0] (0, 0) _ rfl (by (with_reducible repeat (first | refine blk_drewN ?_ _ | refine blk_drew ?_ | refine blk_alloc ?_ _)); refine blk_put (cs := #[.int .i64 t307, .int .i64 0]) ?_ 1 _ rfl; (with_reducible repeat (first | refine blk_drewN ?_ _ | refine blk_drew ?_ | refine blk_alloc ?_ _)); refine blk_put (cs := #[.int .i64 0, .int .i64 0]) ?_ 0 _ rfl; (with_reducible repeat (first | refine blk_drewN ?_ _ | refine blk_drew ?_ | refine blk_alloc ?_ _)); exact BK299.out) Try.underlying79 rfl (by kernel_rfl)) rfl ?_
     exact ⟨by first | rfl | (simp [errW_none, errW_some] <;> rfl) | (simp only [← hji19]; first | rfl | (simp [errW_none, errW_some] <;> rfl)) | (simp [*, errW_none, errW_some] <;> rfl), by repeat (first | (with_reducible first | exact HB.out | apply below_alloc | apply pw_below_drewN | apply below_drew1 | refine below_set ?_ GE298.out | refine below_set ?_ GE299.out | refine below_set ?_ GE306.out) | exact HB.out)⟩
    ·rw [if_neg c21] at H
     exact absurd H (by simp)
   ·rw [if_neg c20] at H
    exact absurd H (by simp)
  ·replace c18 := Bool.eq_false_iff.mpr c18
   subst c18
   have H1 : (some (0, 0)) = some (r1, r2) := by rw [if_neg (show ¬ (false = true) by decide)] at H; exact H
   clear H
   have H := H1
   clear H1
   simp only [Option.some.injEq, Prod.mk.injEq] at H
   obtain ⟨rfl, rfl⟩ := H
   go_enter Try.func69, Try.ntmps69
   go_wp2_with (first | ((with_reducible refine gate_dst (N := 3) rfl ?_); refine box_event ?hg (N := 3) ?hd (cs := #[.int .i64 a0_0, .slice A0_1 l0_1.length c0_1, .slice A0_2 l0_2.length c0_2, .int .i64 a0_3, .int .i64 a0_4, .int .i64 a0_5, .int .i64 a0_6, .int .i64 a0_7, .slice A0_8 l0_8.length c0_8, .int .i64 a0_9]) (t := 33) ?hr ?_; (case hd => rfl); (case hg => rfl); (case hr => first | (go_simp; done) | (go_simp; rfl)); intro gb298 hg w37 hbox hb; have n0_ := Aside0.mk (below_step (bl_ HB) hb); have n1_ := Aside0.mk (hbox); have n2_ := Aside0.mk ((by rw [hg]; exact (below_size (bl_ HB)) : w.heap.size ≤ gb298)); have n3_ := Aside0.mk ((by rw [hg]; exact (below_size (bl_ HB)) : w.heap.size ≤ gb298)); clear HB; have HB := n0_; have BK298 := n1_; have GW298 := n2_; have GE298 := n3_; clear n0_ n1_ n2_ n3_; clear hb hbox hg) | ((with_reducible refine gate_dst (N := 6) rfl ?_); refine box_event ?hg (N := 6) ?hd (cs := #[.int .i64 0, .int .i64 0]) (t := 79) ?hr ?_; (case hd => rfl); (case hg => rfl); (case hr => first | (go_simp; done) | (go_simp; rfl)); intro gb299 hg w38 hbox hb; have n0_ := Aside0.mk (blk_below (bk_ BK298) hb); have n1_ := Aside0.mk (below_step (bl1_ HB GE298) hb); have n2_ := Aside0.mk (hbox); have n3_ := Aside0.mk ((by rw [hg]; exact (below_size (bl1_ HB GE298)) : w.heap.size ≤ gb299)); have n4_ := Aside0.mk ((by rw [hg]; exact (below_size (bl1_ HB GE298)) : w.heap.size ≤ gb299)); have n5_ := Aside0.mk ((by rw [hg]; exact Nat.ne_of_lt (blk_lt (bk_ BK298)) : gb298 ≠ gb299)); have n6_ := Aside0.mk ((by rw [hg]; exact Nat.ne_of_gt (blk_lt (bk_ BK298)) : gb299 ≠ gb298)); clear BK298; clear HB; have BK298 := n0_; have HB := n1_; have BK299 := n2_; have GW299 := n3_; have GE299 := n4_; have NB298_299 := n5_; have NB299_298 := n6_; clear n0_ n1_ n2_ n3_ n4_ n5_ n6_; clear hb hbox hg; have hnb39 := NB298_299.out; have hnc39 := NB299_298.out; have hcz40_0 : w38.cell? ⟨gb298, 0, none⟩ = some (.int .i64 a0_0) := bc_ BK298 0 rfl; have hcz40_1 : w38.cell? ⟨gb298, 1, none⟩ = some (.slice A0_1 l0_1.length c0_1) := bc_ BK298 1 rfl; have hcz40_2 : w38.cell? ⟨gb298, 2, none⟩ = some (.slice A0_2 l0_2.length c0_2) := bc_ BK298 2 rfl; have hcz40_3 : w38.cell? ⟨gb298, 3, none⟩ = some (.int .i64 a0_3) := bc_ BK298 3 rfl; have hcz40_4 : w38.cell? ⟨gb298, 4, none⟩ = some (.int .i64 a0_4) := bc_ BK298 4 rfl; have hcz40_5 : w38.cell? ⟨gb298, 5, none⟩ = some (.int .i64 a0_5) := bc_ BK298 5 rfl; have hcz40_6 : w38.cell? ⟨gb298, 6, none⟩ = some (.int .i64 a0_6) := bc_ BK298 6 rfl; have hcz40_7 : w38.cell? ⟨gb298, 7, none⟩ = some (.int .i64 a0_7) := bc_ BK298 7 rfl; have hcz40_8 : w38.cell? ⟨gb298, 8, none⟩ = some (.slice A0_8 l0_8.length c0_8) := bc_ BK298 8 rfl; have hcz40_9 : w38.cell? ⟨gb298, 9, none⟩ = some (.int .i64 a0_9) := bc_ BK298 9 rfl; have hfz40_0 := bf_ BK298 0; have hfz40_1 := bf_ BK298 1; have hfz40_2 := bf_ BK298 2; have hfz40_3 := bf_ BK298 3; have hfz40_4 := bf_ BK298 4; have hfz40_5 := bf_ BK298 5; have hfz40_6 := bf_ BK298 6; have hfz40_7 := bf_ BK298 7; have hfz40_8 := bf_ BK298 8; have hfz40_9 := bf_ BK298 9) | ((with_reducible refine gate_callee (f := 68) rfl ?_); refine goesL_ (some 11) rfl rfl Try.func68 (by kernel_rfl) rfl #[.agg #[.int .i64 a0_0, .slice A0_1 l0_1.length c0_1, .slice A0_2 l0_2.length c0_2, .int .i64 a0_3, .int .i64 a0_4, .int .i64 a0_5, .int .i64 a0_6, .int .i64 a0_7, .slice A0_8 l0_8.length c0_8, .int .i64 a0_9], .int .i64 a1] rfl mp_ ?_; (with_reducible refine (impl_isSatellite.calls a0_0 _ _ l0_1 _ _ l0_2 a0_3 a0_4 a0_5 a0_6 a0_7 _ _ l0_8 a0_9 a1 false _ ?side1 ?side2 ?side3 ?side4 ?side5 ?side6 A4.out).mono ?_); (case side1 => exact ck_ HR0_1 HB); (case side2 => exact HC0_1.out); (case side3 => exact ck_ HR0_2 HB); (case side4 => exact HC0_2.out); (case side5 => exact ck_ HR0_8 HB); (case side6 => exact HC0_8.out); rintro e w41 ⟨rfl, hb⟩; refine ⟨_, rfl, ?_⟩; have n0_ := Aside0.mk (blk_below (bk_ BK298) hb); have n1_ := Aside0.mk (blk_below (bk_ BK299) hb); have n2_ := Aside0.mk (below_step (bl2_ HB GE298 GE299) hb); clear BK298; clear BK299; clear HB; have BK298 := n0_; have BK299 := n1_; have HB := n2_; clear n0_ n1_ n2_; (try clear hb); (try clear hb2); (try clear hk); (try clear hi); have hcz42_0 : w41.cell? ⟨gb298, 0, none⟩ = some (.int .i64 a0_0) := bc_ BK298 0 rfl; have hcz42_1 : w41.cell? ⟨gb298, 1, none⟩ = some (.slice A0_1 l0_1.length c0_1) := bc_ BK298 1 rfl; have hcz42_2 : w41.cell? ⟨gb298, 2, none⟩ = some (.slice A0_2 l0_2.length c0_2) := bc_ BK298 2 rfl; have hcz42_3 : w41.cell? ⟨gb298, 3, none⟩ = some (.int .i64 a0_3) := bc_ BK298 3 rfl; have hcz42_4 : w41.cell? ⟨gb298, 4, none⟩ = some (.int .i64 a0_4) := bc_ BK298 4 rfl; have hcz42_5 : w41.cell? ⟨gb298, 5, none⟩ = some (.int .i64 a0_5) := bc_ BK298 5 rfl; have hcz42_6 : w41.cell? ⟨gb298, 6, none⟩ = some (.int .i64 a0_6) := bc_ BK298 6 rfl; have hcz42_7 : w41.cell? ⟨gb298, 7, none⟩ = some (.int .i64 a0_7) := bc_ BK298 7 rfl; have hcz42_8 : w41.cell? ⟨gb298, 8, none⟩ = some (.slice A0_8 l0_8.length c0_8) := bc_ BK298 8 rfl; have hcz42_9 : w41.cell? ⟨gb298, 9, none⟩ = some (.int .i64 a0_9) := bc_ BK298 9 rfl; have hfz42_0 := bf_ BK298 0; have hfz42_1 := bf_ BK298 1; have hfz42_2 := bf_ BK298 2; have hfz42_3 := bf_ BK298 3; have hfz42_4 := bf_ BK298 4; have hfz42_5 := bf_ BK298 5; have hfz42_6 := bf_ BK298 6; have hfz42_7 := bf_ BK298 7; have hfz42_8 := bf_ BK298 8; have hfz42_9 := bf_ BK298 9) | ((with_reducible refine gate_callee (f := 89) rfl ?_); refine goesL_ (some 22) rfl rfl Try.func89 (by kernel_rfl) rfl #[.agg #[.int .i64 a0_0, .slice A0_1 l0_1.length c0_1, .slice A0_2 l0_2.length c0_2, .int .i64 a0_3, .int .i64 a0_4, .int .i64 a0_5, .int .i64 a0_6, .int .i64 a0_7, .slice A0_8 l0_8.length c0_8, .int .i64 a0_9], .int .i64 a1] rfl mp_ ?_; (with_reducible refine (impl_IsSite.calls a0_0 _ _ l0_1 _ _ l0_2 a0_3 a0_4 a0_5 a0_6 a0_7 _ _ l0_8 a0_9 a1 false _ ?side1 ?side2 ?side3 ?side4 ?side5 ?side6 A17.out).mono ?_); (case side1 => exact ck_ HR0_1 HB); (case side2 => exact HC0_1.out); (case side3 => exact ck_ HR0_2 HB); (case side4 => exact HC0_2.out); (case side5 => exact ck_ HR0_8 HB); (case side6 => exact HC0_8.out); rintro e w43 ⟨rfl, hb⟩; refine ⟨_, rfl, ?_⟩; have n0_ := Aside0.mk (blk_below (bk_ BK298) hb); have n1_ := Aside0.mk (blk_below (bk_ BK299) hb); have n2_ := Aside0.mk (below_step (bl2_ HB GE298 GE299) hb); clear BK298; clear BK299; clear HB; have BK298 := n0_; have BK299 := n1_; have HB := n2_; clear n0_ n1_ n2_; (try clear hb); (try clear hb2); (try clear hk); (try clear hi); have hcz44_0 : w43.cell? ⟨gb299, 0, none⟩ = some (.int .i64 0) := bc_ BK299 0 rfl; have hcz44_1 : w43.cell? ⟨gb299, 1, none⟩ = some (.int .i64 0) := bc_ BK299 1 rfl; have hfz44_0 := bf_ BK299 0; have hfz44_1 := bf_ BK299 1))
   refine bodyPost_ret (results_cell_row rfl _ _ gb299 79 #[.int .i64 0, .int .i64 0] (0, 0) _ rfl (by (with_reducible repeat (first | refine blk_drewN ?_ _ | refine blk_drew ?_ | refine blk_alloc ?_ _)); refine blk_put (cs := #[.int .i64 0, .int .i64 0]) ?_ 1 _ rfl; (with_reducible repeat (first | refine blk_drewN ?_ _ | refine blk_drew ?_ | refine blk_alloc ?_ _)); refine blk_put (cs := #[.int .i64 0, .int .i64 0]) ?_ 0 _ rfl; (with_reducible repeat (first | refine blk_drewN ?_ _ | refine blk_drew ?_ | refine blk_alloc ?_ _)); exact BK299.out) Try.underlying79 rfl (by kernel_rfl)) rfl ?_
   exact ⟨by first | rfl | (simp [errW_none, errW_some] <;> rfl) | (simp [*, errW_none, errW_some] <;> rfl), by repeat (first | (with_reducible first | exact HB.out | apply below_alloc | apply pw_below_drewN | apply below_drew1 | refine below_set ?_ GE298.out | refine below_set ?_ GE299.out) | exact HB.out)⟩

/-! ### impl_InArc: function 91 -/
def impl_InArc.f (a0_0 : Int) (a0_1 : Int) (a1 : Int) : Option (Bool) := (impl_AngleOf.f a1).bind fun t309 => ((impl_AngleOf.f a0_0).bind fun t310 => ((impl_AngleOf.f (wrap64 (t309 - t310))).bind fun t311 => (some (decide (t311 ≤ a0_1)))))
set_option maxHeartbeats 8000000 in
set_option maxRecDepth 100000 in
theorem impl_InArc.calls (a0_0 : Int) (a0_1 : Int) (a1 : Int) (r : Bool) (w : World) (h : impl_InArc.f a0_0 a0_1 a1 = some r) :
  Calls Try.prog 91 #[.agg #[.int .i64 a0_0, .int .i64 a0_1], .int .i64 a1] w fun e w' => e = .returned (.bool r) ∧ Below w.heap.size w w' := by
 have hu79 := Try.underlying79
 have HB := Aside0.mk (Below.refl w.heap.size w)
 have H := h
 clear h
 unfold impl_InArc.f at H
 replace H := Option.bind_eq_some_iff.mp H
 obtain ⟨t309, A30, H⟩ := H
 have A3 := Aside0.mk A30
 clear A30
 replace H := Option.bind_eq_some_iff.mp H
 obtain ⟨t310, A40, H⟩ := H
 have A4 := Aside0.mk A40
 clear A40
 obtain ⟨ji5, hji5⟩ : ∃ j_ : Int, (wrap64 (t309 - t310)) = j_ := ⟨_, rfl⟩
 replace H : ((impl_AngleOf.f (ji5)).bind fun t311 => (some (decide (t311 ≤ a0_1)))) = some r := by first | (rw [hji5] at H; exact H) | (simp only [hji5] at H ⊢; exact H)
 (try rw [hji5] at A3)
 (try rw [hji5] at A4)
 have hji5w : (IntKind.i64.wrap (t309 - t310)) = ji5 := (i64_w _).trans hji5
 replace H := Option.bind_eq_some_iff.mp H
 obtain ⟨t311, A60, H⟩ := H
 have A6 := Aside0.mk A60
 clear A60
 obtain rfl := Option.some.inj H
 go_enter Try.func91, Try.ntmps91
 go_wp2_with (first | ((with_reducible refine gate_dst (N := 2) rfl ?_); refine box_event ?hg (N := 2) ?hd (cs := #[.int .i64 a0_0, .int .i64 a0_1]) (t := 79) ?hr ?_; (case hd => rfl); (case hg => rfl); (case hr => first | (go_simp; done) | (go_simp; rfl)); intro gb308 hg w7 hbox hb; have n0_ := Aside0.mk (below_step (bl_ HB) hb); have n1_ := Aside0.mk (hbox); have n2_ := Aside0.mk ((by rw [hg]; exact (below_size (bl_ HB)) : w.heap.size ≤ gb308)); have n3_ := Aside0.mk ((by rw [hg]; exact (below_size (bl_ HB)) : w.heap.size ≤ gb308)); clear HB; have HB := n0_; have BK308 := n1_; have GW308 := n2_; have GE308 := n3_; clear n0_ n1_ n2_ n3_; clear hb hbox hg) | (go_at_call 93; (with_reducible refine (impl_AngleOf.calls a1 t309 _ A3.out).mono ?_); rintro e w' ⟨rfl, ⟨nd, rfl⟩⟩; (try first | exact ⟨rfl, _, World.drewN_drewN _ _ _⟩ | exact ⟨rfl, _, Eq.trans (World.drewN_drewN _ _ _) (congrArg (World.drewN _) (Nat.add_assoc _ _ _))⟩); have hcz8_0 : w7.cell? ⟨gb308, 0, none⟩ = some (.int .i64 a0_0) := bc_ BK308 0 rfl; have hcz8_1 : w7.cell? ⟨gb308, 1, none⟩ = some (.int .i64 a0_1) := bc_ BK308 1 rfl; have hfz8_0 := bf_ BK308 0; have hfz8_1 := bf_ BK308 1) | (go_at_call 93; (with_reducible refine (impl_AngleOf.calls a0_0 t310 _ A4.out).mono ?_); rintro e w' ⟨rfl, ⟨nd, rfl⟩⟩; (try first | exact ⟨rfl, _, World.drewN_drewN _ _ _⟩ | exact ⟨rfl, _, Eq.trans (World.drewN_drewN _ _ _) (congrArg (World.drewN _) (Nat.add_assoc _ _ _))⟩)) | (go_at_call 93; (with_reducible refine (impl_AngleOf.calls ji5 t311 _ A6.out).mono ?_); rintro e w' ⟨rfl, ⟨nd, rfl⟩⟩; (try first | exact ⟨rfl, _, World.drewN_drewN _ _ _⟩ | exact ⟨rfl, _, Eq.trans (World.drewN_drewN _ _ _) (congrArg (World.drewN _) (Nat.add_assoc _ _ _))⟩)))
 repeat (go_quiet (first | ((with_reducible refine gate_dst (N := 2) rfl ?_); refine box_event ?hg (N := 2) ?hd (cs := #[.int .i64 a0_0, .int .i64 a0_1]) (t := 79) ?hr ?_; (case hd => rfl); (case hg => rfl); (case hr => first | (go_simp; done) | (go_simp; rfl)); intro gb308 hg w7 hbox hb; have n0_ := Aside0.mk (below_step (bl_ HB) hb); have n1_ := Aside0.mk (hbox); have n2_ := Aside0.mk ((by rw [hg]; exact (below_size (bl_ HB)) : w.heap.size ≤ gb308)); have n3_ := Aside0.mk ((by rw [hg]; exact (below_size (bl_ HB)) : w.heap.size ≤ gb308)); clear HB; have HB := n0_; have BK308 := n1_; have GW308 := n2_; have GE308 := n3_; clear n0_ n1_ n2_ n3_; clear hb hbox hg) | (go_at_call 93; (with_reducible refine (impl_AngleOf.calls a1 t309 _ A3.out).mono ?_); rintro e w' ⟨rfl, ⟨nd, rfl⟩⟩; (try first | exact ⟨rfl, _, World.drewN_drewN _ _ _⟩ | exact ⟨rfl, _, Eq.trans (World.drewN_drewN _ _ _) (congrArg (World.drewN _) (Nat.add_assoc _ _ _))⟩); have hcz8_0 : w7.cell? ⟨gb308, 0, none⟩ = some (.int .i64 a0_0) := bc_ BK308 0 rfl; have hcz8_1 : w7.cell? ⟨gb308, 1, none⟩ = some (.int .i64 a0_1) := bc_ BK308 1 rfl; have hfz8_0 := bf_ BK308 0; have hfz8_1 := bf_ BK308 1) | (go_at_call 93; (with_reducible refine (impl_AngleOf.calls a0_0 t310 _ A4.out).mono ?_); rintro e w' ⟨rfl, ⟨nd, rfl⟩⟩; (try first | exact ⟨rfl, _, World.drewN_drewN _ _ _⟩ | exact ⟨rfl, _, Eq.trans (World.drewN_drewN _ _ _) (congrArg (World.drewN _) (Nat.add_assoc _ _ _))⟩)) | (go_at_call 93; (with_reducible refine (impl_AngleOf.calls ji5 t311 _ A6.out).mono ?_); rintro e w' ⟨rfl, ⟨nd, rfl⟩⟩; (try first | exact ⟨rfl, _, World.drewN_drewN _ _ _⟩ | exact ⟨rfl, _, Eq.trans (World.drewN_drewN _ _ _) (congrArg (World.drewN _) (Nat.add_assoc _ _ _))⟩))); try go_wp2_with (first | ((with_reducible refine gate_dst (N := 2) rfl ?_); refine box_event ?hg (N := 2) ?hd (cs := #[.int .i64 a0_0, .int .i64 a0_1]) (t := 79) ?hr ?_; (case hd => rfl); (case hg => rfl); (case hr => first | (go_simp; done) | (go_simp; rfl)); intro gb308 hg w7 hbox hb; have n0_ := Aside0.mk (below_step (bl_ HB) hb); have n1_ := Aside0.mk (hbox); have n2_ := Aside0.mk ((by rw [hg]; exact (below_size (bl_ HB)) : w.heap.size ≤ gb308)); have n3_ := Aside0.mk ((by rw [hg]; exact (below_size (bl_ HB)) : w.heap.size ≤ gb308)); clear HB; have HB := n0_; have BK308 := n1_; have GW308 := n2_; have GE308 := n3_; clear n0_ n1_ n2_ n3_; clear hb hbox hg) | (go_at_call 93; (with_reducible refine (impl_AngleOf.calls a1 t309 _ A3.out).mono ?_); rintro e w' ⟨rfl, ⟨nd, rfl⟩⟩; (try first | exact ⟨rfl, _, World.drewN_drewN _ _ _⟩ | exact ⟨rfl, _, Eq.trans (World.drewN_drewN _ _ _) (congrArg (World.drewN _) (Nat.add_assoc _ _ _))⟩); have hcz8_0 : w7.cell? ⟨gb308, 0, none⟩ = some (.int .i64 a0_0) := bc_ BK308 0 rfl; have hcz8_1 : w7.cell? ⟨gb308, 1, none⟩ = some (.int .i64 a0_1) := bc_ BK308 1 rfl; have hfz8_0 := bf_ BK308 0; have hfz8_1 := bf_ BK308 1) | (go_at_call 93; (with_reducible refine (impl_AngleOf.calls a0_0 t310 _ A4.out).mono ?_); rintro e w' ⟨rfl, ⟨nd, rfl⟩⟩; (try first | exact ⟨rfl, _, World.drewN_drewN _ _ _⟩ | exact ⟨rfl, _, Eq.trans (World.drewN_drewN _ _ _) (congrArg (World.drewN _) (Nat.add_assoc _ _ _))⟩)) | (go_at_call 93; (with_reducible refine (impl_AngleOf.calls ji5 t311 _ A6.out).mono ?_); rintro e w' ⟨rfl, ⟨nd, rfl⟩⟩; (try first | exact ⟨rfl, _, World.drewN_drewN _ _ _⟩ | exact ⟨rfl, _, Eq.trans (World.drewN_drewN _ _ _) (congrArg (World.drewN _) (Nat.add_assoc _ _ _))⟩))))
 go_ret
 exact ⟨by first | rfl | (simp [errW_none, errW_some] <;> rfl) | (simp only [← hji5]; first | rfl | (simp [errW_none, errW_some] <;> rfl)) | (simp [*, errW_none, errW_some] <;> rfl), by repeat (first | (with_reducible first | exact HB.out | apply below_alloc | apply pw_below_drewN | apply below_drew1 | refine below_set ?_ GE308.out) | exact HB.out)⟩

/-! ### impl_ArcsMeet: function 70 -/
def impl_ArcsMeet.l0 : Nat → Int → Int → Int → Int → Int → Option (Bool)
 | 0, _, _, _, _, _ => none
 | k + 1, x6, x313000, x313001, x314000, x314001 => if x6 < 360 then ((impl_InArc.f x313000 x313001 x6).bind fun t314 => (if t314 = true then ((impl_InArc.f x314000 x314001 x6).bind fun t315 => (if t315 = true then (some true) else (impl_ArcsMeet.l0 k (wrap64 (x6 + 1)) x313000 x313001 x314000 x314001))) else (impl_ArcsMeet.l0 k (wrap64 (x6 + 1)) x313000 x313001 x314000 x314001))) else (some false)
def impl_ArcsMeet.f (k : Nat) (a0_0 : Int) (a0_1 : Int) (a1_0 : Int) (a1_1 : Int) : Option (Bool) := impl_ArcsMeet.l0 k 0 a0_0 a0_1 a1_0 a1_1
theorem impl_ArcsMeet.mono_l : ∀ k, (∀ y0 y1 y2 y3 y4, LeO (impl_ArcsMeet.l0 k y0 y1 y2 y3 y4) (impl_ArcsMeet.l0 (k + 1) y0 y1 y2 y3 y4))
 | 0 => fun _ _ _ _ _ r h => by simp [impl_ArcsMeet.l0] at h
 | k + 1 => by
  have ih0 := impl_ArcsMeet.mono_l k
  ·intro y0 y1 y2 y3 y4
   unfold impl_ArcsMeet.l0
   repeat' first
   | (with_reducible exact ih0 _ _ _ _ _)
   | (with_reducible exact LeO.refl _)
   | (with_reducible exact LeO.none _)
   | (with_reducible refine LeO.ite ?_ ?_)
   | (with_reducible refine LeO.bind ?_ (fun _ => ?_))
   | exact ih0 _ _ _ _ _
   | exact LeO.none _
   | refine LeO.ite ?_ ?_
   | refine LeO.bind ?_ (fun _ => ?_)
theorem impl_ArcsMeet.mono : ∀ a0 a1 a2 a3 k, LeO (impl_ArcsMeet.f k a0 a1 a2 a3) (impl_ArcsMeet.f (k + 1) a0 a1 a2 a3) := by
 intro a0 a1 a2 a3 k
 have ih0 := impl_ArcsMeet.mono_l k
 unfold impl_ArcsMeet.f
 repeat' first
   | (with_reducible exact ih0 _ _ _ _ _)
   | (with_reducible exact LeO.refl _)
   | (with_reducible exact LeO.none _)
   | (with_reducible refine LeO.ite ?_ ?_)
   | (with_reducible refine LeO.bind ?_ (fun _ => ?_))
   | exact ih0 _ _ _ _ _
   | exact LeO.none _
   | refine LeO.ite ?_ ?_
   | refine LeO.bind ?_ (fun _ => ?_)
set_option maxHeartbeats 8000000 in
set_option maxRecDepth 100000 in
theorem impl_ArcsMeet.calls (k : Nat) (a0_0 : Int) (a0_1 : Int) (a1_0 : Int) (a1_1 : Int) (r : Bool) (w : World) (h : impl_ArcsMeet.f k a0_0 a0_1 a1_0 a1_1 = some r) :
  Calls Try.prog 70 #[.agg #[.int .i64 a0_0, .int .i64 a0_1], .agg #[.int .i64 a1_0, .int .i64 a1_1]] w fun e w' => e = .returned (.bool r) ∧ Below w.heap.size w w' := by
 have hu79 := Try.underlying79
 have HB := Aside0.mk (Below.refl w.heap.size w)
 have H := h
 clear h
 unfold impl_ArcsMeet.f at H
 have H' := Aside0.mk H
 clear H
 go_enter Try.func70, Try.ntmps70
 go_wp2_with (first | ((with_reducible refine gate_dst (N := 2) rfl ?_); refine box_event ?hg (N := 2) ?hd (cs := #[.int .i64 a0_0, .int .i64 a0_1]) (t := 79) ?hr ?_; (case hd => rfl); (case hg => rfl); (case hr => first | (go_simp; done) | (go_simp; rfl)); intro gb312 hg w3 hbox hb; have n0_ := Aside0.mk (below_step (bl_ HB) hb); have n1_ := Aside0.mk (hbox); have n2_ := Aside0.mk ((by rw [hg]; exact (below_size (bl_ HB)) : w.heap.size ≤ gb312)); have n3_ := Aside0.mk ((by rw [hg]; exact (below_size (bl_ HB)) : w.heap.size ≤ gb312)); clear HB; have HB := n0_; have BK312 := n1_; have GW312 := n2_; have GE312 := n3_; clear n0_ n1_ n2_ n3_; clear hb hbox hg) | ((with_reducible refine gate_dst (N := 3) rfl ?_); refine box_event ?hg (N := 3) ?hd (cs := #[.int .i64 a1_0, .int .i64 a1_1]) (t := 79) ?hr ?_; (case hd => rfl); (case hg => rfl); (case hr => first | (go_simp; done) | (go_simp; rfl)); intro gb313 hg w4 hbox hb; have n0_ := Aside0.mk (blk_below (bk_ BK312) hb); have n1_ := Aside0.mk (below_step (bl1_ HB GE312) hb); have n2_ := Aside0.mk (hbox); have n3_ := Aside0.mk ((by rw [hg]; exact (below_size (bl1_ HB GE312)) : w.heap.size ≤ gb313)); have n4_ := Aside0.mk ((by rw [hg]; exact (below_size (bl1_ HB GE312)) : w.heap.size ≤ gb313)); have n5_ := Aside0.mk ((by rw [hg]; exact Nat.ne_of_lt (blk_lt (bk_ BK312)) : gb312 ≠ gb313)); have n6_ := Aside0.mk ((by rw [hg]; exact Nat.ne_of_gt (blk_lt (bk_ BK312)) : gb313 ≠ gb312)); clear BK312; clear HB; have BK312 := n0_; have HB := n1_; have BK313 := n2_; have GW313 := n3_; have GE313 := n4_; have NB312_313 := n5_; have NB313_312 := n6_; clear n0_ n1_ n2_ n3_ n4_ n5_ n6_; clear hb hbox hg))
 go_loopg [6] k (fun kq v6 w' => ∃ (x6_1 : Int), v6 = .int .i64 x6_1 ∧ Aside0 (impl_ArcsMeet.l0 kq x6_1 a0_0 a0_1 a1_0 a1_1 = some r) ∧ Aside0 (kq ≤ k) ∧ Aside0 (w'.heap[gb312]? = some (.cells #[.int .i64 a0_0, .int .i64 a0_1] 79 (0, 0))) ∧ Aside0 (w'.heap[gb313]? = some (.cells #[.int .i64 a1_0, .int .i64 a1_1] 79 (0, 0))) ∧ Aside0 (Below w.heap.size w w'))
 case atStart => exact ⟨(0), (by first | rfl | (simp; done) | (simp [*]; done)), H', ⟨Nat.le_refl _⟩, ⟨by (with_reducible repeat (first | refine blk_drewN ?_ _ | refine blk_drew ?_ | refine blk_alloc ?_ _)); exact BK312.out⟩, ⟨by (with_reducible repeat (first | refine blk_drewN ?_ _ | refine blk_drew ?_ | refine blk_alloc ?_ _)); exact BK313.out⟩, ⟨by repeat (first | (with_reducible first | exact HB.out | apply below_alloc | apply pw_below_drewN | apply below_drew1 | refine below_set ?_ GE312.out | refine below_set ?_ GE313.out) | exact HB.out)⟩⟩
 case round =>
  clear H'
  try clear p2
  obtain ⟨x6_1, rfl, HA, HK1, BK312, BK313, HB⟩ := hrel
  cases gk with
  | zero => exact absurd HA.out (by simp [impl_ArcsMeet.l0])
  | succ k1 =>
   have H := HA.out
   clear HA
   simp only [impl_ArcsMeet.l0] at H
   by_cases c5 : x6_1 < 360
   ·rw [if_pos c5] at H
    have c5b0 : decide (x6_1 < 360) = true := decide_eq_true c5
    clear c5
    replace H := Option.bind_eq_some_iff.mp H
    obtain ⟨t314, A60, H⟩ := H
    have A6 := Aside0.mk A60
    clear A60
    by_cases c7 : t314 = true
    ·subst c7
     have H1 : ((impl_InArc.f a1_0 a1_1 x6_1).bind fun t315 => (if t315 = true then (some true) else (impl_ArcsMeet.l0 k1 (wrap64 (x6_1 + 1)) a0_0 a0_1 a1_0 a1_1))) = some r := by rw [if_pos rfl] at H; exact H
     clear H
     have H := H1
     clear H1
     replace H := Option.bind_eq_some_iff.mp H
     obtain ⟨t315, A80, H⟩ := H
     have A8 := Aside0.mk A80
     clear A80
     by_cases c9 : t315 = true
     ·subst c9
      have H1 : (some true) = some r := by rw [if_pos rfl] at H; exact H
      clear H
      have H := H1
      clear H1
      obtain rfl := Option.some.inj H
      have hnb10 := NB312_313.out
      have hnc10 := NB313_312.out
      have hcz11_0 : wr.cell? ⟨gb312, 0, none⟩ = some (.int .i64 a0_0) := bc_ BK312 0 rfl
      have hcz11_1 : wr.cell? ⟨gb312, 1, none⟩ = some (.int .i64 a0_1) := bc_ BK312 1 rfl
      have hfz11_0 := bf_ BK312 0
      have hfz11_1 := bf_ BK312 1
      go_wp2_with (first | ((with_reducible refine gate_callee (f := 91) rfl ?_); refine goesL_ (some 11) rfl rfl Try.func91 (by kernel_rfl) rfl #[.agg #[.int .i64 a0_0, .int .i64 a0_1], .int .i64 x6_1] rfl mp_ ?_; (with_reducible refine (impl_InArc.calls a0_0 a0_1 x6_1 true _ A6.out).mono ?_); rintro e w12 ⟨rfl, hb⟩; refine ⟨_, rfl, ?_⟩; have n0_ := Aside0.mk (blk_below (bk_ BK312) hb); have n1_ := Aside0.mk (blk_below (bk_ BK313) hb); have n2_ := Aside0.mk (below_step (bl2_ HB GE312 GE313) hb); clear BK312; clear BK313; clear HB; have BK312 := n0_; have BK313 := n1_; have HB := n2_; clear n0_ n1_ n2_; (try clear hb); (try clear hb2); (try clear hk); (try clear hi); have hcz13_0 : w12.cell? ⟨gb313, 0, none⟩ = some (.int .i64 a1_0) := bc_ BK313 0 rfl; have hcz13_1 : w12.cell? ⟨gb313, 1, none⟩ = some (.int .i64 a1_1) := bc_ BK313 1 rfl; have hfz13_0 := bf_ BK313 0; have hfz13_1 := bf_ BK313 1) | (go_at_call 91; (with_reducible refine (impl_InArc.calls a1_0 a1_1 x6_1 true _ A8.out).mono ?_); rintro e w14 ⟨rfl, hb⟩; have n0_ := Aside0.mk (blk_below (bk_ BK312) hb); have n1_ := Aside0.mk (blk_below (bk_ BK313) hb); have n2_ := Aside0.mk (below_step (bl2_ HB GE312 GE313) hb); clear BK312; clear BK313; clear HB; have BK312 := n0_; have BK313 := n1_; have HB := n2_; clear n0_ n1_ n2_; (try clear hb); (try clear hb2); (try clear hk); (try clear hi)))
      go_ret
      exact ⟨by first | rfl | (simp [errW_none, errW_some] <;> rfl) | (simp [*, errW_none, errW_some] <;> rfl), by repeat (first | (with_reducible first | exact HB.out | apply below_alloc | apply pw_below_drewN | apply below_drew1 | refine below_set ?_ GE312.out | refine below_set ?_ GE313.out) | exact HB.out)⟩
     ·replace c9 := Bool.eq_false_iff.mpr c9
      subst c9
      have H1 : (impl_ArcsMeet.l0 k1 (wrap64 (x6_1 + 1)) a0_0 a0_1 a1_0 a1_1) = some r := by rw [if_neg (show ¬ (false = true) by decide)] at H; exact H
      clear H
      have H := H1
      clear H1
      have H' := Aside0.mk H
      clear H
      have hnb15 := NB312_313.out
      have hnc15 := NB313_312.out
      have hcz16_0 : wr.cell? ⟨gb312, 0, none⟩ = some (.int .i64 a0_0) := bc_ BK312 0 rfl
      have hcz16_1 : wr.cell? ⟨gb312, 1, none⟩ = some (.int .i64 a0_1) := bc_ BK312 1 rfl
      have hfz16_0 := bf_ BK312 0
      have hfz16_1 := bf_ BK312 1
      go_wp2_with (first | ((with_reducible refine gate_callee (f := 91) rfl ?_); refine goesL_ (some 11) rfl rfl Try.func91 (by kernel_rfl) rfl #[.agg #[.int .i64 a0_0, .int .i64 a0_1], .int .i64 x6_1] rfl mp_ ?_; (with_reducible refine (impl_InArc.calls a0_0 a0_1 x6_1 true _ A6.out).mono ?_); rintro e w17 ⟨rfl, hb⟩; refine ⟨_, rfl, ?_⟩; have n0_ := Aside0.mk (blk_below (bk_ BK312) hb); have n1_ := Aside0.mk (blk_below (bk_ BK313) hb); have n2_ := Aside0.mk (below_step (bl2_ HB GE312 GE313) hb); clear BK312; clear BK313; clear HB; have BK312 := n0_; have BK313 := n1_; have HB := n2_; clear n0_ n1_ n2_; (try clear hb); (try clear hb2); (try clear hk); (try clear hi); have hcz18_0 : w17.cell? ⟨gb313, 0, none⟩ = some (.int .i64 a1_0) := bc_ BK313 0 rfl; have hcz18_1 : w17.cell? ⟨gb313, 1, none⟩ = some (.int .i64 a1_1) := bc_ BK313 1 rfl; have hfz18_0 := bf_ BK313 0; have hfz18_1 := bf_ BK313 1) | (go_at_call 91; (with_reducible refine (impl_InArc.calls a1_0 a1_1 x6_1 false _ A8.out).mono ?_); rintro e w19 ⟨rfl, hb⟩; have n0_ := Aside0.mk (blk_below (bk_ BK312) hb); have n1_ := Aside0.mk (blk_below (bk_ BK313) hb); have n2_ := Aside0.mk (below_step (bl2_ HB GE312 GE313) hb); clear BK312; clear BK313; clear HB; have BK312 := n0_; have BK313 := n1_; have HB := n2_; clear n0_ n1_ n2_; (try clear hb); (try clear hb2); (try clear hk); (try clear hi)))
      go_roundg k1
      case measure => have := HK1.out; omega
      case rel => exact ⟨(wrap64 (x6_1 + 1)), (by first | rfl | (simp; done) | (simp [*]; done)), H', ⟨by have := HK1.out; omega⟩, ⟨by (with_reducible repeat (first | refine blk_drewN ?_ _ | refine blk_drew ?_ | refine blk_alloc ?_ _)); exact BK312.out⟩, ⟨by (with_reducible repeat (first | refine blk_drewN ?_ _ | refine blk_drew ?_ | refine blk_alloc ?_ _)); exact BK313.out⟩, ⟨by repeat (first | (with_reducible first | exact HB.out | apply below_alloc | apply pw_below_drewN | apply below_drew1 | refine below_set ?_ GE312.out | refine below_set ?_ GE313.out) | exact HB.out)⟩⟩
    ·replace c7 := Bool.eq_false_iff.mpr c7
     subst c7
     have H1 : (impl_ArcsMeet.l0 k1 (wrap64 (x6_1 + 1)) a0_0 a0_1 a1_0 a1_1) = some r := by rw [if_neg (show ¬ (false = true) by decide)] at H; exact H
     clear H
     have H := H1
     clear H1
     have H' := Aside0.mk H
     clear H
     have hnb20 := NB312_313.out
     have hnc20 := NB313_312.out
     have hcz21_0 : wr.cell? ⟨gb312, 0, none⟩ = some (.int .i64 a0_0) := bc_ BK312 0 rfl
     have hcz21_1 : wr.cell? ⟨gb312, 1, none⟩ = some (.int .i64 a0_1) := bc_ BK312 1 rfl
     have hfz21_0 := bf_ BK312 0
     have hfz21_1 := bf_ BK312 1
     go_wp2_with (first | ((with_reducible refine gate_callee (f := 91) rfl ?_); refine goesL_ (some 11) rfl rfl Try.func91 (by kernel_rfl) rfl #[.agg #[.int .i64 a0_0, .int .i64 a0_1], .int .i64 x6_1] rfl mp_ ?_; (with_reducible refine (impl_InArc.calls a0_0 a0_1 x6_1 false _ A6.out).mono ?_); rintro e w22 ⟨rfl, hb⟩; refine ⟨_, rfl, ?_⟩; have n0_ := Aside0.mk (blk_below (bk_ BK312) hb); have n1_ := Aside0.mk (blk_below (bk_ BK313) hb); have n2_ := Aside0.mk (below_step (bl2_ HB GE312 GE313) hb); clear BK312; clear BK313; clear HB; have BK312 := n0_; have BK313 := n1_; have HB := n2_; clear n0_ n1_ n2_; (try clear hb); (try clear hb2); (try clear hk); (try clear hi)))
     go_roundg k1
     case measure => have := HK1.out; omega
     case rel => exact ⟨(wrap64 (x6_1 + 1)), (by first | rfl | (simp; done) | (simp [*]; done)), H', ⟨by have := HK1.out; omega⟩, ⟨by (with_reducible repeat (first | refine blk_drewN ?_ _ | refine blk_drew ?_ | refine blk_alloc ?_ _)); exact BK312.out⟩, ⟨by (with_reducible repeat (first | refine blk_drewN ?_ _ | refine blk_drew ?_ | refine blk_alloc ?_ _)); exact BK313.out⟩, ⟨by repeat (first | (with_reducible first | exact HB.out | apply below_alloc | apply pw_below_drewN | apply below_drew1 | refine below_set ?_ GE312.out | refine below_set ?_ GE313.out) | exact HB.out)⟩⟩
   ·rw [if_neg c5] at H
    have c5b0 : decide (x6_1 < 360) = false := decide_eq_false c5
    clear c5
    obtain rfl := Option.some.inj H
    go_wp2
    go_ret
    exact ⟨by first | rfl | (simp [errW_none, errW_some] <;> rfl) | (simp [*, errW_none, errW_some] <;> rfl), by repeat (first | (with_reducible first | exact HB.out | apply below_alloc | apply pw_below_drewN | apply below_drew1 | refine below_set ?_ GE312.out | refine below_set ?_ GE313.out) | exact HB.out)⟩

/-! ### impl_MayDisturb: function 43 -/
def impl_MayDisturb.l0 : Nat → Int → List (S81) → Int → Int → Int → List (S71) → List (S75) → Int → Int → Int → Int → Int → List (S81) → Int → Int → Int → Option (Bool)
 | 0, _, _, _, _, _, _, _, _, _, _, _, _, _, _, _, _ => none
 | k + 1, x1, x19, x20, x21, x317000, x317001, x317002, x317003, x317004, x317005, x317006, x317007, x317008, x317009, x321000, x321001 => if x21 < x20 then (if 0 ≤ x21 then (if x21 < (x19.length : Int) then (if 0 ≤ x1 then (if x1 < (x317001.length : Int) then (if ((rd_T81 x19 x21).f0) = ((rd_T71 x317001 x1).f0) then ((impl_ArcsMeet.f k x321000 x321001 ((rd_T81 x19 x21).f1.f0) ((rd_T81 x19 x21).f1.f1)).bind fun t324 => (if t324 = true then (some true) else (impl_MayDisturb.l0 k x1 x19 x20 (wrap64 (x21 + 1)) x317000 x317001 x317002 x317003 x317004 x317005 x317006 x317007 x317008 x317009 x321000 x321001))) else (impl_MayDisturb.l0 k x1 x19 x20 (wrap64 (x21 + 1)) x317000 x317001 x317002 x317003 x317004 x317005 x317006 x317007 x317008 x317009 x321000 x321001)) else (none)) else (none)) else (none)) else (none)) else (some false)
def impl_MayDisturb.f (k : Nat) (a0_0 : Int) (l0_1 : List (S71)) (l0_2 : List (S75)) (a0_3 : Int) (a0_4 : Int) (a0_5 : Int) (a0_6 : Int) (a0_7 : Int) (l0_8 : List (S81)) (a0_9 : Int) (a1 : Int) (a2 : Int) : Option (Bool) := (impl_isSatellite.f a0_0 l0_1 l0_2 a0_3 a0_4 a0_5 a0_6 a0_7 l0_8 a0_9 a1).bind fun t317 => (if t317 = true then ((impl_NodeAt.f a0_0 l0_1 l0_2 a0_3 a0_4 a0_5 a0_6 a0_7 l0_8 a0_9 a1 a2).bind fun bt318 => (impl_MayDisturb.l0 k a1 l0_8 (l0_8.length : Int) 0 a0_0 l0_1 l0_2 a0_3 a0_4 a0_5 a0_6 a0_7 l0_8 a0_9 bt318.1 bt318.2)) else (some false))
theorem impl_MayDisturb.mono_l : ∀ k, (∀ y0 y1 y2 y3 y4 y5 y6 y7 y8 y9 y10 y11 y12 y13 y14 y15, LeO (impl_MayDisturb.l0 k y0 y1 y2 y3 y4 y5 y6 y7 y8 y9 y10 y11 y12 y13 y14 y15) (impl_MayDisturb.l0 (k + 1) y0 y1 y2 y3 y4 y5 y6 y7 y8 y9 y10 y11 y12 y13 y14 y15))
 | 0 => fun _ _ _ _ _ _ _ _ _ _ _ _ _ _ _ _ r h => by simp [impl_MayDisturb.l0] at h
 | k + 1 => by
  have ih0 := impl_MayDisturb.mono_l k
  ·intro y0 y1 y2 y3 y4 y5 y6 y7 y8 y9 y10 y11 y12 y13 y14 y15
   unfold impl_MayDisturb.l0
   repeat' first
   | (with_reducible exact ih0 _ _ _ _ _ _ _ _ _ _ _ _ _ _ _ _)
   | (with_reducible exact impl_ArcsMeet.mono _ _ _ _ _)
   | (with_reducible exact LeO.refl _)
   | (with_reducible exact LeO.none _)
   | (with_reducible refine LeO.ite ?_ ?_)
   | (with_reducible refine LeO.bind ?_ (fun _ => ?_))
   | exact ih0 _ _ _ _ _ _ _ _ _ _ _ _ _ _ _ _
   | exact impl_ArcsMeet.mono _ _ _ _ _
   | exact LeO.none _
   | refine LeO.ite ?_ ?_
   | refine LeO.bind ?_ (fun _ => ?_)
theorem impl_MayDisturb.mono : ∀ a0 a1 a2 a3 a4 a5 a6 a7 a8 a9 a10 a11 k, LeO (impl_MayDisturb.f k a0 a1 a2 a3 a4 a5 a6 a7 a8 a9 a10 a11) (impl_MayDisturb.f (k + 1) a0 a1 a2 a3 a4 a5 a6 a7 a8 a9 a10 a11) := by
 intro a0 a1 a2 a3 a4 a5 a6 a7 a8 a9 a10 a11 k
 have ih0 := impl_MayDisturb.mono_l k
 unfold impl_MayDisturb.f
 repeat' first
   | (with_reducible exact ih0 _ _ _ _ _ _ _ _ _ _ _ _ _ _ _ _)
   | (with_reducible exact impl_ArcsMeet.mono _ _ _ _ _)
   | (with_reducible exact LeO.refl _)
   | (with_reducible exact LeO.none _)
   | (with_reducible refine LeO.ite ?_ ?_)
   | (with_reducible refine LeO.bind ?_ (fun _ => ?_))
   | exact ih0 _ _ _ _ _ _ _ _ _ _ _ _ _ _ _ _
   | exact impl_ArcsMeet.mono _ _ _ _ _
   | exact LeO.none _
   | refine LeO.ite ?_ ?_
   | refine LeO.bind ?_ (fun _ => ?_)
def impl_MayDisturb.T7 : Bool × List (List Nat × List Nat) := (true, [([], []), ([0], [0]), ([], []), ([2], [2]), ([], []), ([3, 4], [3, 4]), ([5], [5]), ([6], [6]), ([1, 7], [1, 7]), ([8], [8]), ([9], [9]), ([9], [9]), ([11, 9], [9, 11]), ([10, 12, 9, 9], [9, 10, 12]), ([9, 13], [9, 13])])
def impl_MayDisturb.B7 : List Nat := [0, 1, 0, 4, 0, 28, 60, 124, 255, 511, 1023, 1023, 3071, 8191, 16383]
theorem impl_MayDisturb.tab7 : rtab .any (opsOf Try.f43 7) = impl_MayDisturb.T7 := by kernel_rfl
theorem impl_MayDisturb.bits7 : waitsOk impl_MayDisturb.T7.2 impl_MayDisturb.B7 = true := by kernel_rfl
set_option maxHeartbeats 8000000 in
set_option maxRecDepth 100000 in
theorem impl_MayDisturb.calls (k : Nat) (a0_0 : Int) (A0_1 : Option Addr) (c0_1 : Nat) (l0_1 : List (S71)) (A0_2 : Option Addr) (c0_2 : Nat) (l0_2 : List (S75)) (a0_3 : Int) (a0_4 : Int) (a0_5 : Int) (a0_6 : Int) (a0_7 : Int) (A0_8 : Option Addr) (c0_8 : Nat) (l0_8 : List (S81)) (a0_9 : Int) (a1 : Int) (a2 : Int) (r : Bool) (w : World) (hr0_1 : Kd.C k71 w A0_1 l0_1.length l0_1) (hc0_1 : l0_1.length ≤ c0_1) (hr0_2 : Kd.C k75 w A0_2 l0_2.length l0_2) (hc0_2 : l0_2.length ≤ c0_2) (hr0_8 : Kd.C k81 w A0_8 l0_8.length l0_8) (hc0_8 : l0_8.length ≤ c0_8) (h : impl_MayDisturb.f k a0_0 l0_1 l0_2 a0_3 a0_4 a0_5 a0_6 a0_7 l0_8 a0_9 a1 a2 = some r) :
  Calls Try.prog 43 #[.agg #[.int .i64 a0_0, .slice A0_1 l0_1.length c0_1, .slice A0_2 l0_2.length c0_2, .int .i64 a0_3, .int .i64 a0_4, .int .i64 a0_5, .int .i64 a0_6, .int .i64 a0_7, .slice A0_8 l0_8.length c0_8, .int .i64 a0_9], .int .i64 a1, .int .i64 a2] w fun e w' => e = .returned (.bool r) ∧ Below w.heap.size w w' := by
 have hu33 := Try.underlying33
 have hu79 := Try.underlying79
 have hu81 := Try.underlying81
 have HR0_1 := Aside0.mk hr0_1
 have HC0_1 := Aside0.mk hc0_1
 clear hr0_1 hc0_1
 have HR0_2 := Aside0.mk hr0_2
 have HC0_2 := Aside0.mk hc0_2
 clear hr0_2 hc0_2
 have HR0_8 := Aside0.mk hr0_8
 have HC0_8 := Aside0.mk hc0_8
 clear hr0_8 hc0_8
 have HB := Aside0.mk (Below.refl w.heap.size w)
 have H := h
 clear h
 unfold impl_MayDisturb.f at H
 replace H := Option.bind_eq_some_iff.mp H
 obtain ⟨t317, A40, H⟩ := H
 have A4 := Aside0.mk A40
 clear A40
 by_cases c5 : t317 = true
 ·subst c5
  have H1 : ((impl_NodeAt.f a0_0 l0_1 l0_2 a0_3 a0_4 a0_5 a0_6 a0_7 l0_8 a0_9 a1 a2).bind fun bt318 => (impl_MayDisturb.l0 k a1 l0_8 (l0_8.length : Int) 0 a0_0 l0_1 l0_2 a0_3 a0_4 a0_5 a0_6 a0_7 l0_8 a0_9 bt318.1 bt318.2)) = some r := by rw [if_pos rfl] at H; exact H
  clear H
  have H := H1
  clear H1
  replace H := Option.bind_eq_some_iff.mp H
  obtain ⟨⟨t318, t319⟩, A60, H⟩ := H
  replace H : (impl_MayDisturb.l0 k a1 l0_8 (l0_8.length : Int) 0 a0_0 l0_1 l0_2 a0_3 a0_4 a0_5 a0_6 a0_7 l0_8 a0_9 t318 t319) = some r := H
  have A6 := Aside0.mk A60
  clear A60
  have H' := Aside0.mk H
  clear H
  go_enter Try.func43, Try.ntmps43
  go_wp2_with (first | ((with_reducible refine gate_dst (N := 3) rfl ?_); refine box_event ?hg (N := 3) ?hd (cs := #[.int .i64 a0_0, .slice A0_1 l0_1.length c0_1, .slice A0_2 l0_2.length c0_2, .int .i64 a0_3, .int .i64 a0_4, .int .i64 a0_5, .int .i64 a0_6, .int .i64 a0_7, .slice A0_8 l0_8.length c0_8, .int .i64 a0_9]) (t := 33) ?hr ?_; (case hd => rfl); (case hg => rfl); (case hr => first | (go_simp; done) | (go_simp; rfl)); intro gb316 hg w7 hbox hb; have n0_ := Aside0.mk (below_step (bl_ HB) hb); have n1_ := Aside0.mk (hbox); have n2_ := Aside0.mk ((by rw [hg]; exact (below_size (bl_ HB)) : w.heap.size ≤ gb316)); have n3_ := Aside0.mk ((by rw [hg]; exact (below_size (bl_ HB)) : w.heap.size ≤ gb316)); clear HB; have HB := n0_; have BK316 := n1_; have GW316 := n2_; have GE316 := n3_; clear n0_ n1_ n2_ n3_; clear hb hbox hg; have hcz8_0 : w7.cell? ⟨gb316, 0, none⟩ = some (.int .i64 a0_0) := bc_ BK316 0 rfl; have hcz8_1 : w7.cell? ⟨gb316, 1, none⟩ = some (.slice A0_1 l0_1.length c0_1) := bc_ BK316 1 rfl; have hcz8_2 : w7.cell? ⟨gb316, 2, none⟩ = some (.slice A0_2 l0_2.length c0_2) := bc_ BK316 2 rfl; have hcz8_3 : w7.cell? ⟨gb316, 3, none⟩ = some (.int .i64 a0_3) := bc_ BK316 3 rfl; have hcz8_4 : w7.cell? ⟨gb316, 4, none⟩ = some (.int .i64 a0_4) := bc_ BK316 4 rfl; have hcz8_5 : w7.cell? ⟨gb316, 5, none⟩ = some (.int .i64 a0_5) := bc_ BK316 5 rfl; have hcz8_6 : w7.cell? ⟨gb316, 6, none⟩ = some (.int .i64 a0_6) := bc_ BK316 6 rfl; have hcz8_7 : w7.cell? ⟨gb316, 7, none⟩ = some (.int .i64 a0_7) := bc_ BK316 7 rfl; have hcz8_8 : w7.cell? ⟨gb316, 8, none⟩ = some (.slice A0_8 l0_8.length c0_8) := bc_ BK316 8 rfl; have hcz8_9 : w7.cell? ⟨gb316, 9, none⟩ = some (.int .i64 a0_9) := bc_ BK316 9 rfl; have hfz8_0 := bf_ BK316 0; have hfz8_1 := bf_ BK316 1; have hfz8_2 := bf_ BK316 2; have hfz8_3 := bf_ BK316 3; have hfz8_4 := bf_ BK316 4; have hfz8_5 := bf_ BK316 5; have hfz8_6 := bf_ BK316 6; have hfz8_7 := bf_ BK316 7; have hfz8_8 := bf_ BK316 8; have hfz8_9 := bf_ BK316 9) | ((with_reducible refine gate_callee (f := 68) rfl ?_); refine goesL_ (some 12) rfl rfl Try.func68 (by kernel_rfl) rfl #[.agg #[.int .i64 a0_0, .slice A0_1 l0_1.length c0_1, .slice A0_2 l0_2.length c0_2, .int .i64 a0_3, .int .i64 a0_4, .int .i64 a0_5, .int .i64 a0_6, .int .i64 a0_7, .slice A0_8 l0_8.length c0_8, .int .i64 a0_9], .int .i64 a1] rfl mp_ ?_; (with_reducible refine (impl_isSatellite.calls a0_0 _ _ l0_1 _ _ l0_2 a0_3 a0_4 a0_5 a0_6 a0_7 _ _ l0_8 a0_9 a1 true _ ?side1 ?side2 ?side3 ?side4 ?side5 ?side6 A4.out).mono ?_); (case side1 => exact ck_ HR0_1 HB); (case side2 => exact HC0_1.out); (case side3 => exact ck_ HR0_2 HB); (case side4 => exact HC0_2.out); (case side5 => exact ck_ HR0_8 HB); (case side6 => exact HC0_8.out); rintro e w9 ⟨rfl, hb⟩; refine ⟨_, rfl, ?_⟩; have n0_ := Aside0.mk (blk_below (bk_ BK316) hb); have n1_ := Aside0.mk (below_step (bl1_ HB GE316) hb); clear BK316; clear HB; have BK316 := n0_; have HB := n1_; clear n0_ n1_; (try clear hb); (try clear hb2); (try clear hk); (try clear hi); have hcz10_0 : w9.cell? ⟨gb316, 0, none⟩ = some (.int .i64 a0_0) := bc_ BK316 0 rfl; have hcz10_1 : w9.cell? ⟨gb316, 1, none⟩ = some (.slice A0_1 l0_1.length c0_1) := bc_ BK316 1 rfl; have hcz10_2 : w9.cell? ⟨gb316, 2, none⟩ = some (.slice A0_2 l0_2.length c0_2) := bc_ BK316 2 rfl; have hcz10_3 : w9.cell? ⟨gb316, 3, none⟩ = some (.int .i64 a0_3) := bc_ BK316 3 rfl; have hcz10_4 : w9.cell? ⟨gb316, 4, none⟩ = some (.int .i64 a0_4) := bc_ BK316 4 rfl; have hcz10_5 : w9.cell? ⟨gb316, 5, none⟩ = some (.int .i64 a0_5) := bc_ BK316 5 rfl; have hcz10_6 : w9.cell? ⟨gb316, 6, none⟩ = some (.int .i64 a0_6) := bc_ BK316 6 rfl; have hcz10_7 : w9.cell? ⟨gb316, 7, none⟩ = some (.int .i64 a0_7) := bc_ BK316 7 rfl; have hcz10_8 : w9.cell? ⟨gb316, 8, none⟩ = some (.slice A0_8 l0_8.length c0_8) := bc_ BK316 8 rfl; have hcz10_9 : w9.cell? ⟨gb316, 9, none⟩ = some (.int .i64 a0_9) := bc_ BK316 9 rfl; have hfz10_0 := bf_ BK316 0; have hfz10_1 := bf_ BK316 1; have hfz10_2 := bf_ BK316 2; have hfz10_3 := bf_ BK316 3; have hfz10_4 := bf_ BK316 4; have hfz10_5 := bf_ BK316 5; have hfz10_6 := bf_ BK316 6; have hfz10_7 := bf_ BK316 7; have hfz10_8 := bf_ BK316 8; have hfz10_9 := bf_ BK316 9) | ((with_reducible refine gate_callee (f := 69) rfl ?_); refine goesL_ (some 17) rfl rfl Try.func69 (by kernel_rfl) rfl #[.agg #[.int .i64 a0_0, .slice A0_1 l0_1.length c0_1, .slice A0_2 l0_2.length c0_2, .int .i64 a0_3, .int .i64 a0_4, .int .i64 a0_5, .int .i64 a0_6, .int .i64 a0_7, .slice A0_8 l0_8.length c0_8, .int .i64 a0_9], .int .i64 a1, .int .i64 a2] rfl mp_ ?_; (with_reducible refine (impl_NodeAt.calls a0_0 _ _ l0_1 _ _ l0_2 a0_3 a0_4 a0_5 a0_6 a0_7 _ _ l0_8 a0_9 a1 a2 t318 t319 _ ?side1 ?side2 ?side3 ?side4 ?side5 ?side6 A6.out).mono ?_); (case side1 => exact ck_ HR0_1 HB); (case side2 => exact HC0_1.out); (case side3 => exact ck_ HR0_2 HB); (case side4 => exact HC0_2.out); (case side5 => exact ck_ HR0_8 HB); (case side6 => exact HC0_8.out); rintro e w11 ⟨rfl, hb⟩; refine ⟨_, rfl, ?_⟩; have n0_ := Aside0.mk (blk_below (bk_ BK316) hb); have n1_ := Aside0.mk (below_step (bl1_ HB GE316) hb); clear BK316; clear HB; have BK316 := n0_; have HB := n1_; clear n0_ n1_; (try clear hb); (try clear hb2); (try clear hk); (try clear hi)) | ((with_reducible refine gate_dst (N := 7) rfl ?_); refine box_event ?hg (N := 7) ?hd (cs := #[.int .i64 0, .int .i64 0]) (t := 79) ?hr ?_; (case hd => rfl); (case hg => rfl); (case hr => first | (go_simp; done) | (go_simp; rfl)); intro gb320 hg w12 hbox hb; have n0_ := Aside0.mk (blk_below (bk_ BK316) hb); have n1_ := Aside0.mk (below_step (bl1_ HB GE316) hb); have n2_ := Aside0.mk (hbox); have n3_ := Aside0.mk ((by rw [hg]; exact (below_size (bl1_ HB GE316)) : w.heap.size ≤ gb320)); have n4_ := Aside0.mk ((by rw [hg]; exact (below_size (bl1_ HB GE316)) : w.heap.size ≤ gb320)); have n5_ := Aside0.mk ((by rw [hg]; exact Nat.ne_of_lt (blk_lt (bk_ BK316)) : gb316 ≠ gb320)); have n6_ := Aside0.mk ((by rw [hg]; exact Nat.ne_of_gt (blk_lt (bk_ BK316)) : gb320 ≠ gb316)); clear BK316; clear HB; have BK316 := n0_; have HB := n1_; have BK320 := n2_; have GW320 := n3_; have GE320 := n4_; have NB316_320 := n5_; have NB320_316 := n6_; clear n0_ n1_ n2_ n3_ n4_ n5_ n6_; clear hb hbox hg; have hnb13 := NB320_316.out; have hnc13 := NB316_320.out; have hcz14_0 : w12.cell? ⟨gb320, 0, none⟩ = some (.int .i64 0) := bc_ BK320 0 rfl; have hcz14_1 : w12.cell? ⟨gb320, 1, none⟩ = some (.int .i64 0) := bc_ BK320 1 rfl; have hfz14_0 := bf_ BK320 0; have hfz14_1 := bf_ BK320 1; have hcz15_0 : w12.cell? ⟨gb316, 0, none⟩ = some (.int .i64 a0_0) := bc_ BK316 0 rfl; have hcz15_1 : w12.cell? ⟨gb316, 1, none⟩ = some (.slice A0_1 l0_1.length c0_1) := bc_ BK316 1 rfl; have hcz15_2 : w12.cell? ⟨gb316, 2, none⟩ = some (.slice A0_2 l0_2.length c0_2) := bc_ BK316 2 rfl; have hcz15_3 : w12.cell? ⟨gb316, 3, none⟩ = some (.int .i64 a0_3) := bc_ BK316 3 rfl; have hcz15_4 : w12.cell? ⟨gb316, 4, none⟩ = some (.int .i64 a0_4) := bc_ BK316 4 rfl; have hcz15_5 : w12.cell? ⟨gb316, 5, none⟩ = some (.int .i64 a0_5) := bc_ BK316 5 rfl; have hcz15_6 : w12.cell? ⟨gb316, 6, none⟩ = some (.int .i64 a0_6) := bc_ BK316 6 rfl; have hcz15_7 : w12.cell? ⟨gb316, 7, none⟩ = some (.int .i64 a0_7) := bc_ BK316 7 rfl; have hcz15_8 : w12.cell? ⟨gb316, 8, none⟩ = some (.slice A0_8 l0_8.length c0_8) := bc_ BK316 8 rfl; have hcz15_9 : w12.cell? ⟨gb316, 9, none⟩ = some (.int .i64 a0_9) := bc_ BK316 9 rfl; have hfz15_0 := bf_ BK316 0; have hfz15_1 := bf_ BK316 1; have hfz15_2 := bf_ BK316 2; have hfz15_3 := bf_ BK316 3; have hfz15_4 := bf_ BK316 4; have hfz15_5 := bf_ BK316 5; have hfz15_6 := bf_ BK316 6; have hfz15_7 := bf_ BK316 7; have hfz15_8 := bf_ BK316 8; have hfz15_9 := bf_ BK316 9))
  go_loopg [21] k (fun kq v21 w' => ∃ (x21_1 : Int), v21 = .int .i64 x21_1 ∧ Aside0 (impl_MayDisturb.l0 kq a1 l0_8 (l0_8.length : Int) x21_1 a0_0 l0_1 l0_2 a0_3 a0_4 a0_5 a0_6 a0_7 l0_8 a0_9 t318 t319 = some r) ∧ Aside0 (kq ≤ k) ∧ Aside0 (w'.heap[gb316]? = some (.cells #[.int .i64 a0_0, (.slice A0_1 l0_1.length c0_1), (.slice A0_2 l0_2.length c0_2), .int .i64 a0_3, .int .i64 a0_4, .int .i64 a0_5, .int .i64 a0_6, .int .i64 a0_7, (.slice A0_8 l0_8.length c0_8), .int .i64 a0_9] 33 (0, 0))) ∧ Aside0 (w'.heap[gb320]? = some (.cells #[.int .i64 t318, .int .i64 t319] 79 (0, 0))) ∧ Aside0 (Below w.heap.size w w'))
  case atStart => exact ⟨(0), (by first | rfl | (simp; done) | (simp [*]; done)), H', ⟨Nat.le_refl _⟩, ⟨by (with_reducible repeat (first | refine blk_drewN ?_ _ | refine blk_drew ?_ | refine blk_alloc ?_ _)); refine blk_far ?_ NB316_320.out _; (with_reducible repeat (first | refine blk_drewN ?_ _ | refine blk_drew ?_ | refine blk_alloc ?_ _)); refine blk_far ?_ NB316_320.out _; (with_reducible repeat (first | refine blk_drewN ?_ _ | refine blk_drew ?_ | refine blk_alloc ?_ _)); exact BK316.out⟩, ⟨by (with_reducible repeat (first | refine blk_drewN ?_ _ | refine blk_drew ?_ | refine blk_alloc ?_ _)); refine blk_put (cs := #[.int .i64 t318, .int .i64 0]) ?_ 1 _ rfl; (with_reducible repeat (first | refine blk_drewN ?_ _ | refine blk_drew ?_ | refine blk_alloc ?_ _)); refine blk_put (cs := #[.int .i64 0, .int .i64 0]) ?_ 0 _ rfl; (with_reducible repeat (first | refine blk_drewN ?_ _ | refine blk_drew ?_ | refine blk_alloc ?_ _)); exact BK320.out⟩, ⟨by repeat (first | (with_reducible first | exact HB.out | apply below_alloc | apply pw_below_drewN | apply below_drew1 | refine below_set ?_ GE316.out | refine below_set ?_ GE320.out) | exact HB.out)⟩⟩
  case round =>
   clear H'
   try clear c1
   try clear p2
   try clear c4
   try clear c5
   try clear c6
   try clear c13
   try clear hcz10_0
   try clear hcz10_1
   try clear hcz10_2
   try clear hcz10_3
   try clear hcz10_4
   try clear hcz10_5
   try clear hcz10_6
   try clear hcz10_7
   try clear hcz10_8
   try clear hcz10_9
   try clear hcz14_0
   try clear hcz14_1
   try clear hcz15_0
   try clear hcz15_1
   try clear hcz15_2
   try clear hcz15_3
   try clear hcz15_4
   try clear hcz15_5
   try clear hcz15_6
   try clear hcz15_7
   try clear hcz15_8
   try clear hcz15_9
   try clear hcz8_0
   try clear hcz8_1
   try clear hcz8_2
   try clear hcz8_3
   try clear hcz8_4
   try clear hcz8_5
   try clear hcz8_6
   try clear hcz8_7
   try clear hcz8_8
   try clear hcz8_9
   try clear hfz10_0
   try clear hfz10_1
   try clear hfz10_2
   try clear hfz10_3
   try clear hfz10_4
   try clear hfz10_5
   try clear hfz10_6
   try clear hfz10_7
   try clear hfz10_8
   try clear hfz10_9
   try clear hfz14_0
   try clear hfz14_1
   try clear hfz15_0
   try clear hfz15_1
   try clear hfz15_2
   try clear hfz15_3
   try clear hfz15_4
   try clear hfz15_5
   try clear hfz15_6
   try clear hfz15_7
   try clear hfz15_8
   try clear hfz15_9
   try clear hfz8_0
   try clear hfz8_1
   try clear hfz8_2
   try clear hfz8_3
   try clear hfz8_4
   try clear hfz8_5
   try clear hfz8_6
   try clear hfz8_7
   try clear hfz8_8
   try clear hfz8_9
   obtain ⟨x21_1, rfl, HA, HK1, BK316, BK320, HB⟩ := hrel
   cases gk with
   | zero => exact absurd HA.out (by simp [impl_MayDisturb.l0])
   | succ k1 =>
    have H := HA.out
    clear HA
    simp only [impl_MayDisturb.l0] at H
    by_cases c16 : x21_1 < (l0_8.length : Int)
    ·rw [if_pos c16] at H
     have c16b0 : decide (x21_1 < (l0_8.length : Int)) = true := decide_eq_true c16
     clear c16
     by_cases c17 : 0 ≤ x21_1
     ·rw [if_pos c17] at H
      have c17b0 : decide (0 ≤ x21_1) = true := decide_eq_true c17
      clear c17
      by_cases c18 : x21_1 < (l0_8.length : Int)
      ·rw [if_pos c18] at H
       have c18b0 : decide (x21_1 < (l0_8.length : Int)) = true := decide_eq_true c18
       clear c18
       by_cases c19 : 0 ≤ a1
       ·rw [if_pos c19] at H
        have c19b0 : decide (0 ≤ a1) = true := decide_eq_true c19
        clear c19
        by_cases c20 : a1 < (l0_1.length : Int)
        ·rw [if_pos c20] at H
         have c20b0 : decide (a1 < (l0_1.length : Int)) = true := decide_eq_true c20
         clear c20
         by_cases c21 : ((rd_T81 l0_8 x21_1).f0) = ((rd_T71 l0_1 a1).f0)
         ·rw [if_pos c21] at H
          have c21b0 : (((rd_T81 l0_8 x21_1).f0) == ((rd_T71 l0_1 a1).f0)) = true := beq_iff_eq.mpr c21
          have c21b1 : (((rd_T81 l0_8 x21_1).f0) != ((rd_T71 l0_1 a1).f0)) = false := bne_eq_false_iff_eq.mpr c21
          clear c21
          replace H := Option.bind_eq_some_iff.mp H
          obtain ⟨t324, A220, H⟩ := H
          have A22 := Aside0.mk A220
          clear A220
          by_cases c23 : t324 = true
          ·subst c23
           have H1 : (some true) = some r := by rw [if_pos rfl] at H; exact H
           clear H
           have H := H1
           clear H1
           obtain rfl := Option.some.inj H
           have p321 : 0 ≤ (x21_1 : Int) := of_decide_eq_true (by first | (with_reducible assumption) | assumption)
           have q321 : x21_1 < (l0_8.length : Int) := of_decide_eq_true (by first | (with_reducible assumption) | assumption)
           obtain ⟨ad321, e321, hx321_0, hx321_1, hx321_2⟩ := at_T81 HR0_8.out x21_1 p321 q321
           cases e321
           replace hx321_0 := (HB.out.cell (World.block_lt_of_cell? w _ hx321_0)).trans hx321_0
           replace hx321_1 := (HB.out.cell (World.block_lt_of_cell? w _ hx321_1)).trans hx321_1
           replace hx321_2 := (HB.out.cell (World.block_lt_of_cell? w _ hx321_2)).trans hx321_2
           replace p321 := eq_true p321
           replace q321 := eq_true q321
           try go_wp2_with (first | ((with_reducible refine gate_dst (N := 9) rfl ?_); refine box_event ?hg (N := 9) ?hd (cs := #[.int .i64 0, .int .i64 0, .int .i64 0]) (t := 81) ?hr ?_; (case hd => rfl); (case hg => rfl); (case hr => first | (go_simp; done) | (go_simp; rfl)); intro gb322 hg w24 hbox hb; have n0_ := Aside0.mk (blk_below (bk_ BK316) hb); have n1_ := Aside0.mk (blk_below (bk_ BK320) hb); have n2_ := Aside0.mk (below_step (bl2_ HB GE316 GE320) hb); have n3_ := Aside0.mk (hbox); have n4_ := Aside0.mk ((by rw [hg]; exact (below_size (bl2_ HB GE316 GE320)) : w.heap.size ≤ gb322)); have n5_ := Aside0.mk ((by rw [hg]; exact (below_size (bl2_ HB GE316 GE320)) : w.heap.size ≤ gb322)); have n6_ := Aside0.mk ((by rw [hg]; exact Nat.ne_of_lt (blk_lt (bk_ BK316)) : gb316 ≠ gb322)); have n7_ := Aside0.mk ((by rw [hg]; exact Nat.ne_of_gt (blk_lt (bk_ BK316)) : gb322 ≠ gb316)); have n8_ := Aside0.mk ((by rw [hg]; exact Nat.ne_of_lt (blk_lt (bk_ BK320)) : gb320 ≠ gb322)); have n9_ := Aside0.mk ((by rw [hg]; exact Nat.ne_of_gt (blk_lt (bk_ BK320)) : gb322 ≠ gb320)); clear BK316; clear BK320; clear HB; have BK316 := n0_; have BK320 := n1_; have HB := n2_; have BK322 := n3_; have GW322 := n4_; have GE322 := n5_; have NB316_322 := n6_; have NB322_316 := n7_; have NB320_322 := n8_; have NB322_320 := n9_; clear n0_ n1_ n2_ n3_ n4_ n5_ n6_ n7_ n8_ n9_; clear hb hbox hg; have hnb25 := NB322_316.out; have hnc25 := NB316_322.out; have hnb26 := NB322_320.out; have hnc26 := NB320_322.out; have hcz27_0 : w24.cell? ⟨gb322, 0, none⟩ = some (.int .i64 0) := bc_ BK322 0 rfl; have hcz27_1 : w24.cell? ⟨gb322, 1, none⟩ = some (.int .i64 0) := bc_ BK322 1 rfl; have hcz27_2 : w24.cell? ⟨gb322, 2, none⟩ = some (.int .i64 0) := bc_ BK322 2 rfl; have hfz27_0 := bf_ BK322 0; have hfz27_1 := bf_ BK322 1; have hfz27_2 := bf_ BK322 2))
           have n0_ : Aside0 ((((w24.setCell ⟨gb322, 0, none⟩ (.int .i64 ((rd_T81 l0_8 x21_1).f0))).setCell ⟨gb322, 1, none⟩ (.int .i64 ((rd_T81 l0_8 x21_1).f1.f0))).setCell ⟨gb322, 2, none⟩ (.int .i64 ((rd_T81 l0_8 x21_1).f1.f1))).heap[gb316]? = some (.cells #[.int .i64 a0_0, .slice A0_1 l0_1.length c0_1, .slice A0_2 l0_2.length c0_2, .int .i64 a0_3, .int .i64 a0_4, .int .i64 a0_5, .int .i64 a0_6, .int .i64 a0_7, .slice (some ad321) l0_8.length c0_8, .int .i64 a0_9] 33 (0, 0))) := ⟨by (with_reducible repeat (first | refine blk_drewN ?_ _ | refine blk_drew ?_ | refine blk_alloc ?_ _)); refine blk_far ?_ NB316_322.out _; (with_reducible repeat (first | refine blk_drewN ?_ _ | refine blk_drew ?_ | refine blk_alloc ?_ _)); refine blk_far ?_ NB316_322.out _; (with_reducible repeat (first | refine blk_drewN ?_ _ | refine blk_drew ?_ | refine blk_alloc ?_ _)); refine blk_far ?_ NB316_322.out _; (with_reducible repeat (first | refine blk_drewN ?_ _ | refine blk_drew ?_ | refine blk_alloc ?_ _)); exact BK316.out⟩
           have n1_ : Aside0 ((((w24.setCell ⟨gb322, 0, none⟩ (.int .i64 ((rd_T81 l0_8 x21_1).f0))).setCell ⟨gb322, 1, none⟩ (.int .i64 ((rd_T81 l0_8 x21_1).f1.f0))).setCell ⟨gb322, 2, none⟩ (.int .i64 ((rd_T81 l0_8 x21_1).f1.f1))).heap[gb320]? = some (.cells #[.int .i64 t318, .int .i64 t319] 79 (0, 0))) := ⟨by (with_reducible repeat (first | refine blk_drewN ?_ _ | refine blk_drew ?_ | refine blk_alloc ?_ _)); refine blk_far ?_ NB320_322.out _; (with_reducible repeat (first | refine blk_drewN ?_ _ | refine blk_drew ?_ | refine blk_alloc ?_ _)); refine blk_far ?_ NB320_322.out _; (with_reducible repeat (first | refine blk_drewN ?_ _ | refine blk_drew ?_ | refine blk_alloc ?_ _)); refine blk_far ?_ NB320_322.out _; (with_reducible repeat (first | refine blk_drewN ?_ _ | refine blk_drew ?_ | refine blk_alloc ?_ _)); exact BK320.out⟩
           have n2_ : Aside0 ((((w24.setCell ⟨gb322, 0, none⟩ (.int .i64 ((rd_T81 l0_8 x21_1).f0))).setCell ⟨gb322, 1, none⟩ (.int .i64 ((rd_T81 l0_8 x21_1).f1.f0))).setCell ⟨gb322, 2, none⟩ (.int .i64 ((rd_T81 l0_8 x21_1).f1.f1))).heap[gb322]? = some (.cells #[.int .i64 ((rd_T81 l0_8 x21_1).f0), .int .i64 ((rd_T81 l0_8 x21_1).f1.f0), .int .i64 ((rd_T81 l0_8 x21_1).f1.f1)] 81 (0, 0))) := ⟨by (with_reducible repeat (first | refine blk_drewN ?_ _ | refine blk_drew ?_ | refine blk_alloc ?_ _)); refine blk_put (cs := #[.int .i64 ((rd_T81 l0_8 x21_1).f0), .int .i64 ((rd_T81 l0_8 x21_1).f1.f0), .int .i64 0]) ?_ 2 _ rfl; (with_reducible repeat (first | refine blk_drewN ?_ _ | refine blk_drew ?_ | refine blk_alloc ?_ _)); refine blk_put (cs := #[.int .i64 ((rd_T81 l0_8 x21_1).f0), .int .i64 0, .int .i64 0]) ?_ 1 _ rfl; (with_reducible repeat (first | refine blk_drewN ?_ _ | refine blk_drew ?_ | refine blk_alloc ?_ _)); refine blk_put (cs := #[.int .i64 0, .int .i64 0, .int .i64 0]) ?_ 0 _ rfl; (with_reducible repeat (first | refine blk_drewN ?_ _ | refine blk_drew ?_ | refine blk_alloc ?_ _)); exact BK322.out⟩
           have n3_ : Aside0 (Below w.heap.size w (((w24.setCell ⟨gb322, 0, none⟩ (.int .i64 ((rd_T81 l0_8 x21_1).f0))).setCell ⟨gb322, 1, none⟩ (.int .i64 ((rd_T81 l0_8 x21_1).f1.f0))).setCell ⟨gb322, 2, none⟩ (.int .i64 ((rd_T81 l0_8 x21_1).f1.f1)))) := ⟨by repeat (first | (with_reducible first | exact HB.out | apply below_alloc | apply pw_below_drewN | apply below_drew1 | refine below_set ?_ GE316.out | refine below_set ?_ GE320.out | refine below_set ?_ GE322.out) | exact HB.out)⟩
           (try clear BK316)
           (try clear BK320)
           (try clear BK322)
           (try clear HB)
           generalize (((w24.setCell ⟨gb322, 0, none⟩ (.int .i64 ((rd_T81 l0_8 x21_1).f0))).setCell ⟨gb322, 1, none⟩ (.int .i64 ((rd_T81 l0_8 x21_1).f1.f0))).setCell ⟨gb322, 2, none⟩ (.int .i64 ((rd_T81 l0_8 x21_1).f1.f1))) = w28 at n0_ n1_ n2_ n3_ ⊢
           have BK316 := n0_
           have BK320 := n1_
           have BK322 := n2_
           have HB := n3_
           clear n0_ n1_ n2_ n3_
           have n0_ := Aside0.mk (blk_drew BK316.out)
           have n1_ := Aside0.mk (blk_drew BK320.out)
           have n2_ := Aside0.mk (blk_drew BK322.out)
           have n3_ := Aside0.mk (below_drew1 HB.out)
           clear BK316
           clear BK320
           clear BK322
           clear HB
           have BK316 := n0_
           have BK320 := n1_
           have BK322 := n2_
           have HB := n3_
           clear n0_ n1_ n2_ n3_
           have p323 : 0 ≤ (a1 : Int) := of_decide_eq_true (by first | (with_reducible assumption) | assumption)
           have q323 : a1 < (l0_1.length : Int) := of_decide_eq_true (by first | (with_reducible assumption) | assumption)
           obtain ⟨ad323, e323, hx323_0, hx323_1, hx323_2, hx323_3⟩ := at_T71 HR0_1.out a1 p323 q323
           have hw323_3 := hx323_3
           have hw323_2 := hx323_2
           have hw323_1 := hx323_1
           have hw323_0 := hx323_0
           cases e323
           replace hx323_0 := (HB.out.cell (World.block_lt_of_cell? w _ hx323_0)).trans hx323_0
           replace hx323_1 := (HB.out.cell (World.block_lt_of_cell? w _ hx323_1)).trans hx323_1
           replace hx323_2 := (HB.out.cell (World.block_lt_of_cell? w _ hx323_2)).trans hx323_2
           replace hx323_3 := (HB.out.cell (World.block_lt_of_cell? w _ hx323_3)).trans hx323_3
           replace p323 := eq_true p323
           replace q323 := eq_true q323
           refine start_ (n := 15) (S := fun w' => w'.cell? ⟨gb322, 0, none⟩ = some (.int .i64 ((rd_T81 l0_8 x21_1).f0)) ∧ w'.cell? ⟨gb322, 1, none⟩ = some (.int .i64 ((rd_T81 l0_8 x21_1).f1.f0)) ∧ w'.cell? ⟨gb322, 2, none⟩ = some (.int .i64 ((rd_T81 l0_8 x21_1).f1.f1)) ∧ w'.cell? ⟨gb316, 0, none⟩ = some (.int .i64 a0_0) ∧ w'.cell? ⟨gb316, 1, none⟩ = some (.slice (some ad323) l0_1.length c0_1) ∧ w'.cell? ⟨gb316, 2, none⟩ = some (.slice A0_2 l0_2.length c0_2) ∧ w'.cell? ⟨gb316, 3, none⟩ = some (.int .i64 a0_3) ∧ w'.cell? ⟨gb316, 4, none⟩ = some (.int .i64 a0_4) ∧ w'.cell? ⟨gb316, 5, none⟩ = some (.int .i64 a0_5) ∧ w'.cell? ⟨gb316, 6, none⟩ = some (.int .i64 a0_6) ∧ w'.cell? ⟨gb316, 7, none⟩ = some (.int .i64 a0_7) ∧ w'.cell? ⟨gb316, 8, none⟩ = some (.slice (some ad321) l0_8.length c0_8) ∧ w'.cell? ⟨gb316, 9, none⟩ = some (.int .i64 a0_9) ∧ w'.cell? ⟨gb320, 0, none⟩ = some (.int .i64 t318) ∧ w'.cell? ⟨gb320, 1, none⟩ = some (.int .i64 t319) ∧ w'.cell? (ad323.add ((a1).toNat * 4)) = some (.int .i64 ((rd_T71 l0_1 a1).f0)) ∧ w'.cell? ⟨(ad323.add ((a1).toNat * 4)).block, (ad323.add ((a1).toNat * 4)).off + 1, none⟩ = some (.int .i64 ((rd_T71 l0_1 a1).f1)) ∧ w'.cell? ⟨(ad323.add ((a1).toNat * 4)).block, (ad323.add ((a1).toNat * 4)).off + 2, none⟩ = some (.int .i64 ((rd_T71 l0_1 a1).f2)) ∧ w'.cell? ⟨(ad323.add ((a1).toNat * 4)).block, (ad323.add ((a1).toNat * 4)).off + 3, none⟩ = some (.int .i64 ((rd_T71 l0_1 a1).f3))) (ds := []) #[false, false, false, false, false, false, false, false, false, false, false, false, false, false, false] (by kernel_rfl) rfl rfl ⟨(bc_ BK322 0 rfl), (bc_ BK322 1 rfl), (bc_ BK322 2 rfl), (bc_ BK316 0 rfl), (bc_ BK316 1 rfl), (bc_ BK316 2 rfl), (bc_ BK316 3 rfl), (bc_ BK316 4 rfl), (bc_ BK316 5 rfl), (bc_ BK316 6 rfl), (bc_ BK316 7 rfl), (bc_ BK316 8 rfl), (bc_ BK316 9 rfl), (bc_ BK320 0 rfl), (bc_ BK320 1 rfl), ((HB.out.cell (World.block_lt_of_cell? w _ hw323_0)).trans hw323_0), ((HB.out.cell (World.block_lt_of_cell? w _ hw323_1)).trans hw323_1), ((HB.out.cell (World.block_lt_of_cell? w _ hw323_2)).trans hw323_2), ((HB.out.cell (World.block_lt_of_cell? w _ hw323_3)).trans hw323_3)⟩ (fun hHeld => ?_); refine with_tabW impl_MayDisturb.tab7 impl_MayDisturb.bits7 (fun HT_ HW_ => ?_)
           generalize w28.drew = w29 at BK316 BK320 BK322 HB hx323_0 hx323_1 hx323_2 hx323_3 hHeld ⊢
           refine pure_ (i := 0) (N := some 25) (v := ?_) (a' := ?_) #[true, false, false, false, false, false, false, false, false, false, false, false, false, false, false] rfl rfl (any_of HT_.out (by kernel_rfl)) (fun _ _ _ h => h) (Or.inl ⟨by rfl, ?_⟩) ?_ ?_
           rotate_left
           ·intro w'
            go_simp
            with_reducible rfl
           rotate_left
           ·simp only [Act.put, List.setIfInBounds_toArray, List.set_cons_zero, List.set_cons_succ, i64_w, i32_w]
            rfl
           refine pure_ (i := 2) (N := some 27) (v := ?_) (a' := ?_) #[true, false, true, false, false, false, false, false, false, false, false, false, false, false, false] rfl rfl (any_of HT_.out (by kernel_rfl)) (fun _ _ _ h => h) (Or.inl ⟨by rfl, ?_⟩) ?_ ?_
           rotate_left
           ·intro w'
            go_simp
            with_reducible rfl
           rotate_left
           ·simp only [Act.put, List.setIfInBounds_toArray, List.set_cons_zero, List.set_cons_succ, i64_w, i32_w]
            rfl
           refine pure_ (i := 4) (N := some 29) (v := ?_) (a' := ?_) #[true, false, true, false, true, false, false, false, false, false, false, false, false, false, false] rfl rfl (any_of HT_.out (by kernel_rfl)) (fun _ _ _ h => h) (Or.inl ⟨by rfl, ?_⟩) ?_ ?_
           rotate_left
           ·intro w'
            go_simp
            with_reducible rfl
           rotate_left
           ·simp only [Act.put, List.setIfInBounds_toArray, List.set_cons_zero, List.set_cons_succ, i64_w, i32_w]
            rfl
           refine take_ (i := 1) (N := some 26) (v := ?_) (a' := ?_) #[true, true, true, false, true, false, false, false, false, false, false, false, false, false, false] rfl rfl (take_ofW HT_.out HW_.out (by kernel_rfl)) (fun _ _ _ h => h) (Or.inl ⟨by rfl, ?_⟩) hHeld ?_ ?_
           rotate_left
           ·rintro w' ⟨s0, s1, s2, s3, s4, s5, s6, s7, s8, s9, s10, s11, s12, s13, s14, s15, s16, s17, s18⟩
            go_simp
            with_reducible rfl
           rotate_left
           ·simp only [Act.put, List.setIfInBounds_toArray, List.set_cons_zero, List.set_cons_succ, i64_w, i32_w]
            rfl
           refine take_ (i := 3) (N := some 28) (v := ?_) (a' := ?_) #[true, true, true, true, true, false, false, false, false, false, false, false, false, false, false] rfl rfl (take_ofW HT_.out HW_.out (by kernel_rfl)) (fun _ _ _ h => h) (Or.inl ⟨by rfl, ?_⟩) hHeld ?_ ?_
           rotate_left
           ·rintro w' ⟨s0, s1, s2, s3, s4, s5, s6, s7, s8, s9, s10, s11, s12, s13, s14, s15, s16, s17, s18⟩
            go_simp
            with_reducible rfl
           rotate_left
           ·simp only [Act.put, List.setIfInBounds_toArray, List.set_cons_zero, List.set_cons_succ, i64_w, i32_w]
            rfl
           refine pure_ (i := 5) (N := some 30) (v := ?_) (a' := ?_) #[true, true, true, true, true, true, false, false, false, false, false, false, false, false, false] rfl rfl (any_of HT_.out (by kernel_rfl)) (fun _ _ _ h => h) (Or.inl ⟨by rfl, ?_⟩) ?_ ?_
           rotate_left
           ·intro w'
            go_simp
            with_reducible rfl
           rotate_left
           ·simp only [Act.put, List.setIfInBounds_toArray, List.set_cons_zero, List.set_cons_succ, i64_w, i32_w]
            rfl
           refine pure_ (i := 6) (N := some 31) (v := ?_) (a' := ?_) #[true, true, true, true, true, true, true, false, false, false, false, false, false, false, false] rfl rfl (any_of HT_.out (by kernel_rfl)) (fun _ _ _ h => h) (Or.inl ⟨by rfl, ?_⟩) ?_ ?_
           rotate_left
           ·intro w'
            go_simp
            with_reducible rfl
           rotate_left
           ·simp only [Act.put, List.setIfInBounds_toArray, List.set_cons_zero, List.set_cons_succ, i64_w, i32_w]
            rfl
           refine take_ (i := 7) (N := some 32) (v := ?_) (a' := ?_) #[true, true, true, true, true, true, true, true, false, false, false, false, false, false, false] rfl rfl (take_ofW HT_.out HW_.out (by kernel_rfl)) (fun _ _ _ h => h) (Or.inl ⟨by rfl, ?_⟩) hHeld ?_ ?_
           rotate_left
           ·rintro w' ⟨s0, s1, s2, s3, s4, s5, s6, s7, s8, s9, s10, s11, s12, s13, s14, s15, s16, s17, s18⟩
            go_simp
            with_reducible rfl
           rotate_left
           ·simp only [Act.put, List.setIfInBounds_toArray, List.set_cons_zero, List.set_cons_succ, i64_w, i32_w]
            rfl
           refine pure_ (i := 8) (N := some 33) (v := ?_) (a' := ?_) #[true, true, true, true, true, true, true, true, true, false, false, false, false, false, false] rfl rfl (any_of HT_.out (by kernel_rfl)) (fun _ _ _ h => h) (Or.inl ⟨by rfl, ?_⟩) ?_ ?_
           rotate_left
           ·intro w'
            go_simp
            with_reducible rfl
           rotate_left
           ·simp only [Act.put, List.setIfInBounds_toArray, List.set_cons_zero, List.set_cons_succ, i64_w, i32_w]
            rfl
           refine pure_ (i := 9) (N := some 34) (v := ?_) (a' := ?_) #[true, true, true, true, true, true, true, true, true, true, false, false, false, false, false] rfl rfl (any_of HT_.out (by kernel_rfl)) (fun _ _ _ h => h) (Or.inl ⟨by rfl, ?_⟩) ?_ ?_
           rotate_left
           ·intro w'
            go_simp
            with_reducible rfl
           rotate_left
           ·simp only [Act.put, List.setIfInBounds_toArray, List.set_cons_zero, List.set_cons_succ, i64_w, i32_w]
            rfl
           refine pure_ (i := 11) (N := some 36) (v := ?_) (a' := ?_) #[true, true, true, true, true, true, true, true, true, true, false, true, false, false, false] rfl rfl (any_of HT_.out (by kernel_rfl)) (fun _ _ _ h => h) (Or.inl ⟨by rfl, ?_⟩) ?_ ?_
           rotate_left
           ·intro w'
            go_simp
            with_reducible rfl
           rotate_left
           ·simp only [Act.put, List.setIfInBounds_toArray, List.set_cons_zero, List.set_cons_succ, i64_w, i32_w]
            rfl
           refine take_ (i := 10) (N := some 35) (v := ?_) (a' := ?_) #[true, true, true, true, true, true, true, true, true, true, true, true, false, false, false] rfl rfl (take_ofW HT_.out HW_.out (by kernel_rfl)) (fun _ _ _ h => h) (Or.inl ⟨by rfl, ?_⟩) hHeld ?_ ?_
           rotate_left
           ·rintro w' ⟨s0, s1, s2, s3, s4, s5, s6, s7, s8, s9, s10, s11, s12, s13, s14, s15, s16, s17, s18⟩
            go_simp
            with_reducible rfl
           rotate_left
           ·simp only [Act.put, List.setIfInBounds_toArray, List.set_cons_zero, List.set_cons_succ, i64_w, i32_w]
            rfl
           refine take_ (i := 12) (N := some 37) (v := ?_) (a' := ?_) #[true, true, true, true, true, true, true, true, true, true, true, true, true, false, false] rfl rfl (take_ofW HT_.out HW_.out (by kernel_rfl)) (fun _ _ _ h => h) (Or.inl ⟨by rfl, ?_⟩) hHeld ?_ ?_
           rotate_left
           ·rintro w' ⟨s0, s1, s2, s3, s4, s5, s6, s7, s8, s9, s10, s11, s12, s13, s14, s15, s16, s17, s18⟩
            go_simp
            with_reducible rfl
           rotate_left
           ·simp only [Act.put, List.setIfInBounds_toArray, List.set_cons_zero, List.set_cons_succ, i64_w, i32_w]
            rfl
           refine one_ (i := 13) (N := some 38) #[true, true, true, true, true, true, true, true, true, true, true, true, true, true, false] rfl rfl (one_of HT_.out (by kernel_rfl)) (by decide) (fun K hK => ?_)
           refine goes_ Try.func70 (by kernel_rfl) rfl #[.agg #[.int .i64 t318, .int .i64 t319], .agg #[.int .i64 ((rd_T81 l0_8 x21_1).f1.f0), .int .i64 ((rd_T81 l0_8 x21_1).f1.f1)]] (by rfl) rfl rfl mp_ ?_
           with_reducible refine (impl_ArcsMeet.calls k1 t318 t319 ((rd_T81 l0_8 x21_1).f1.f0) ((rd_T81 l0_8 x21_1).f1.f1) true _ A22.out).mono ?_
           rintro e w30 ⟨rfl, hb⟩
           refine ⟨_, rfl, ?_⟩
           have n0_ := Aside0.mk (blk_below (bk_ BK316) hb)
           have n1_ := Aside0.mk (blk_below (bk_ BK320) hb)
           have n2_ := Aside0.mk (blk_below (bk_ BK322) hb)
           have n3_ := Aside0.mk (below_step (bl3_ HB GE316 GE320 GE322) hb)
           clear BK316
           clear BK320
           clear BK322
           clear HB
           have BK316 := n0_
           have BK320 := n1_
           have BK322 := n2_
           have HB := n3_
           clear n0_ n1_ n2_ n3_
           (try clear hb)
           (try clear hb2)
           (try clear hk)
           (try clear hi)
           refine hK.out _ _ ⟨(bc_ BK322 0 rfl), (bc_ BK322 1 rfl), (bc_ BK322 2 rfl), (bc_ BK316 0 rfl), (bc_ BK316 1 rfl), (bc_ BK316 2 rfl), (bc_ BK316 3 rfl), (bc_ BK316 4 rfl), (bc_ BK316 5 rfl), (bc_ BK316 6 rfl), (bc_ BK316 7 rfl), (bc_ BK316 8 rfl), (bc_ BK316 9 rfl), (bc_ BK320 0 rfl), (bc_ BK320 1 rfl), ((HB.out.cell (World.block_lt_of_cell? w _ hw323_0)).trans hw323_0), ((HB.out.cell (World.block_lt_of_cell? w _ hw323_1)).trans hw323_1), ((HB.out.cell (World.block_lt_of_cell? w _ hw323_2)).trans hw323_2), ((HB.out.cell (World.block_lt_of_cell? w _ hw323_3)).trans hw323_3)⟩ (fun hHeld => ?_)
           clear hK K
           refine norm_ (a' := ?_) ?_ ?_
           rotate_left
           ·show Act.put _ (some 38) _ = _
            simp only [Act.put, List.setIfInBounds_toArray, List.set_cons_zero, List.set_cons_succ, i64_w, i32_w]
            rfl
           refine pure_ (i := 14) (N := some 39) (v := ?_) (a' := ?_) #[true, true, true, true, true, true, true, true, true, true, true, true, true, true, true] rfl rfl (any_of HT_.out (by kernel_rfl)) (fun _ _ _ h => h) (Or.inl ⟨by rfl, ?_⟩) ?_ ?_
           rotate_left
           ·intro w'
            go_simp
            with_reducible rfl
           rotate_left
           ·simp only [Act.put, List.setIfInBounds_toArray, List.set_cons_zero, List.set_cons_succ, i64_w, i32_w]
            rfl
           refine done_ (done_of HT_.out (by kernel_rfl)) ?_
           try go_wp2
           go_ret
           exact ⟨by first | rfl | (simp [errW_none, errW_some] <;> rfl) | (simp [*, errW_none, errW_some] <;> rfl), by repeat (first | (with_reducible first | exact HB.out | apply below_alloc | apply pw_below_drewN | apply below_drew1 | refine below_set ?_ GE316.out | refine below_set ?_ GE320.out | refine below_set ?_ GE322.out) | exact HB.out)⟩
          ·replace c23 := Bool.eq_false_iff.mpr c23
           subst c23
           have H1 : (impl_MayDisturb.l0 k1 a1 l0_8 (l0_8.length : Int) (wrap64 (x21_1 + 1)) a0_0 l0_1 l0_2 a0_3 a0_4 a0_5 a0_6 a0_7 l0_8 a0_9 t318 t319) = some r := by rw [if_neg (show ¬ (false = true) by decide)] at H; exact H
           clear H
           have H := H1
           clear H1
           have H' := Aside0.mk H
           clear H
           have p321 : 0 ≤ (x21_1 : Int) := of_decide_eq_true (by first | (with_reducible assumption) | assumption)
           have q321 : x21_1 < (l0_8.length : Int) := of_decide_eq_true (by first | (with_reducible assumption) | assumption)
           obtain ⟨ad321, e321, hx321_0, hx321_1, hx321_2⟩ := at_T81 HR0_8.out x21_1 p321 q321
           cases e321
           replace hx321_0 := (HB.out.cell (World.block_lt_of_cell? w _ hx321_0)).trans hx321_0
           replace hx321_1 := (HB.out.cell (World.block_lt_of_cell? w _ hx321_1)).trans hx321_1
           replace hx321_2 := (HB.out.cell (World.block_lt_of_cell? w _ hx321_2)).trans hx321_2
           replace p321 := eq_true p321
           replace q321 := eq_true q321
           try go_wp2_with (first | ((with_reducible refine gate_dst (N := 9) rfl ?_); refine box_event ?hg (N := 9) ?hd (cs := #[.int .i64 0, .int .i64 0, .int .i64 0]) (t := 81) ?hr ?_; (case hd => rfl); (case hg => rfl); (case hr => first | (go_simp; done) | (go_simp; rfl)); intro gb322 hg w31 hbox hb; have n0_ := Aside0.mk (blk_below (bk_ BK316) hb); have n1_ := Aside0.mk (blk_below (bk_ BK320) hb); have n2_ := Aside0.mk (below_step (bl2_ HB GE316 GE320) hb); have n3_ := Aside0.mk (hbox); have n4_ := Aside0.mk ((by rw [hg]; exact (below_size (bl2_ HB GE316 GE320)) : w.heap.size ≤ gb322)); have n5_ := Aside0.mk ((by rw [hg]; exact (below_size (bl2_ HB GE316 GE320)) : w.heap.size ≤ gb322)); have n6_ := Aside0.mk ((by rw [hg]; exact Nat.ne_of_lt (blk_lt (bk_ BK316)) : gb316 ≠ gb322)); have n7_ := Aside0.mk ((by rw [hg]; exact Nat.ne_of_gt (blk_lt (bk_ BK316)) : gb322 ≠ gb316)); have n8_ := Aside0.mk ((by rw [hg]; exact Nat.ne_of_lt (blk_lt (bk_ BK320)) : gb320 ≠ gb322)); have n9_ := Aside0.mk ((by rw [hg]; exact Nat.ne_of_gt (blk_lt (bk_ BK320)) : gb322 ≠ gb320)); clear BK316; clear BK320; clear HB; have BK316 := n0_; have BK320 := n1_; have HB := n2_; have BK322 := n3_; have GW322 := n4_; have GE322 := n5_; have NB316_322 := n6_; have NB322_316 := n7_; have NB320_322 := n8_; have NB322_320 := n9_; clear n0_ n1_ n2_ n3_ n4_ n5_ n6_ n7_ n8_ n9_; clear hb hbox hg; have hnb32 := NB322_316.out; have hnc32 := NB316_322.out; have hnb33 := NB322_320.out; have hnc33 := NB320_322.out; have hcz34_0 : w31.cell? ⟨gb322, 0, none⟩ = some (.int .i64 0) := bc_ BK322 0 rfl; have hcz34_1 : w31.cell? ⟨gb322, 1, none⟩ = some (.int .i64 0) := bc_ BK322 1 rfl; have hcz34_2 : w31.cell? ⟨gb322, 2, none⟩ = some (.int .i64 0) := bc_ BK322 2 rfl; have hfz34_0 := bf_ BK322 0; have hfz34_1 := bf_ BK322 1; have hfz34_2 := bf_ BK322 2))
           have n0_ : Aside0 ((((w31.setCell ⟨gb322, 0, none⟩ (.int .i64 ((rd_T81 l0_8 x21_1).f0))).setCell ⟨gb322, 1, none⟩ (.int .i64 ((rd_T81 l0_8 x21_1).f1.f0))).setCell ⟨gb322, 2, none⟩ (.int .i64 ((rd_T81 l0_8 x21_1).f1.f1))).heap[gb316]? = some (.cells #[.int .i64 a0_0, .slice A0_1 l0_1.length c0_1, .slice A0_2 l0_2.length c0_2, .int .i64 a0_3, .int .i64 a0_4, .int .i64 a0_5, .int .i64 a0_6, .int .i64 a0_7, .slice (some ad321) l0_8.length c0_8, .int .i64 a0_9] 33 (0, 0))) := ⟨by (with_reducible repeat (first | refine blk_drewN ?_ _ | refine blk_drew ?_ | refine blk_alloc ?_ _)); refine blk_far ?_ NB316_322.out _; (with_reducible repeat (first | refine blk_drewN ?_ _ | refine blk_drew ?_ | refine blk_alloc ?_ _)); refine blk_far ?_ NB316_322.out _; (with_reducible repeat (first | refine blk_drewN ?_ _ | refine blk_drew ?_ | refine blk_alloc ?_ _)); refine blk_far ?_ NB316_322.out _; (with_reducible repeat (first | refine blk_drewN ?_ _ | refine blk_drew ?_ | refine blk_alloc ?_ _)); exact BK316.out⟩
           have n1_ : Aside0 ((((w31.setCell ⟨gb322, 0, none⟩ (.int .i64 ((rd_T81 l0_8 x21_1).f0))).setCell ⟨gb322, 1, none⟩ (.int .i64 ((rd_T81 l0_8 x21_1).f1.f0))).setCell ⟨gb322, 2, none⟩ (.int .i64 ((rd_T81 l0_8 x21_1).f1.f1))).heap[gb320]? = some (.cells #[.int .i64 t318, .int .i64 t319] 79 (0, 0))) := ⟨by (with_reducible repeat (first | refine blk_drewN ?_ _ | refine blk_drew ?_ | refine blk_alloc ?_ _)); refine blk_far ?_ NB320_322.out _; (with_reducible repeat (first | refine blk_drewN ?_ _ | refine blk_drew ?_ | refine blk_alloc ?_ _)); refine blk_far ?_ NB320_322.out _; (with_reducible repeat (first | refine blk_drewN ?_ _ | refine blk_drew ?_ | refine blk_alloc ?_ _)); refine blk_far ?_ NB320_322.out _; (with_reducible repeat (first | refine blk_drewN ?_ _ | refine blk_drew ?_ | refine blk_alloc ?_ _)); exact BK320.out⟩
           have n2_ : Aside0 ((((w31.setCell ⟨gb322, 0, none⟩ (.int .i64 ((rd_T81 l0_8 x21_1).f0))).setCell ⟨gb322, 1, none⟩ (.int .i64 ((rd_T81 l0_8 x21_1).f1.f0))).setCell ⟨gb322, 2, none⟩ (.int .i64 ((rd_T81 l0_8 x21_1).f1.f1))).heap[gb322]? = some (.cells #[.int .i64 ((rd_T81 l0_8 x21_1).f0), .int .i64 ((rd_T81 l0_8 x21_1).f1.f0), .int .i64 ((rd_T81 l0_8 x21_1).f1.f1)] 81 (0, 0))) := ⟨by (with_reducible repeat (first | refine blk_drewN ?_ _ | refine blk_drew ?_ | refine blk_alloc ?_ _)); refine blk_put (cs := #[.int .i64 ((rd_T81 l0_8 x21_1).f0), .int .i64 ((rd_T81 l0_8 x21_1).f1.f0), .int .i64 0]) ?_ 2 _ rfl; (with_reducible repeat (first | refine blk_drewN ?_ _ | refine blk_drew ?_ | refine blk_alloc ?_ _)); refine blk_put (cs := #[.int .i64 ((rd_T81 l0_8 x21_1).f0), .int .i64 0, .int .i64 0]) ?_ 1 _ rfl; (with_reducible repeat (first | refine blk_drewN ?_ _ | refine blk_drew ?_ | refine blk_alloc ?_ _)); refine blk_put (cs := #[.int .i64 0, .int .i64 0, .int .i64 0]) ?_ 0 _ rfl; (with_reducible repeat (first | refine blk_drewN ?_ _ | refine blk_drew ?_ | refine blk_alloc ?_ _)); exact BK322.out⟩
           have n3_ : Aside0 (Below w.heap.size w (((w31.setCell ⟨gb322, 0, none⟩ (.int .i64 ((rd_T81 l0_8 x21_1).f0))).setCell ⟨gb322, 1, none⟩ (.int .i64 ((rd_T81 l0_8 x21_1).f1.f0))).setCell ⟨gb322, 2, none⟩ (.int .i64 ((rd_T81 l0_8 x21_1).f1.f1)))) := ⟨by repeat (first | (with_reducible first | exact HB.out | apply below_alloc | apply pw_below_drewN | apply below_drew1 | refine below_set ?_ GE316.out | refine below_set ?_ GE320.out | refine below_set ?_ GE322.out) | exact HB.out)⟩
           (try clear BK316)
           (try clear BK320)
           (try clear BK322)
           (try clear HB)
           generalize (((w31.setCell ⟨gb322, 0, none⟩ (.int .i64 ((rd_T81 l0_8 x21_1).f0))).setCell ⟨gb322, 1, none⟩ (.int .i64 ((rd_T81 l0_8 x21_1).f1.f0))).setCell ⟨gb322, 2, none⟩ (.int .i64 ((rd_T81 l0_8 x21_1).f1.f1))) = w35 at n0_ n1_ n2_ n3_ ⊢
           have BK316 := n0_
           have BK320 := n1_
           have BK322 := n2_
           have HB := n3_
           clear n0_ n1_ n2_ n3_
           have n0_ := Aside0.mk (blk_drew BK316.out)
           have n1_ := Aside0.mk (blk_drew BK320.out)
           have n2_ := Aside0.mk (blk_drew BK322.out)
           have n3_ := Aside0.mk (below_drew1 HB.out)
           clear BK316
           clear BK320
           clear BK322
           clear HB
           have BK316 := n0_
           have BK320 := n1_
           have BK322 := n2_
           have HB := n3_
           clear n0_ n1_ n2_ n3_
           have p323 : 0 ≤ (a1 : Int) := of_decide_eq_true (by first | (with_reducible assumption) | assumption)
           have q323 : a1 < (l0_1.length : Int) := of_decide_eq_true (by first | (with_reducible assumption) | assumption)
           obtain ⟨ad323, e323, hx323_0, hx323_1, hx323_2, hx323_3⟩ := at_T71 HR0_1.out a1 p323 q323
           have hw323_3 := hx323_3
           have hw323_2 := hx323_2
           have hw323_1 := hx323_1
           have hw323_0 := hx323_0
           cases e323
           replace hx323_0 := (HB.out.cell (World.block_lt_of_cell? w _ hx323_0)).trans hx323_0
           replace hx323_1 := (HB.out.cell (World.block_lt_of_cell? w _ hx323_1)).trans hx323_1
           replace hx323_2 := (HB.out.cell (World.block_lt_of_cell? w _ hx323_2)).trans hx323_2
           replace hx323_3 := (HB.out.cell (World.block_lt_of_cell? w _ hx323_3)).trans hx323_3
           replace p323 := eq_true p323
           replace q323 := eq_true q323
           refine start_ (n := 15) (S := fun w' => w'.cell? ⟨gb322, 0, none⟩ = some (.int .i64 ((rd_T81 l0_8 x21_1).f0)) ∧ w'.cell? ⟨gb322, 1, none⟩ = some (.int .i64 ((rd_T81 l0_8 x21_1).f1.f0)) ∧ w'.cell? ⟨gb322, 2, none⟩ = some (.int .i64 ((rd_T81 l0_8 x21_1).f1.f1)) ∧ w'.cell? ⟨gb316, 0, none⟩ = some (.int .i64 a0_0) ∧ w'.cell? ⟨gb316, 1, none⟩ = some (.slice (some ad323) l0_1.length c0_1) ∧ w'.cell? ⟨gb316, 2, none⟩ = some (.slice A0_2 l0_2.length c0_2) ∧ w'.cell? ⟨gb316, 3, none⟩ = some (.int .i64 a0_3) ∧ w'.cell? ⟨gb316, 4, none⟩ = some (.int .i64 a0_4) ∧ w'.cell? ⟨gb316, 5, none⟩ = some (.int .i64 a0_5) ∧ w'.cell? ⟨gb316, 6, none⟩ = some (.int .i64 a0_6) ∧ w'.cell? ⟨gb316, 7, none⟩ = some (.int .i64 a0_7) ∧ w'.cell? ⟨gb316, 8, none⟩ = some (.slice (some ad321) l0_8.length c0_8) ∧ w'.cell? ⟨gb316, 9, none⟩ = some (.int .i64 a0_9) ∧ w'.cell? ⟨gb320, 0, none⟩ = some (.int .i64 t318) ∧ w'.cell? ⟨gb320, 1, none⟩ = some (.int .i64 t319) ∧ w'.cell? (ad323.add ((a1).toNat * 4)) = some (.int .i64 ((rd_T71 l0_1 a1).f0)) ∧ w'.cell? ⟨(ad323.add ((a1).toNat * 4)).block, (ad323.add ((a1).toNat * 4)).off + 1, none⟩ = some (.int .i64 ((rd_T71 l0_1 a1).f1)) ∧ w'.cell? ⟨(ad323.add ((a1).toNat * 4)).block, (ad323.add ((a1).toNat * 4)).off + 2, none⟩ = some (.int .i64 ((rd_T71 l0_1 a1).f2)) ∧ w'.cell? ⟨(ad323.add ((a1).toNat * 4)).block, (ad323.add ((a1).toNat * 4)).off + 3, none⟩ = some (.int .i64 ((rd_T71 l0_1 a1).f3))) (ds := []) #[false, false, false, false, false, false, false, false, false, false, false, false, false, false, false] (by kernel_rfl) rfl rfl ⟨(bc_ BK322 0 rfl), (bc_ BK322 1 rfl), (bc_ BK322 2 rfl), (bc_ BK316 0 rfl), (bc_ BK316 1 rfl), (bc_ BK316 2 rfl), (bc_ BK316 3 rfl), (bc_ BK316 4 rfl), (bc_ BK316 5 rfl), (bc_ BK316 6 rfl), (bc_ BK316 7 rfl), (bc_ BK316 8 rfl), (bc_ BK316 9 rfl), (bc_ BK320 0 rfl), (bc_ BK320 1 rfl), ((HB.out.cell (World.block_lt_of_cell? w _ hw323_0)).trans hw323_0), ((HB.out.cell (World.block_lt_of_cell? w _ hw323_1)).trans hw323_1), ((HB.out.cell (World.block_lt_of_cell? w _ hw323_2)).trans hw323_2), ((HB.out.cell (World.block_lt_of_cell? w _ hw323_3)).trans hw323_3)⟩ (fun hHeld => ?_); refine with_tabW impl_MayDisturb.tab7 impl_MayDisturb.bits7 (fun HT_ HW_ => ?_)
           generalize w35.drew = w36 at BK316 BK320 BK322 HB hx323_0 hx323_1 hx323_2 hx323_3 hHeld ⊢
           refine pure_ (i := 0) (N := some 25) (v := ?_) (a' := ?_) #[true, false, false, false, false, false, false, false, false, false, false, false, false, false, false] rfl rfl (any_of HT_.out (by kernel_rfl)) (fun _ _ _ h => h) (Or.inl ⟨by rfl, ?_⟩) ?_ ?_
           rotate_left
           ·intro w'
            go_simp
            with_reducible rfl
           rotate_left
           ·simp only [Act.put, List.setIfInBounds_toArray, List.set_cons_zero, List.set_cons_succ, i64_w, i32_w]
            rfl
           refine pure_ (i := 2) (N := some 27) (v := ?_) (a' := ?_) #[true, false, true, false, false, false, false, false, false, false, false, false, false, false, false] rfl rfl (any_of HT_.out (by kernel_rfl)) (fun _ _ _ h => h) (Or.inl ⟨by rfl, ?_⟩) ?_ ?_
           rotate_left
           ·intro w'
            go_simp
            with_reducible rfl
           rotate_left
           ·simp only [Act.put, List.setIfInBounds_toArray, List.set_cons_zero, List.set_cons_succ, i64_w, i32_w]
            rfl
           refine pure_ (i := 4) (N := some 29) (v := ?_) (a' := ?_) #[true, false, true, false, true, false, false, false, false, false, false, false, false, false, false] rfl rfl (any_of HT_.out (by kernel_rfl)) (fun _ _ _ h => h) (Or.inl ⟨by rfl, ?_⟩) ?_ ?_
           rotate_left
           ·intro w'
            go_simp
            with_reducible rfl
           rotate_left
           ·simp only [Act.put, List.setIfInBounds_toArray, List.set_cons_zero, List.set_cons_succ, i64_w, i32_w]
            rfl
           refine take_ (i := 1) (N := some 26) (v := ?_) (a' := ?_) #[true, true, true, false, true, false, false, false, false, false, false, false, false, false, false] rfl rfl (take_ofW HT_.out HW_.out (by kernel_rfl)) (fun _ _ _ h => h) (Or.inl ⟨by rfl, ?_⟩) hHeld ?_ ?_
           rotate_left
           ·rintro w' ⟨s0, s1, s2, s3, s4, s5, s6, s7, s8, s9, s10, s11, s12, s13, s14, s15, s16, s17, s18⟩
            go_simp
            with_reducible rfl
           rotate_left
           ·simp only [Act.put, List.setIfInBounds_toArray, List.set_cons_zero, List.set_cons_succ, i64_w, i32_w]
            rfl
           refine take_ (i := 3) (N := some 28) (v := ?_) (a' := ?_) #[true, true, true, true, true, false, false, false, false, false, false, false, false, false, false] rfl rfl (take_ofW HT_.out HW_.out (by kernel_rfl)) (fun _ _ _ h => h) (Or.inl ⟨by rfl, ?_⟩) hHeld ?_ ?_
           rotate_left
           ·rintro w' ⟨s0, s1, s2, s3, s4, s5, s6, s7, s8, s9, s10, s11, s12, s13, s14, s15, s16, s17, s18⟩
            go_simp
            with_reducible rfl
           rotate_left
           ·simp only [Act.put, List.setIfInBounds_toArray, List.set_cons_zero, List.set_cons_succ, i64_w, i32_w]
            rfl
           refine pure_ (i := 5) (N := some 30) (v := ?_) (a' := ?_) #[true, true, true, true, true, true, false, false, false, false, false, false, false, false, false] rfl rfl (any_of HT_.out (by kernel_rfl)) (fun _ _ _ h => h) (Or.inl ⟨by rfl, ?_⟩) ?_ ?_
           rotate_left
           ·intro w'
            go_simp
            with_reducible rfl
           rotate_left
           ·simp only [Act.put, List.setIfInBounds_toArray, List.set_cons_zero, List.set_cons_succ, i64_w, i32_w]
            rfl
           refine pure_ (i := 6) (N := some 31) (v := ?_) (a' := ?_) #[true, true, true, true, true, true, true, false, false, false, false, false, false, false, false] rfl rfl (any_of HT_.out (by kernel_rfl)) (fun _ _ _ h => h) (Or.inl ⟨by rfl, ?_⟩) ?_ ?_
           rotate_left
           ·intro w'
            go_simp
            with_reducible rfl
           rotate_left
           ·simp only [Act.put, List.setIfInBounds_toArray, List.set_cons_zero, List.set_cons_succ, i64_w, i32_w]
            rfl
           refine take_ (i := 7) (N := some 32) (v := ?_) (a' := ?_) #[true, true, true, true, true, true, true, true, false, false, false, false, false, false, false] rfl rfl (take_ofW HT_.out HW_.out (by kernel_rfl)) (fun _ _ _ h => h) (Or.inl ⟨by rfl, ?_⟩) hHeld ?_ ?_
           rotate_left
           ·rintro w' ⟨s0, s1, s2, s3, s4, s5, s6, s7, s8, s9, s10, s11, s12, s13, s14, s15, s16, s17, s18⟩
            go_simp
            with_reducible rfl
           rotate_left
           ·simp only [Act.put, List.setIfInBounds_toArray, List.set_cons_zero, List.set_cons_succ, i64_w, i32_w]
            rfl
           refine pure_ (i := 8) (N := some 33) (v := ?_) (a' := ?_) #[true, true, true, true, true, true, true, true, true, false, false, false, false, false, false] rfl rfl (any_of HT_.out (by kernel_rfl)) (fun _ _ _ h => h) (Or.inl ⟨by rfl, ?_⟩) ?_ ?_
           rotate_left
           ·intro w'
            go_simp
            with_reducible rfl
           rotate_left
           ·simp only [Act.put, List.setIfInBounds_toArray, List.set_cons_zero, List.set_cons_succ, i64_w, i32_w]
            rfl
           refine pure_ (i := 9) (N := some 34) (v := ?_) (a' := ?_) #[true, true, true, true, true, true, true, true, true, true, false, false, false, false, false] rfl rfl (any_of HT_.out (by kernel_rfl)) (fun _ _ _ h => h) (Or.inl ⟨by rfl, ?_⟩) ?_ ?_
           rotate_left
           ·intro w'
            go_simp
            with_reducible rfl
           rotate_left
           ·simp only [Act.put, List.setIfInBounds_toArray, List.set_cons_zero, List.set_cons_succ, i64_w, i32_w]
            rfl
           refine pure_ (i := 11) (N := some 36) (v := ?_) (a' := ?_) #[true, true, true, true, true, true, true, true, true, true, false, true, false, false, false] rfl rfl (any_of HT_.out (by kernel_rfl)) (fun _ _ _ h => h) (Or.inl ⟨by rfl, ?_⟩) ?_ ?_
           rotate_left
           ·intro w'
            go_simp
            with_reducible rfl
           rotate_left
           ·simp only [Act.put, List.setIfInBounds_toArray, List.set_cons_zero, List.set_cons_succ, i64_w, i32_w]
            rfl
           refine take_ (i := 10) (N := some 35) (v := ?_) (a' := ?_) #[true, true, true, true, true, true, true, true, true, true, true, true, false, false, false] rfl rfl (take_ofW HT_.out HW_.out (by kernel_rfl)) (fun _ _ _ h => h) (Or.inl ⟨by rfl, ?_⟩) hHeld ?_ ?_
           rotate_left
           ·rintro w' ⟨s0, s1, s2, s3, s4, s5, s6, s7, s8, s9, s10, s11, s12, s13, s14, s15, s16, s17, s18⟩
            go_simp
            with_reducible rfl
           rotate_left
           ·simp only [Act.put, List.setIfInBounds_toArray, List.set_cons_zero, List.set_cons_succ, i64_w, i32_w]
            rfl
           refine take_ (i := 12) (N := some 37) (v := ?_) (a' := ?_) #[true, true, true, true, true, true, true, true, true, true, true, true, true, false, false] rfl rfl (take_ofW HT_.out HW_.out (by kernel_rfl)) (fun _ _ _ h => h) (Or.inl ⟨by rfl, ?_⟩) hHeld ?_ ?_
           rotate_left
           ·rintro w' ⟨s0, s1, s2, s3, s4, s5, s6, s7, s8, s9, s10, s11, s12, s13, s14, s15, s16, s17, s18⟩
            go_simp
            with_reducible rfl
           rotate_left
           ·simp only [Act.put, List.setIfInBounds_toArray, List.set_cons_zero, List.set_cons_succ, i64_w, i32_w]
            rfl
           refine one_ (i := 13) (N := some 38) #[true, true, true, true, true, true, true, true, true, true, true, true, true, true, false] rfl rfl (one_of HT_.out (by kernel_rfl)) (by decide) (fun K hK => ?_)
           refine goes_ Try.func70 (by kernel_rfl) rfl #[.agg #[.int .i64 t318, .int .i64 t319], .agg #[.int .i64 ((rd_T81 l0_8 x21_1).f1.f0), .int .i64 ((rd_T81 l0_8 x21_1).f1.f1)]] (by rfl) rfl rfl mp_ ?_
           with_reducible refine (impl_ArcsMeet.calls k1 t318 t319 ((rd_T81 l0_8 x21_1).f1.f0) ((rd_T81 l0_8 x21_1).f1.f1) false _ A22.out).mono ?_
           rintro e w37 ⟨rfl, hb⟩
           refine ⟨_, rfl, ?_⟩
           have n0_ := Aside0.mk (blk_below (bk_ BK316) hb)
           have n1_ := Aside0.mk (blk_below (bk_ BK320) hb)
           have n2_ := Aside0.mk (blk_below (bk_ BK322) hb)
           have n3_ := Aside0.mk (below_step (bl3_ HB GE316 GE320 GE322) hb)
           clear BK316
           clear BK320
           clear BK322
           clear HB
           have BK316 := n0_
           have BK320 := n1_
           have BK322 := n2_
           have HB := n3_
           clear n0_ n1_ n2_ n3_
           (try clear hb)
           (try clear hb2)
           (try clear hk)
           (try clear hi)
           refine hK.out _ _ ⟨(bc_ BK322 0 rfl), (bc_ BK322 1 rfl), (bc_ BK322 2 rfl), (bc_ BK316 0 rfl), (bc_ BK316 1 rfl), (bc_ BK316 2 rfl), (bc_ BK316 3 rfl), (bc_ BK316 4 rfl), (bc_ BK316 5 rfl), (bc_ BK316 6 rfl), (bc_ BK316 7 rfl), (bc_ BK316 8 rfl), (bc_ BK316 9 rfl), (bc_ BK320 0 rfl), (bc_ BK320 1 rfl), ((HB.out.cell (World.block_lt_of_cell? w _ hw323_0)).trans hw323_0), ((HB.out.cell (World.block_lt_of_cell? w _ hw323_1)).trans hw323_1), ((HB.out.cell (World.block_lt_of_cell? w _ hw323_2)).trans hw323_2), ((HB.out.cell (World.block_lt_of_cell? w _ hw323_3)).trans hw323_3)⟩ (fun hHeld => ?_)
           clear hK K
           refine norm_ (a' := ?_) ?_ ?_
           rotate_left
           ·show Act.put _ (some 38) _ = _
            simp only [Act.put, List.setIfInBounds_toArray, List.set_cons_zero, List.set_cons_succ, i64_w, i32_w]
            rfl
           refine pure_ (i := 14) (N := some 39) (v := ?_) (a' := ?_) #[true, true, true, true, true, true, true, true, true, true, true, true, true, true, true] rfl rfl (any_of HT_.out (by kernel_rfl)) (fun _ _ _ h => h) (Or.inl ⟨by rfl, ?_⟩) ?_ ?_
           rotate_left
           ·intro w'
            go_simp
            with_reducible rfl
           rotate_left
           ·simp only [Act.put, List.setIfInBounds_toArray, List.set_cons_zero, List.set_cons_succ, i64_w, i32_w]
            rfl
           refine done_ (done_of HT_.out (by kernel_rfl)) ?_
           try go_wp2
           go_roundg k1
           case measure => have := HK1.out; omega
           case rel => exact ⟨(wrap64 (x21_1 + 1)), (by first | rfl | (simp; done) | (simp [*]; done)), H', ⟨by have := HK1.out; omega⟩, ⟨by (with_reducible repeat (first | refine blk_drewN ?_ _ | refine blk_drew ?_ | refine blk_alloc ?_ _)); exact BK316.out⟩, ⟨by (with_reducible repeat (first | refine blk_drewN ?_ _ | refine blk_drew ?_ | refine blk_alloc ?_ _)); exact BK320.out⟩, ⟨by repeat (first | (with_reducible first | exact HB.out | apply below_alloc | apply pw_below_drewN | apply below_drew1 | refine below_set ?_ GE316.out | refine below_set ?_ GE320.out | refine below_set ?_ GE322.out) | exact HB.out)⟩⟩
         ·rw [if_neg c21] at H
          have c21b0 : (((rd_T81 l0_8 x21_1).f0) == ((rd_T71 l0_1 a1).f0)) = false := beq_eq_false_iff_ne.mpr c21
          have c21b1 : (((rd_T81 l0_8 x21_1).f0) != ((rd_T71 l0_1 a1).f0)) = true := bne_iff_ne.mpr c21
          have H' := Aside0.mk H
          clear H
          have p321 : 0 ≤ (x21_1 : Int) := of_decide_eq_true (by first | (with_reducible assumption) | assumption)
          have q321 : x21_1 < (l0_8.length : Int) := of_decide_eq_true (by first | (with_reducible assumption) | assumption)
          obtain ⟨ad321, e321, hx321_0, hx321_1, hx321_2⟩ := at_T81 HR0_8.out x21_1 p321 q321
          cases e321
          replace hx321_0 := (HB.out.cell (World.block_lt_of_cell? w _ hx321_0)).trans hx321_0
          replace hx321_1 := (HB.out.cell (World.block_lt_of_cell? w _ hx321_1)).trans hx321_1
          replace hx321_2 := (HB.out.cell (World.block_lt_of_cell? w _ hx321_2)).trans hx321_2
          replace p321 := eq_true p321
          replace q321 := eq_true q321
          try go_wp2_with (first | ((with_reducible refine gate_dst (N := 9) rfl ?_); refine box_event ?hg (N := 9) ?hd (cs := #[.int .i64 0, .int .i64 0, .int .i64 0]) (t := 81) ?hr ?_; (case hd => rfl); (case hg => rfl); (case hr => first | (go_simp; done) | (go_simp; rfl)); intro gb322 hg w38 hbox hb; have n0_ := Aside0.mk (blk_below (bk_ BK316) hb); have n1_ := Aside0.mk (blk_below (bk_ BK320) hb); have n2_ := Aside0.mk (below_step (bl2_ HB GE316 GE320) hb); have n3_ := Aside0.mk (hbox); have n4_ := Aside0.mk ((by rw [hg]; exact (below_size (bl2_ HB GE316 GE320)) : w.heap.size ≤ gb322)); have n5_ := Aside0.mk ((by rw [hg]; exact (below_size (bl2_ HB GE316 GE320)) : w.heap.size ≤ gb322)); have n6_ := Aside0.mk ((by rw [hg]; exact Nat.ne_of_lt (blk_lt (bk_ BK316)) : gb316 ≠ gb322)); have n7_ := Aside0.mk ((by rw [hg]; exact Nat.ne_of_gt (blk_lt (bk_ BK316)) : gb322 ≠ gb316)); have n8_ := Aside0.mk ((by rw [hg]; exact Nat.ne_of_lt (blk_lt (bk_ BK320)) : gb320 ≠ gb322)); have n9_ := Aside0.mk ((by rw [hg]; exact Nat.ne_of_gt (blk_lt (bk_ BK320)) : gb322 ≠ gb320)); clear BK316; clear BK320; clear HB; have BK316 := n0_; have BK320 := n1_; have HB := n2_; have BK322 := n3_; have GW322 := n4_; have GE322 := n5_; have NB316_322 := n6_; have NB322_316 := n7_; have NB320_322 := n8_; have NB322_320 := n9_; clear n0_ n1_ n2_ n3_ n4_ n5_ n6_ n7_ n8_ n9_; clear hb hbox hg; have hnb39 := NB322_316.out; have hnc39 := NB316_322.out; have hnb40 := NB322_320.out; have hnc40 := NB320_322.out; have hcz41_0 : w38.cell? ⟨gb322, 0, none⟩ = some (.int .i64 0) := bc_ BK322 0 rfl; have hcz41_1 : w38.cell? ⟨gb322, 1, none⟩ = some (.int .i64 0) := bc_ BK322 1 rfl; have hcz41_2 : w38.cell? ⟨gb322, 2, none⟩ = some (.int .i64 0) := bc_ BK322 2 rfl; have hfz41_0 := bf_ BK322 0; have hfz41_1 := bf_ BK322 1; have hfz41_2 := bf_ BK322 2))
          have n0_ : Aside0 ((((w38.setCell ⟨gb322, 0, none⟩ (.int .i64 ((rd_T81 l0_8 x21_1).f0))).setCell ⟨gb322, 1, none⟩ (.int .i64 ((rd_T81 l0_8 x21_1).f1.f0))).setCell ⟨gb322, 2, none⟩ (.int .i64 ((rd_T81 l0_8 x21_1).f1.f1))).heap[gb316]? = some (.cells #[.int .i64 a0_0, .slice A0_1 l0_1.length c0_1, .slice A0_2 l0_2.length c0_2, .int .i64 a0_3, .int .i64 a0_4, .int .i64 a0_5, .int .i64 a0_6, .int .i64 a0_7, .slice (some ad321) l0_8.length c0_8, .int .i64 a0_9] 33 (0, 0))) := ⟨by (with_reducible repeat (first | refine blk_drewN ?_ _ | refine blk_drew ?_ | refine blk_alloc ?_ _)); refine blk_far ?_ NB316_322.out _; (with_reducible repeat (first | refine blk_drewN ?_ _ | refine blk_drew ?_ | refine blk_alloc ?_ _)); refine blk_far ?_ NB316_322.out _; (with_reducible repeat (first | refine blk_drewN ?_ _ | refine blk_drew ?_ | refine blk_alloc ?_ _)); refine blk_far ?_ NB316_322.out _; (with_reducible repeat (first | refine blk_drewN ?_ _ | refine blk_drew ?_ | refine blk_alloc ?_ _)); exact BK316.out⟩
          have n1_ : Aside0 ((((w38.setCell ⟨gb322, 0, none⟩ (.int .i64 ((rd_T81 l0_8 x21_1).f0))).setCell ⟨gb322, 1, none⟩ (.int .i64 ((rd_T81 l0_8 x21_1).f1.f0))).setCell ⟨gb322, 2, none⟩ (.int .i64 ((rd_T81 l0_8 x21_1).f1.f1))).heap[gb320]? = some (.cells #[.int .i64 t318, .int .i64 t319] 79 (0, 0))) := ⟨by (with_reducible repeat (first | refine blk_drewN ?_ _ | refine blk_drew ?_ | refine blk_alloc ?_ _)); refine blk_far ?_ NB320_322.out _; (with_reducible repeat (first | refine blk_drewN ?_ _ | refine blk_drew ?_ | refine blk_alloc ?_ _)); refine blk_far ?_ NB320_322.out _; (with_reducible repeat (first | refine blk_drewN ?_ _ | refine blk_drew ?_ | refine blk_alloc ?_ _)); refine blk_far ?_ NB320_322.out _; (with_reducible repeat (first | refine blk_drewN ?_ _ | refine blk_drew ?_ | refine blk_alloc ?_ _)); exact BK320.out⟩
          have n2_ : Aside0 ((((w38.setCell ⟨gb322, 0, none⟩ (.int .i64 ((rd_T81 l0_8 x21_1).f0))).setCell ⟨gb322, 1, none⟩ (.int .i64 ((rd_T81 l0_8 x21_1).f1.f0))).setCell ⟨gb322, 2, none⟩ (.int .i64 ((rd_T81 l0_8 x21_1).f1.f1))).heap[gb322]? = some (.cells #[.int .i64 ((rd_T81 l0_8 x21_1).f0), .int .i64 ((rd_T81 l0_8 x21_1).f1.f0), .int .i64 ((rd_T81 l0_8 x21_1).f1.f1)] 81 (0, 0))) := ⟨by (with_reducible repeat (first | refine blk_drewN ?_ _ | refine blk_drew ?_ | refine blk_alloc ?_ _)); refine blk_put (cs := #[.int .i64 ((rd_T81 l0_8 x21_1).f0), .int .i64 ((rd_T81 l0_8 x21_1).f1.f0), .int .i64 0]) ?_ 2 _ rfl; (with_reducible repeat (first | refine blk_drewN ?_ _ | refine blk_drew ?_ | refine blk_alloc ?_ _)); refine blk_put (cs := #[.int .i64 ((rd_T81 l0_8 x21_1).f0), .int .i64 0, .int .i64 0]) ?_ 1 _ rfl; (with_reducible repeat (first | refine blk_drewN ?_ _ | refine blk_drew ?_ | refine blk_alloc ?_ _)); refine blk_put (cs := #[.int .i64 0, .int .i64 0, .int .i64 0]) ?_ 0 _ rfl; (with_reducible repeat (first | refine blk_drewN ?_ _ | refine blk_drew ?_ | refine blk_alloc ?_ _)); exact BK322.out⟩
          have n3_ : Aside0 (Below w.heap.size w (((w38.setCell ⟨gb322, 0, none⟩ (.int .i64 ((rd_T81 l0_8 x21_1).f0))).setCell ⟨gb322, 1, none⟩ (.int .i64 ((rd_T81 l0_8 x21_1).f1.f0))).setCell ⟨gb322, 2, none⟩ (.int .i64 ((rd_T81 l0_8 x21_1).f1.f1)))) := ⟨by repeat (first | (with_reducible first | exact HB.out | apply below_alloc | apply pw_below_drewN | apply below_drew1 | refine below_set ?_ GE316.out | refine below_set ?_ GE320.out | refine below_set ?_ GE322.out) | exact HB.out)⟩
          (try clear BK316)
          (try clear BK320)
          (try clear BK322)
          (try clear HB)
          generalize (((w38.setCell ⟨gb322, 0, none⟩ (.int .i64 ((rd_T81 l0_8 x21_1).f0))).setCell ⟨gb322, 1, none⟩ (.int .i64 ((rd_T81 l0_8 x21_1).f1.f0))).setCell ⟨gb322, 2, none⟩ (.int .i64 ((rd_T81 l0_8 x21_1).f1.f1))) = w42 at n0_ n1_ n2_ n3_ ⊢
          have BK316 := n0_
          have BK320 := n1_
          have BK322 := n2_
          have HB := n3_
          clear n0_ n1_ n2_ n3_
          have n0_ := Aside0.mk (blk_drew BK316.out)
          have n1_ := Aside0.mk (blk_drew BK320.out)
          have n2_ := Aside0.mk (blk_drew BK322.out)
          have n3_ := Aside0.mk (below_drew1 HB.out)
          clear BK316
          clear BK320
          clear BK322
          clear HB
          have BK316 := n0_
          have BK320 := n1_
          have BK322 := n2_
          have HB := n3_
          clear n0_ n1_ n2_ n3_
          have p323 : 0 ≤ (a1 : Int) := of_decide_eq_true (by first | (with_reducible assumption) | assumption)
          have q323 : a1 < (l0_1.length : Int) := of_decide_eq_true (by first | (with_reducible assumption) | assumption)
          obtain ⟨ad323, e323, hx323_0, hx323_1, hx323_2, hx323_3⟩ := at_T71 HR0_1.out a1 p323 q323
          have hw323_3 := hx323_3
          have hw323_2 := hx323_2
          have hw323_1 := hx323_1
          have hw323_0 := hx323_0
          cases e323
          replace hx323_0 := (HB.out.cell (World.block_lt_of_cell? w _ hx323_0)).trans hx323_0
          replace hx323_1 := (HB.out.cell (World.block_lt_of_cell? w _ hx323_1)).trans hx323_1
          replace hx323_2 := (HB.out.cell (World.block_lt_of_cell? w _ hx323_2)).trans hx323_2
          replace hx323_3 := (HB.out.cell (World.block_lt_of_cell? w _ hx323_3)).trans hx323_3
          replace p323 := eq_true p323
          replace q323 := eq_true q323
          refine start_ (n := 15) (S := fun w' => w'.cell? ⟨gb322, 0, none⟩ = some (.int .i64 ((rd_T81 l0_8 x21_1).f0)) ∧ w'.cell? ⟨gb322, 1, none⟩ = some (.int .i64 ((rd_T81 l0_8 x21_1).f1.f0)) ∧ w'.cell? ⟨gb322, 2, none⟩ = some (.int .i64 ((rd_T81 l0_8 x21_1).f1.f1)) ∧ w'.cell? ⟨gb316, 0, none⟩ = some (.int .i64 a0_0) ∧ w'.cell? ⟨gb316, 1, none⟩ = some (.slice (some ad323) l0_1.length c0_1) ∧ w'.cell? ⟨gb316, 2, none⟩ = some (.slice A0_2 l0_2.length c0_2) ∧ w'.cell? ⟨gb316, 3, none⟩ = some (.int .i64 a0_3) ∧ w'.cell? ⟨gb316, 4, none⟩ = some (.int .i64 a0_4) ∧ w'.cell? ⟨gb316, 5, none⟩ = some (.int .i64 a0_5) ∧ w'.cell? ⟨gb316, 6, none⟩ = some (.int .i64 a0_6) ∧ w'.cell? ⟨gb316, 7, none⟩ = some (.int .i64 a0_7) ∧ w'.cell? ⟨gb316, 8, none⟩ = some (.slice (some ad321) l0_8.length c0_8) ∧ w'.cell? ⟨gb316, 9, none⟩ = some (.int .i64 a0_9) ∧ w'.cell? (ad323.add ((a1).toNat * 4)) = some (.int .i64 ((rd_T71 l0_1 a1).f0)) ∧ w'.cell? ⟨(ad323.add ((a1).toNat * 4)).block, (ad323.add ((a1).toNat * 4)).off + 1, none⟩ = some (.int .i64 ((rd_T71 l0_1 a1).f1)) ∧ w'.cell? ⟨(ad323.add ((a1).toNat * 4)).block, (ad323.add ((a1).toNat * 4)).off + 2, none⟩ = some (.int .i64 ((rd_T71 l0_1 a1).f2)) ∧ w'.cell? ⟨(ad323.add ((a1).toNat * 4)).block, (ad323.add ((a1).toNat * 4)).off + 3, none⟩ = some (.int .i64 ((rd_T71 l0_1 a1).f3))) (ds := []) #[false, false, false, false, false, false, false, false, false, false, false, false, false, false, false] (by kernel_rfl) rfl rfl ⟨(bc_ BK322 0 rfl), (bc_ BK322 1 rfl), (bc_ BK322 2 rfl), (bc_ BK316 0 rfl), (bc_ BK316 1 rfl), (bc_ BK316 2 rfl), (bc_ BK316 3 rfl), (bc_ BK316 4 rfl), (bc_ BK316 5 rfl), (bc_ BK316 6 rfl), (bc_ BK316 7 rfl), (bc_ BK316 8 rfl), (bc_ BK316 9 rfl), ((HB.out.cell (World.block_lt_of_cell? w _ hw323_0)).trans hw323_0), ((HB.out.cell (World.block_lt_of_cell? w _ hw323_1)).trans hw323_1), ((HB.out.cell (World.block_lt_of_cell? w _ hw323_2)).trans hw323_2), ((HB.out.cell (World.block_lt_of_cell? w _ hw323_3)).trans hw323_3)⟩ (fun hHeld => ?_); refine with_tabW impl_MayDisturb.tab7 impl_MayDisturb.bits7 (fun HT_ HW_ => ?_)
          generalize w42.drew = w43 at BK316 BK320 BK322 HB hx323_0 hx323_1 hx323_2 hx323_3 hHeld ⊢
          refine pure_ (i := 0) (N := some 25) (v := ?_) (a' := ?_) #[true, false, false, false, false, false, false, false, false, false, false, false, false, false, false] rfl rfl (any_of HT_.out (by kernel_rfl)) (fun _ _ _ h => h) (Or.inl ⟨by rfl, ?_⟩) ?_ ?_
          rotate_left
          ·intro w'
           go_simp
           with_reducible rfl
          rotate_left
          ·simp only [Act.put, List.setIfInBounds_toArray, List.set_cons_zero, List.set_cons_succ, i64_w, i32_w]
           rfl
          refine pure_ (i := 2) (N := some 27) (v := ?_) (a' := ?_) #[true, false, true, false, false, false, false, false, false, false, false, false, false, false, false] rfl rfl (any_of HT_.out (by kernel_rfl)) (fun _ _ _ h => h) (Or.inl ⟨by rfl, ?_⟩) ?_ ?_
          rotate_left
          ·intro w'
           go_simp
           with_reducible rfl
          rotate_left
          ·simp only [Act.put, List.setIfInBounds_toArray, List.set_cons_zero, List.set_cons_succ, i64_w, i32_w]
           rfl
          refine pure_ (i := 4) (N := some 29) (v := ?_) (a' := ?_) #[true, false, true, false, true, false, false, false, false, false, false, false, false, false, false] rfl rfl (any_of HT_.out (by kernel_rfl)) (fun _ _ _ h => h) (Or.inl ⟨by rfl, ?_⟩) ?_ ?_
          rotate_left
          ·intro w'
           go_simp
           with_reducible rfl
          rotate_left
          ·simp only [Act.put, List.setIfInBounds_toArray, List.set_cons_zero, List.set_cons_succ, i64_w, i32_w]
           rfl
          refine take_ (i := 1) (N := some 26) (v := ?_) (a' := ?_) #[true, true, true, false, true, false, false, false, false, false, false, false, false, false, false] rfl rfl (take_ofW HT_.out HW_.out (by kernel_rfl)) (fun _ _ _ h => h) (Or.inl ⟨by rfl, ?_⟩) hHeld ?_ ?_
          rotate_left
          ·rintro w' ⟨s0, s1, s2, s3, s4, s5, s6, s7, s8, s9, s10, s11, s12, s13, s14, s15, s16⟩
           go_simp
           with_reducible rfl
          rotate_left
          ·simp only [Act.put, List.setIfInBounds_toArray, List.set_cons_zero, List.set_cons_succ, i64_w, i32_w]
           rfl
          refine take_ (i := 3) (N := some 28) (v := ?_) (a' := ?_) #[true, true, true, true, true, false, false, false, false, false, false, false, false, false, false] rfl rfl (take_ofW HT_.out HW_.out (by kernel_rfl)) (fun _ _ _ h => h) (Or.inl ⟨by rfl, ?_⟩) hHeld ?_ ?_
          rotate_left
          ·rintro w' ⟨s0, s1, s2, s3, s4, s5, s6, s7, s8, s9, s10, s11, s12, s13, s14, s15, s16⟩
           go_simp
           with_reducible rfl
          rotate_left
          ·simp only [Act.put, List.setIfInBounds_toArray, List.set_cons_zero, List.set_cons_succ, i64_w, i32_w]
           rfl
          refine pure_ (i := 5) (N := some 30) (v := ?_) (a' := ?_) #[true, true, true, true, true, true, false, false, false, false, false, false, false, false, false] rfl rfl (any_of HT_.out (by kernel_rfl)) (fun _ _ _ h => h) (Or.inl ⟨by rfl, ?_⟩) ?_ ?_
          rotate_left
          ·intro w'
           go_simp
           with_reducible rfl
          rotate_left
          ·simp only [Act.put, List.setIfInBounds_toArray, List.set_cons_zero, List.set_cons_succ, i64_w, i32_w]
           rfl
          refine pure_ (i := 6) (N := some 31) (v := ?_) (a' := ?_) #[true, true, true, true, true, true, true, false, false, false, false, false, false, false, false] rfl rfl (any_of HT_.out (by kernel_rfl)) (fun _ _ _ h => h) (Or.inl ⟨by rfl, ?_⟩) ?_ ?_
          rotate_left
          ·intro w'
           go_simp
           with_reducible rfl
          rotate_left
          ·simp only [Act.put, List.setIfInBounds_toArray, List.set_cons_zero, List.set_cons_succ, i64_w, i32_w]
           rfl
          refine take_ (i := 7) (N := some 32) (v := ?_) (a' := ?_) #[true, true, true, true, true, true, true, true, false, false, false, false, false, false, false] rfl rfl (take_ofW HT_.out HW_.out (by kernel_rfl)) (fun _ _ _ h => h) (Or.inl ⟨by rfl, ?_⟩) hHeld ?_ ?_
          rotate_left
          ·rintro w' ⟨s0, s1, s2, s3, s4, s5, s6, s7, s8, s9, s10, s11, s12, s13, s14, s15, s16⟩
           go_simp
           with_reducible rfl
          rotate_left
          ·simp only [Act.put, List.setIfInBounds_toArray, List.set_cons_zero, List.set_cons_succ, i64_w, i32_w]
           rfl
          refine pure_ (i := 8) (N := some 33) (v := ?_) (a' := ?_) #[true, true, true, true, true, true, true, true, true, false, false, false, false, false, false] rfl rfl (any_of HT_.out (by kernel_rfl)) (fun _ _ _ h => h) (Or.inl ⟨by rfl, ?_⟩) ?_ ?_
          rotate_left
          ·intro w'
           go_simp
           with_reducible rfl
          rotate_left
          ·simp only [Act.put, List.setIfInBounds_toArray, List.set_cons_zero, List.set_cons_succ, i64_w, i32_w]
           rfl
          refine pure_ (i := 9) (N := some 34) (v := ?_) (a' := ?_) #[true, true, true, true, true, true, true, true, true, true, false, false, false, false, false] rfl rfl (any_of HT_.out (by kernel_rfl)) (fun _ _ _ h => h) (Or.inl ⟨by rfl, ?_⟩) ?_ ?_
          rotate_left
          ·intro w'
           go_simp
           with_reducible rfl
          rotate_left
          ·simp only [Act.put, List.setIfInBounds_toArray, List.set_cons_zero, List.set_cons_succ, i64_w, i32_w]
           rfl
          refine pure_ (i := 10) (N := some 35) (v := undef) (a' := ?_) #[true, true, true, true, true, true, true, true, true, true, true, false, false, false, false] rfl rfl (any_of HT_.out (by kernel_rfl)) (fun _ _ _ h => h) (Or.inr ⟨by rfl, rfl⟩) ?_ ?_
          rotate_left
          ·simp only [Act.put, List.setIfInBounds_toArray, List.set_cons_zero, List.set_cons_succ, i64_w, i32_w]
           rfl
          refine pure_ (i := 11) (N := some 36) (v := undef) (a' := ?_) #[true, true, true, true, true, true, true, true, true, true, true, true, false, false, false] rfl rfl (any_of HT_.out (by kernel_rfl)) (fun _ _ _ h => h) (Or.inr ⟨by rfl, rfl⟩) ?_ ?_
          rotate_left
          ·simp only [Act.put, List.setIfInBounds_toArray, List.set_cons_zero, List.set_cons_succ, i64_w, i32_w]
           rfl
          refine pure_ (i := 12) (N := some 37) (v := undef) (a' := ?_) #[true, true, true, true, true, true, true, true, true, true, true, true, true, false, false] rfl rfl (any_of HT_.out (by kernel_rfl)) (fun _ _ _ h => h) (Or.inr ⟨by rfl, rfl⟩) ?_ ?_
          rotate_left
          ·simp only [Act.put, List.setIfInBounds_toArray, List.set_cons_zero, List.set_cons_succ, i64_w, i32_w]
           rfl
          refine pure_ (i := 13) (N := some 38) (v := undef) (a' := ?_) #[true, true, true, true, true, true, true, true, true, true, true, true, true, true, false] rfl rfl (any_of HT_.out (by kernel_rfl)) (fun _ _ _ h => h) (Or.inr ⟨by rfl, rfl⟩) ?_ ?_
          rotate_left
          ·simp only [Act.put, List.setIfInBounds_toArray, List.set_cons_zero, List.set_cons_succ, i64_w, i32_w]
           rfl
          refine pure_ (i := 14) (N := some 39) (v := ?_) (a' := ?_) #[true, true, true, true, true, true, true, true, true, true, true, true, true, true, true] rfl rfl (any_of HT_.out (by kernel_rfl)) (fun _ _ _ h => h) (Or.inl ⟨by rfl, ?_⟩) ?_ ?_
          rotate_left
          ·intro w'
           go_simp
           with_reducible rfl
          rotate_left
          ·simp only [Act.put, List.setIfInBounds_toArray, List.set_cons_zero, List.set_cons_succ, i64_w, i32_w]
           rfl
          refine done_ (done_of HT_.out (by kernel_rfl)) ?_
          try go_wp2
          go_roundg k1
          case measure => have := HK1.out; omega
          case rel => exact ⟨(wrap64 (x21_1 + 1)), (by first | rfl | (simp; done) | (simp [*]; done)), H', ⟨by have := HK1.out; omega⟩, ⟨by (with_reducible repeat (first | refine blk_drewN ?_ _ | refine blk_drew ?_ | refine blk_alloc ?_ _)); exact BK316.out⟩, ⟨by (with_reducible repeat (first | refine blk_drewN ?_ _ | refine blk_drew ?_ | refine blk_alloc ?_ _)); exact BK320.out⟩, ⟨by repeat (first | (with_reducible first | exact HB.out | apply below_alloc | apply pw_below_drewN | apply below_drew1 | refine below_set ?_ GE316.out | refine below_set ?_ GE320.out | refine below_set ?_ GE322.out) | exact HB.out)⟩⟩
        ·rw [if_neg c20] at H
         exact absurd H (by simp)
       ·rw [if_neg c19] at H
        exact absurd H (by simp)
      ·rw [if_neg c18] at H
       exact absurd H (by simp)
     ·rw [if_neg c17] at H
      exact absurd H (by simp)
    ·rw [if_neg c16] at H
     have c16b0 : decide (x21_1 < (l0_8.length : Int)) = false := decide_eq_false c16
     clear c16
     obtain rfl := Option.some.inj H
     go_wp2
     go_ret
     exact ⟨by first | rfl | (simp [errW_none, errW_some] <;> rfl) | (simp [*, errW_none, errW_some] <;> rfl), by repeat (first | (with_reducible first | exact HB.out | apply below_alloc | apply pw_below_drewN | apply below_drew1 | refine below_set ?_ GE316.out | refine below_set ?_ GE320.out) | exact HB.out)⟩
 ·replace c5 := Bool.eq_false_iff.mpr c5
  subst c5
  have H1 : (some false) = some r := by rw [if_neg (show ¬ (false = true) by decide)] at H; exact H
  clear H
  have H := H1
  clear H1
  obtain rfl := Option.some.inj H
  go_enter Try.func43, Try.ntmps43
  go_wp2_with (first | ((with_reducible refine gate_dst (N := 3) rfl ?_); refine box_event ?hg (N := 3) ?hd (cs := #[.int .i64 a0_0, .slice A0_1 l0_1.length c0_1, .slice A0_2 l0_2.length c0_2, .int .i64 a0_3, .int .i64 a0_4, .int .i64 a0_5, .int .i64 a0_6, .int .i64 a0_7, .slice A0_8 l0_8.length c0_8, .int .i64 a0_9]) (t := 33) ?hr ?_; (case hd => rfl); (case hg => rfl); (case hr => first | (go_simp; done) | (go_simp; rfl)); intro gb316 hg w44 hbox hb; have n0_ := Aside0.mk (below_step (bl_ HB) hb); have n1_ := Aside0.mk (hbox); have n2_ := Aside0.mk ((by rw [hg]; exact (below_size (bl_ HB)) : w.heap.size ≤ gb316)); have n3_ := Aside0.mk ((by rw [hg]; exact (below_size (bl_ HB)) : w.heap.size ≤ gb316)); clear HB; have HB := n0_; have BK316 := n1_; have GW316 := n2_; have GE316 := n3_; clear n0_ n1_ n2_ n3_; clear hb hbox hg; have hcz45_0 : w44.cell? ⟨gb316, 0, none⟩ = some (.int .i64 a0_0) := bc_ BK316 0 rfl; have hcz45_1 : w44.cell? ⟨gb316, 1, none⟩ = some (.slice A0_1 l0_1.length c0_1) := bc_ BK316 1 rfl; have hcz45_2 : w44.cell? ⟨gb316, 2, none⟩ = some (.slice A0_2 l0_2.length c0_2) := bc_ BK316 2 rfl; have hcz45_3 : w44.cell? ⟨gb316, 3, none⟩ = some (.int .i64 a0_3) := bc_ BK316 3 rfl; have hcz45_4 : w44.cell? ⟨gb316, 4, none⟩ = some (.int .i64 a0_4) := bc_ BK316 4 rfl; have hcz45_5 : w44.cell? ⟨gb316, 5, none⟩ = some (.int .i64 a0_5) := bc_ BK316 5 rfl; have hcz45_6 : w44.cell? ⟨gb316, 6, none⟩ = some (.int .i64 a0_6) := bc_ BK316 6 rfl; have hcz45_7 : w44.cell? ⟨gb316, 7, none⟩ = some (.int .i64 a0_7) := bc_ BK316 7 rfl; have hcz45_8 : w44.cell? ⟨gb316, 8, none⟩ = some (.slice A0_8 l0_8.length c0_8) := bc_ BK316 8 rfl; have hcz45_9 : w44.cell? ⟨gb316, 9, none⟩ = some (.int .i64 a0_9) := bc_ BK316 9 rfl; have hfz45_0 := bf_ BK316 0; have hfz45_1 := bf_ BK316 1; have hfz45_2 := bf_ BK316 2; have hfz45_3 := bf_ BK316 3; have hfz45_4 := bf_ BK316 4; have hfz45_5 := bf_ BK316 5; have hfz45_6 := bf_ BK316 6; have hfz45_7 := bf_ BK316 7; have hfz45_8 := bf_ BK316 8; have hfz45_9 := bf_ BK316 9) | ((with_reducible refine gate_callee (f := 68) rfl ?_); refine goesL_ (some 12) rfl rfl Try.func68 (by kernel_rfl) rfl #[.agg #[.int .i64 a0_0, .slice A0_1 l0_1.length c0_1, .slice A0_2 l0_2.length c0_2, .int .i64 a0_3, .int .i64 a0_4, .int .i64 a0_5, .int .i64 a0_6, .int .i64 a0_7, .slice A0_8 l0_8.length c0_8, .int .i64 a0_9], .int .i64 a1] rfl mp_ ?_; (with_reducible refine (impl_isSatellite.calls a0_0 _ _ l0_1 _ _ l0_2 a0_3 a0_4 a0_5 a0_6 a0_7 _ _ l0_8 a0_9 a1 false _ ?side1 ?side2 ?side3 ?side4 ?side5 ?side6 A4.out).mono ?_); (case side1 => exact ck_ HR0_1 HB); (case side2 => exact HC0_1.out); (case side3 => exact ck_ HR0_2 HB); (case side4 => exact HC0_2.out); (case side5 => exact ck_ HR0_8 HB); (case side6 => exact HC0_8.out); rintro e w46 ⟨rfl, hb⟩; refine ⟨_, rfl, ?_⟩; have n0_ := Aside0.mk (blk_below (bk_ BK316) hb); have n1_ := Aside0.mk (below_step (bl1_ HB GE316) hb); clear BK316; clear HB; have BK316 := n0_; have HB := n1_; clear n0_ n1_; (try clear hb); (try clear hb2); (try clear hk); (try clear hi)))
  go_ret
  exact ⟨by first | rfl | (simp [errW_none, errW_some] <;> rfl) | (simp [*, errW_none, errW_some] <;> rfl), by repeat (first | (with_reducible first | exact HB.out | apply below_alloc | apply pw_below_drewN | apply below_drew1 | refine below_set ?_ GE316.out) | exact HB.out)⟩

/-! ### impl_QuietSpans_1: function 42 -/
def impl_QuietSpans_1.f (k : Nat) (a0 : Int) (a1_0 : Int) (l1_1 : List (S71)) (l1_2 : List (S75)) (a1_3 : Int) (a1_4 : Int) (a1_5 : Int) (a1_6 : Int) (a1_7 : Int) (l1_8 : List (S81)) (a1_9 : Int) (a2 : Int) : Option (Bool) := (impl_MayDisturb.f k a1_0 l1_1 l1_2 a1_3 a1_4 a1_5 a1_6 a1_7 l1_8 a1_9 a2 a0).bind fun t325 => (some t325)
theorem impl_QuietSpans_1.mono : ∀ a0 a1 a2 a3 a4 a5 a6 a7 a8 a9 a10 a11 k, LeO (impl_QuietSpans_1.f k a0 a1 a2 a3 a4 a5 a6 a7 a8 a9 a10 a11) (impl_QuietSpans_1.f (k + 1) a0 a1 a2 a3 a4 a5 a6 a7 a8 a9 a10 a11) := by
 intro a0 a1 a2 a3 a4 a5 a6 a7 a8 a9 a10 a11 k
 unfold impl_QuietSpans_1.f
 repeat' first
   | (with_reducible exact impl_MayDisturb.mono _ _ _ _ _ _ _ _ _ _ _ _ _)
   | (with_reducible exact LeO.refl _)
   | (with_reducible exact LeO.none _)
   | (with_reducible refine LeO.ite ?_ ?_)
   | (with_reducible refine LeO.bind ?_ (fun _ => ?_))
   | exact impl_MayDisturb.mono _ _ _ _ _ _ _ _ _ _ _ _ _
   | exact LeO.none _
   | refine LeO.ite ?_ ?_
   | refine LeO.bind ?_ (fun _ => ?_)
set_option maxHeartbeats 8000000 in
set_option maxRecDepth 100000 in
theorem impl_QuietSpans_1.calls (k : Nat) (a0 : Int) (a1_0 : Int) (A1_1 : Option Addr) (c1_1 : Nat) (l1_1 : List (S71)) (A1_2 : Option Addr) (c1_2 : Nat) (l1_2 : List (S75)) (a1_3 : Int) (a1_4 : Int) (a1_5 : Int) (a1_6 : Int) (a1_7 : Int) (A1_8 : Option Addr) (c1_8 : Nat) (l1_8 : List (S81)) (a1_9 : Int) (a2 : Int) (r : Bool) (w : World) (B0 : Nat) (hB0 : w.heap[B0]? = some (.cells #[.int .i64 a1_0, .slice A1_1 l1_1.length c1_1, .slice A1_2 l1_2.length c1_2, .int .i64 a1_3, .int .i64 a1_4, .int .i64 a1_5, .int .i64 a1_6, .int .i64 a1_7, .slice A1_8 l1_8.length c1_8, .int .i64 a1_9] 33 (0, 0))) (B1 : Nat) (hB1 : w.heap[B1]? = some (.cells #[.int .i64 a2] 3 (0, 0))) (hr1_1 : Kd.C k71 w A1_1 l1_1.length l1_1) (hc1_1 : l1_1.length ≤ c1_1) (hr1_2 : Kd.C k75 w A1_2 l1_2.length l1_2) (hc1_2 : l1_2.length ≤ c1_2) (hr1_8 : Kd.C k81 w A1_8 l1_8.length l1_8) (hc1_8 : l1_8.length ≤ c1_8) (h : impl_QuietSpans_1.f k a0 a1_0 l1_1 l1_2 a1_3 a1_4 a1_5 a1_6 a1_7 l1_8 a1_9 a2 = some r) :
  Calls Try.prog 42 #[.int .i64 a0, .pointer (some ⟨B0, 0, none⟩), .pointer (some ⟨B1, 0, none⟩)] w fun e w' => e = .returned (.bool r) ∧ Below w.heap.size w w' := by
 have hcB0_0 : w.cell? ⟨B0, 0, none⟩ = some (.int .i64 a1_0) := (blk_cell hB0 0).trans rfl
 have hcB0_1 : w.cell? ⟨B0, 1, none⟩ = some (.slice A1_1 l1_1.length c1_1) := (blk_cell hB0 1).trans rfl
 have hcB0_2 : w.cell? ⟨B0, 2, none⟩ = some (.slice A1_2 l1_2.length c1_2) := (blk_cell hB0 2).trans rfl
 have hcB0_3 : w.cell? ⟨B0, 3, none⟩ = some (.int .i64 a1_3) := (blk_cell hB0 3).trans rfl
 have hcB0_4 : w.cell? ⟨B0, 4, none⟩ = some (.int .i64 a1_4) := (blk_cell hB0 4).trans rfl
 have hcB0_5 : w.cell? ⟨B0, 5, none⟩ = some (.int .i64 a1_5) := (blk_cell hB0 5).trans rfl
 have hcB0_6 : w.cell? ⟨B0, 6, none⟩ = some (.int .i64 a1_6) := (blk_cell hB0 6).trans rfl
 have hcB0_7 : w.cell? ⟨B0, 7, none⟩ = some (.int .i64 a1_7) := (blk_cell hB0 7).trans rfl
 have hcB0_8 : w.cell? ⟨B0, 8, none⟩ = some (.slice A1_8 l1_8.length c1_8) := (blk_cell hB0 8).trans rfl
 have hcB0_9 : w.cell? ⟨B0, 9, none⟩ = some (.int .i64 a1_9) := (blk_cell hB0 9).trans rfl
 have hcB1_0 : w.cell? ⟨B1, 0, none⟩ = some (.int .i64 a2) := (blk_cell hB1 0).trans rfl
 have HR1_1 := Aside0.mk hr1_1
 have HC1_1 := Aside0.mk hc1_1
 clear hr1_1 hc1_1
 have HR1_2 := Aside0.mk hr1_2
 have HC1_2 := Aside0.mk hc1_2
 clear hr1_2 hc1_2
 have HR1_8 := Aside0.mk hr1_8
 have HC1_8 := Aside0.mk hc1_8
 clear hr1_8 hc1_8
 have HB := Aside0.mk (Below.refl w.heap.size w)
 have H := h
 clear h
 unfold impl_QuietSpans_1.f at H
 replace H := Option.bind_eq_some_iff.mp H
 obtain ⟨t325, A40, H⟩ := H
 have A4 := Aside0.mk A40
 clear A40
 obtain rfl := Option.some.inj H
 go_enter Try.func42, Try.ntmps42
 go_wp2_with (first | ((with_reducible refine gate_callee (f := 43) rfl ?_); refine goesL_ (some 8) rfl rfl Try.func43 (by kernel_rfl) rfl #[.agg #[.int .i64 a1_0, .slice A1_1 l1_1.length c1_1, .slice A1_2 l1_2.length c1_2, .int .i64 a1_3, .int .i64 a1_4, .int .i64 a1_5, .int .i64 a1_6, .int .i64 a1_7, .slice A1_8 l1_8.length c1_8, .int .i64 a1_9], .int .i64 a2, .int .i64 a0] rfl mp_ ?_; (with_reducible refine (impl_MayDisturb.calls k a1_0 _ _ l1_1 _ _ l1_2 a1_3 a1_4 a1_5 a1_6 a1_7 _ _ l1_8 a1_9 a2 a0 t325 _ ?side1 ?side2 ?side3 ?side4 ?side5 ?side6 A4.out).mono ?_); (case side1 => repeat (first | exact HR1_1.out | (with_reducible refine Kd.C_alloc ?_ _) | (with_reducible refine Kd.C_drewN ?_ _) | (with_reducible refine Kd.C_drew ?_))); (case side2 => exact HC1_1.out); (case side3 => repeat (first | exact HR1_2.out | (with_reducible refine Kd.C_alloc ?_ _) | (with_reducible refine Kd.C_drewN ?_ _) | (with_reducible refine Kd.C_drew ?_))); (case side4 => exact HC1_2.out); (case side5 => repeat (first | exact HR1_8.out | (with_reducible refine Kd.C_alloc ?_ _) | (with_reducible refine Kd.C_drewN ?_ _) | (with_reducible refine Kd.C_drew ?_))); (case side6 => exact HC1_8.out); rintro e w5 ⟨rfl, hb⟩; refine ⟨_, rfl, ?_⟩; have n0_ := Aside0.mk (below_step (bl_ HB) hb); clear HB; have HB := n0_; clear n0_; (try clear hb); (try clear hb2); (try clear hk); (try clear hi)))
 go_ret
 exact ⟨by first | rfl | (simp [errW_none, errW_some] <;> rfl) | (simp [*, errW_none, errW_some] <;> rfl), by repeat (first | (with_reducible first | exact HB.out | apply below_alloc | apply pw_below_drewN | apply below_drew1) | exact HB.out)⟩


def where_impl_QuietSpans_1.f (k : Nat) (y0 y1 : Int) (a1_0 : Int) (l1_1 : List (S71)) (l1_2 : List (S75)) (a1_3 : Int) (a1_4 : Int) (a1_5 : Int) (a1_6 : Int) (a1_7 : Int) (l1_8 : List (S81)) (a1_9 : Int) (a2 : Int) : Option (List (S51)) := sw.f (fun k' t' => impl_QuietSpans_1.f k' t' a1_0 l1_1 l1_2 a1_3 a1_4 a1_5 a1_6 a1_7 l1_8 a1_9 a2) k y0 y1
theorem where_impl_QuietSpans_1.mono : ∀ y0 y1 a1_0 l1_1 l1_2 a1_3 a1_4 a1_5 a1_6 a1_7 l1_8 a1_9 a2 k, LeO (where_impl_QuietSpans_1.f k y0 y1 a1_0 l1_1 l1_2 a1_3 a1_4 a1_5 a1_6 a1_7 l1_8 a1_9 a2) (where_impl_QuietSpans_1.f (k + 1) y0 y1 a1_0 l1_1 l1_2 a1_3 a1_4 a1_5 a1_6 a1_7 l1_8 a1_9 a2) := fun y0 y1 a1_0 l1_1 l1_2 a1_3 a1_4 a1_5 a1_6 a1_7 l1_8 a1_9 a2 k => sw.mono _ (fun t' k' => by exact impl_QuietSpans_1.mono _ _ _ _ _ _ _ _ _ _ _ _ _) y0 y1 k
theorem where_impl_QuietSpans_1.calls (k : Nat) (y0 y1 : Int) (a1_0 : Int) (A1_1 : Option Addr) (c1_1 : Nat) (l1_1 : List (S71)) (A1_2 : Option Addr) (c1_2 : Nat) (l1_2 : List (S75)) (a1_3 : Int) (a1_4 : Int) (a1_5 : Int) (a1_6 : Int) (a1_7 : Int) (A1_8 : Option Addr) (c1_8 : Nat) (l1_8 : List (S81)) (a1_9 : Int) (a2 : Int) (r : List (S51)) (w : World) (B0 : Nat) (hB0 : w.heap[B0]? = some (.cells #[.int .i64 a1_0, .slice A1_1 l1_1.length c1_1, .slice A1_2 l1_2.length c1_2, .int .i64 a1_3, .int .i64 a1_4, .int .i64 a1_5, .int .i64 a1_6, .int .i64 a1_7, .slice A1_8 l1_8.length c1_8, .int .i64 a1_9] 33 (0, 0))) (B1 : Nat) (hB1 : w.heap[B1]? = some (.cells #[.int .i64 a2] 3 (0, 0))) (hr1_1 : Kd.C k71 w A1_1 l1_1.length l1_1) (hc1_1 : l1_1.length ≤ c1_1) (hr1_2 : Kd.C k75 w A1_2 l1_2.length l1_2) (hc1_2 : l1_2.length ≤ c1_2) (hr1_8 : Kd.C k81 w A1_8 l1_8.length l1_8) (hc1_8 : l1_8.length ≤ c1_8) (h : where_impl_QuietSpans_1.f k y0 y1 a1_0 l1_1 l1_2 a1_3 a1_4 a1_5 a1_6 a1_7 l1_8 a1_9 a2 = some r) :
  Calls Try.prog 41 #[.int .i64 y0, .int .i64 y1, .func (.func 42) #[] #[.pointer (some ⟨B0, 0, none⟩), .pointer (some ⟨B1, 0, none⟩)]] w fun e w' => ∃ v0_ : Value, e = .returned (v0_) ∧ Kd.R k51 51 w' w.heap.size (fun _ => True) v0_ r ∧ Below w.heap.size w w' := by
 refine sw.calls (fun k' t' => impl_QuietSpans_1.f k' t' a1_0 l1_1 l1_2 a1_3 a1_4 a1_5 a1_6 a1_7 l1_8 a1_9 a2) k y0 y1 r w 42 _ (fun args w => enters_ Try.func42 (by kernel_rfl) rfl args w) (fun k' t b W hq hb => ?_) h
 have hB0' := blk_below hB0 hb
 have hB1' := blk_below hB1 hb
 have hh := impl_QuietSpans_1.calls k' t a1_0 A1_1 c1_1 l1_1 A1_2 c1_2 l1_2 a1_3 a1_4 a1_5 a1_6 a1_7 A1_8 c1_8 l1_8 a1_9 a2 b W B0 hB0' B1 hB1' (Kd.C_below hr1_1 hb) hc1_1 (Kd.C_below hr1_2 hb) hc1_2 (Kd.C_below hr1_8 hb) hc1_8 hq
 exact hh.mono (fun e w' hx => ⟨hx.1, hx.2⟩)

/-! ### impl_QuietSpans: function 15 -/
def impl_QuietSpans.f (k : Nat) (a0_0 : Int) (l0_1 : List (S71)) (l0_2 : List (S75)) (a0_3 : Int) (a0_4 : Int) (a0_5 : Int) (a0_6 : Int) (a0_7 : Int) (l0_8 : List (S81)) (a0_9 : Int) (a1 : Int) (a2 : Int) (a3 : Int) : Option ((List (S51))) := (where_impl_QuietSpans_1.f k a2 a3 a0_0 l0_1 l0_2 a0_3 a0_4 a0_5 a0_6 a0_7 l0_8 a0_9 a1).bind fun t326 => (some t326)
theorem impl_QuietSpans.mono : ∀ a0 a1 a2 a3 a4 a5 a6 a7 a8 a9 a10 a11 a12 k, LeO (impl_QuietSpans.f k a0 a1 a2 a3 a4 a5 a6 a7 a8 a9 a10 a11 a12) (impl_QuietSpans.f (k + 1) a0 a1 a2 a3 a4 a5 a6 a7 a8 a9 a10 a11 a12) := by
 intro a0 a1 a2 a3 a4 a5 a6 a7 a8 a9 a10 a11 a12 k
 unfold impl_QuietSpans.f
 repeat' first
   | (with_reducible exact where_impl_QuietSpans_1.mono _ _ _ _ _ _ _ _ _ _ _ _ _ _)
   | (with_reducible exact LeO.refl _)
   | (with_reducible exact LeO.none _)
   | (with_reducible refine LeO.ite ?_ ?_)
   | (with_reducible refine LeO.bind ?_ (fun _ => ?_))
   | exact where_impl_QuietSpans_1.mono _ _ _ _ _ _ _ _ _ _ _ _ _ _
   | exact LeO.none _
   | refine LeO.ite ?_ ?_
   | refine LeO.bind ?_ (fun _ => ?_)
set_option maxHeartbeats 8000000 in
set_option maxRecDepth 100000 in
theorem impl_QuietSpans.calls (k : Nat) (a0_0 : Int) (A0_1 : Option Addr) (c0_1 : Nat) (l0_1 : List (S71)) (A0_2 : Option Addr) (c0_2 : Nat) (l0_2 : List (S75)) (a0_3 : Int) (a0_4 : Int) (a0_5 : Int) (a0_6 : Int) (a0_7 : Int) (A0_8 : Option Addr) (c0_8 : Nat) (l0_8 : List (S81)) (a0_9 : Int) (a1 : Int) (a2 : Int) (a3 : Int) (r : List (S51)) (w : World) (hr0_1 : Kd.C k71 w A0_1 l0_1.length l0_1) (hc0_1 : l0_1.length ≤ c0_1) (hr0_2 : Kd.C k75 w A0_2 l0_2.length l0_2) (hc0_2 : l0_2.length ≤ c0_2) (hr0_8 : Kd.C k81 w A0_8 l0_8.length l0_8) (hc0_8 : l0_8.length ≤ c0_8) (h : impl_QuietSpans.f k a0_0 l0_1 l0_2 a0_3 a0_4 a0_5 a0_6 a0_7 l0_8 a0_9 a1 a2 a3 = some r) :
  Calls Try.prog 15 #[.agg #[.int .i64 a0_0, .slice A0_1 l0_1.length c0_1, .slice A0_2 l0_2.length c0_2, .int .i64 a0_3, .int .i64 a0_4, .int .i64 a0_5, .int .i64 a0_6, .int .i64 a0_7, .slice A0_8 l0_8.length c0_8, .int .i64 a0_9], .int .i64 a1, .int .i64 a2, .int .i64 a3] w fun e w' => ∃ v0_ : Value, e = .returned (v0_) ∧ Kd.R k51 51 w' w.heap.size (fun _ => True) v0_ r ∧ Below w.heap.size w w' := by
 have HR0_1 := Aside0.mk hr0_1
 have HC0_1 := Aside0.mk hc0_1
 clear hr0_1 hc0_1
 have HR0_2 := Aside0.mk hr0_2
 have HC0_2 := Aside0.mk hc0_2
 clear hr0_2 hc0_2
 have HR0_8 := Aside0.mk hr0_8
 have HC0_8 := Aside0.mk hc0_8
 clear hr0_8 hc0_8
 have HB := Aside0.mk (Below.refl w.heap.size w)
 have H := h
 clear h
 unfold impl_QuietSpans.f at H
 replace H := Option.bind_eq_some_iff.mp H
 obtain ⟨t326, A50, H⟩ := H
 have A5 := Aside0.mk A50
 clear A50
 obtain rfl := Option.some.inj H
 go_enter Try.func15, Try.ntmps15
 go_wp2_with (first | ((with_reducible refine gate_dst (N := 4) rfl ?_); refine box_event ?hg (N := 4) ?hd (cs := #[.int .i64 a0_0, .slice A0_1 l0_1.length c0_1, .slice A0_2 l0_2.length c0_2, .int .i64 a0_3, .int .i64 a0_4, .int .i64 a0_5, .int .i64 a0_6, .int .i64 a0_7, .slice A0_8 l0_8.length c0_8, .int .i64 a0_9]) (t := 33) ?hr ?_; (case hd => rfl); (case hg => rfl); (case hr => first | (go_simp; done) | (go_simp; rfl)); intro gx4 hg wx4 hbox hb; have n0_ := Aside0.mk (below_step HB.out hb); clear HB; have HB := n0_; clear n0_; have BK4_ := Aside0.mk hbox; clear hb hg hbox) | ((with_reducible refine gate_dst (N := 5) rfl ?_); refine box_event ?hg (N := 5) ?hd (cs := #[.int .i64 a1]) (t := 3) ?hr ?_; (case hd => rfl); (case hg => rfl); (case hr => first | (go_simp; done) | (go_simp; rfl)); intro gx5 hg wx5 hbox hb; have n0_ := Aside0.mk (below_step HB.out hb); have BKn4_ := Aside0.mk (blk_below BK4_.out hb); clear BK4_; have BK4_ := BKn4_; clear BKn4_; clear HB; have HB := n0_; clear n0_; have BK5_ := Aside0.mk hbox; clear hb hg hbox) | ((with_reducible refine gate_callee (f := 41) rfl ?_); refine goesL_ (some 12) rfl rfl Try.func41 (by kernel_rfl) rfl #[.int .i64 a2, .int .i64 a3, .func (.func 42) #[] #[.pointer (some ⟨gx4, 0, none⟩), .pointer (some ⟨gx5, 0, none⟩)]] rfl mp_ ?_; (with_reducible refine (where_impl_QuietSpans_1.calls k a2 a3 a0_0 _ _ l0_1 _ _ l0_2 a0_3 a0_4 a0_5 a0_6 a0_7 _ _ l0_8 a0_9 a1 t326 _ gx4 BK4_.out gx5 BK5_.out ?side1 ?side2 ?side3 ?side4 ?side5 ?side6 A5.out).mono ?_); (case side1 => exact ck_ HR0_1 HB); (case side2 => exact HC0_1.out); (case side3 => exact ck_ HR0_2 HB); (case side4 => exact HC0_2.out); (case side5 => exact ck_ HR0_8 HB); (case side6 => exact HC0_8.out); rintro e w6 ⟨v327, rfl, ho0, hb⟩; refine ⟨_, rfl, ?_⟩; have n0_ := Aside0.mk (Kd.R_lower ho0 (below_size (bl_ HB))); have n1_ := Aside0.mk (below_step (bl_ HB) hb); clear HB; have HO328 := n0_; have HB := n1_; clear n0_ n1_; (try clear hb); (try clear hb2); (try clear hk); (try clear hi); (try clear ho0)))
 go_ret
 exact ⟨_, by first | rfl | (simp [errW_none, errW_some] <;> rfl) | (simp [*, errW_none, errW_some] <;> rfl), by (with_reducible repeat (first | apply Kd.R_alloc | apply Kd.R_drewN | apply Kd.R_drew)); exact HO328.out, by repeat (first | (with_reducible first | exact HB.out | apply below_alloc | apply pw_below_drewN | apply below_drew1) | exact HB.out)⟩

/-! ### laws_eqSpan: function 44 -/
def laws_eqSpan.f (a0_0 : Int) (a0_1 : Int) (a1_0 : Int) (a1_1 : Int) : Option (Bool) := if a0_0 = a1_0 then (if a0_1 = a1_1 then (some true) else (some false)) else (some false)
set_option maxHeartbeats 8000000 in
set_option maxRecDepth 100000 in
theorem laws_eqSpan.calls (a0_0 : Int) (a0_1 : Int) (a1_0 : Int) (a1_1 : Int) (r : Bool) (w : World) (h : laws_eqSpan.f a0_0 a0_1 a1_0 a1_1 = some r) :
  Calls Try.prog 44 #[.agg #[.int .i64 a0_0, .int .i64 a0_1], .agg #[.int .i64 a1_0, .int .i64 a1_1]] w fun e w' => e = .returned (.bool r) ∧ Below w.heap.size w w' := by
 have hu51 := Try.underlying51
 have HB := Aside0.mk (Below.refl w.heap.size w)
 have H := h
 clear h
 unfold laws_eqSpan.f at H
 by_cases c3 : a0_0 = a1_0
 ·rw [if_pos c3] at H
  have c3b0 : (a0_0 == a1_0) = true := beq_iff_eq.mpr c3
  have c3b1 : (a0_0 != a1_0) = false := bne_eq_false_iff_eq.mpr c3
  clear c3
  by_cases c4 : a0_1 = a1_1
  ·rw [if_pos c4] at H
   have c4b0 : (a0_1 == a1_1) = true := beq_iff_eq.mpr c4
   have c4b1 : (a0_1 != a1_1) = false := bne_eq_false_iff_eq.mpr c4
   clear c4
   obtain rfl := Option.some.inj H
   go_enter Try.func44, Try.ntmps44
   go_wp2_with (first | ((with_reducible refine gate_dst (N := 2) rfl ?_); refine box_event ?hg (N := 2) ?hd (cs := #[.int .i64 a0_0, .int .i64 a0_1]) (t := 51) ?hr ?_; (case hd => rfl); (case hg => rfl); (case hr => first | (go_simp; done) | (go_simp; rfl)); intro gb329 hg w5 hbox hb; have n0_ := Aside0.mk (below_step (bl_ HB) hb); have n1_ := Aside0.mk (hbox); have n2_ := Aside0.mk ((by rw [hg]; exact (below_size (bl_ HB)) : w.heap.size ≤ gb329)); have n3_ := Aside0.mk ((by rw [hg]; exact (below_size (bl_ HB)) : w.heap.size ≤ gb329)); clear HB; have HB := n0_; have BK329 := n1_; have GW329 := n2_; have GE329 := n3_; clear n0_ n1_ n2_ n3_; clear hb hbox hg) | ((with_reducible refine gate_dst (N := 3) rfl ?_); refine box_event ?hg (N := 3) ?hd (cs := #[.int .i64 a1_0, .int .i64 a1_1]) (t := 51) ?hr ?_; (case hd => rfl); (case hg => rfl); (case hr => first | (go_simp; done) | (go_simp; rfl)); intro gb330 hg w6 hbox hb; have n0_ := Aside0.mk (blk_below (bk_ BK329) hb); have n1_ := Aside0.mk (below_step (bl1_ HB GE329) hb); have n2_ := Aside0.mk (hbox); have n3_ := Aside0.mk ((by rw [hg]; exact (below_size (bl1_ HB GE329)) : w.heap.size ≤ gb330)); have n4_ := Aside0.mk ((by rw [hg]; exact (below_size (bl1_ HB GE329)) : w.heap.size ≤ gb330)); have n5_ := Aside0.mk ((by rw [hg]; exact Nat.ne_of_lt (blk_lt (bk_ BK329)) : gb329 ≠ gb330)); have n6_ := Aside0.mk ((by rw [hg]; exact Nat.ne_of_gt (blk_lt (bk_ BK329)) : gb330 ≠ gb329)); clear BK329; clear HB; have BK329 := n0_; have HB := n1_; have BK330 := n2_; have GW330 := n3_; have GE330 := n4_; have NB329_330 := n5_; have NB330_329 := n6_; clear n0_ n1_ n2_ n3_ n4_ n5_ n6_; clear hb hbox hg; have hnb7 := NB329_330.out; have hnc7 := NB330_329.out; have hcz8_0 : w6.cell? ⟨gb329, 0, none⟩ = some (.int .i64 a0_0) := bc_ BK329 0 rfl; have hcz8_1 : w6.cell? ⟨gb329, 1, none⟩ = some (.int .i64 a0_1) := bc_ BK329 1 rfl; have hfz8_0 := bf_ BK329 0; have hfz8_1 := bf_ BK329 1; have hcz9_0 : w6.cell? ⟨gb330, 0, none⟩ = some (.int .i64 a1_0) := bc_ BK330 0 rfl; have hcz9_1 : w6.cell? ⟨gb330, 1, none⟩ = some (.int .i64 a1_1) := bc_ BK330 1 rfl; have hfz9_0 := bf_ BK330 0; have hfz9_1 := bf_ BK330 1))
   go_ret
   exact ⟨by first | rfl | (simp [errW_none, errW_some] <;> rfl) | (simp [*, errW_none, errW_some] <;> rfl), by repeat (first | (with_reducible first | exact HB.out | apply below_alloc | apply pw_below_drewN | apply below_drew1 | refine below_set ?_ GE329.out | refine below_set ?_ GE330.out) | exact HB.out)⟩
  ·rw [if_neg c4] at H
   have c4b0 : (a0_1 == a1_1) = false := beq_eq_false_iff_ne.mpr c4
   have c4b1 : (a0_1 != a1_1) = true := bne_iff_ne.mpr c4
   obtain rfl := Option.some.inj H
   go_enter Try.func44, Try.ntmps44
   go_wp2_with (first | ((with_reducible refine gate_dst (N := 2) rfl ?_); refine box_event ?hg (N := 2) ?hd (cs := #[.int .i64 a0_0, .int .i64 a0_1]) (t := 51) ?hr ?_; (case hd => rfl); (case hg => rfl); (case hr => first | (go_simp; done) | (go_simp; rfl)); intro gb329 hg w10 hbox hb; have n0_ := Aside0.mk (below_step (bl_ HB) hb); have n1_ := Aside0.mk (hbox); have n2_ := Aside0.mk ((by rw [hg]; exact (below_size (bl_ HB)) : w.heap.size ≤ gb329)); have n3_ := Aside0.mk ((by rw [hg]; exact (below_size (bl_ HB)) : w.heap.size ≤ gb329)); clear HB; have HB := n0_; have BK329 := n1_; have GW329 := n2_; have GE329 := n3_; clear n0_ n1_ n2_ n3_; clear hb hbox hg) | ((with_reducible refine gate_dst (N := 3) rfl ?_); refine box_event ?hg (N := 3) ?hd (cs := #[.int .i64 a1_0, .int .i64 a1_1]) (t := 51) ?hr ?_; (case hd => rfl); (case hg => rfl); (case hr => first | (go_simp; done) | (go_simp; rfl)); intro gb330 hg w11 hbox hb; have n0_ := Aside0.mk (blk_below (bk_ BK329) hb); have n1_ := Aside0.mk (below_step (bl1_ HB GE329) hb); have n2_ := Aside0.mk (hbox); have n3_ := Aside0.mk ((by rw [hg]; exact (below_size (bl1_ HB GE329)) : w.heap.size ≤ gb330)); have n4_ := Aside0.mk ((by rw [hg]; exact (below_size (bl1_ HB GE329)) : w.heap.size ≤ gb330)); have n5_ := Aside0.mk ((by rw [hg]; exact Nat.ne_of_lt (blk_lt (bk_ BK329)) : gb329 ≠ gb330)); have n6_ := Aside0.mk ((by rw [hg]; exact Nat.ne_of_gt (blk_lt (bk_ BK329)) : gb330 ≠ gb329)); clear BK329; clear HB; have BK329 := n0_; have HB := n1_; have BK330 := n2_; have GW330 := n3_; have GE330 := n4_; have NB329_330 := n5_; have NB330_329 := n6_; clear n0_ n1_ n2_ n3_ n4_ n5_ n6_; clear hb hbox hg; have hnb12 := NB329_330.out; have hnc12 := NB330_329.out; have hcz13_0 : w11.cell? ⟨gb329, 0, none⟩ = some (.int .i64 a0_0) := bc_ BK329 0 rfl; have hcz13_1 : w11.cell? ⟨gb329, 1, none⟩ = some (.int .i64 a0_1) := bc_ BK329 1 rfl; have hfz13_0 := bf_ BK329 0; have hfz13_1 := bf_ BK329 1; have hcz14_0 : w11.cell? ⟨gb330, 0, none⟩ = some (.int .i64 a1_0) := bc_ BK330 0 rfl; have hcz14_1 : w11.cell? ⟨gb330, 1, none⟩ = some (.int .i64 a1_1) := bc_ BK330 1 rfl; have hfz14_0 := bf_ BK330 0; have hfz14_1 := bf_ BK330 1))
   go_ret
   exact ⟨by first | rfl | (simp [errW_none, errW_some] <;> rfl) | (simp [*, errW_none, errW_some] <;> rfl), by repeat (first | (with_reducible first | exact HB.out | apply below_alloc | apply pw_below_drewN | apply below_drew1 | refine below_set ?_ GE329.out | refine below_set ?_ GE330.out) | exact HB.out)⟩
 ·rw [if_neg c3] at H
  have c3b0 : (a0_0 == a1_0) = false := beq_eq_false_iff_ne.mpr c3
  have c3b1 : (a0_0 != a1_0) = true := bne_iff_ne.mpr c3
  obtain rfl := Option.some.inj H
  go_enter Try.func44, Try.ntmps44
  go_wp2_with (first | ((with_reducible refine gate_dst (N := 2) rfl ?_); refine box_event ?hg (N := 2) ?hd (cs := #[.int .i64 a0_0, .int .i64 a0_1]) (t := 51) ?hr ?_; (case hd => rfl); (case hg => rfl); (case hr => first | (go_simp; done) | (go_simp; rfl)); intro gb329 hg w15 hbox hb; have n0_ := Aside0.mk (below_step (bl_ HB) hb); have n1_ := Aside0.mk (hbox); have n2_ := Aside0.mk ((by rw [hg]; exact (below_size (bl_ HB)) : w.heap.size ≤ gb329)); have n3_ := Aside0.mk ((by rw [hg]; exact (below_size (bl_ HB)) : w.heap.size ≤ gb329)); clear HB; have HB := n0_; have BK329 := n1_; have GW329 := n2_; have GE329 := n3_; clear n0_ n1_ n2_ n3_; clear hb hbox hg) | ((with_reducible refine gate_dst (N := 3) rfl ?_); refine box_event ?hg (N := 3) ?hd (cs := #[.int .i64 a1_0, .int .i64 a1_1]) (t := 51) ?hr ?_; (case hd => rfl); (case hg => rfl); (case hr => first | (go_simp; done) | (go_simp; rfl)); intro gb330 hg w16 hbox hb; have n0_ := Aside0.mk (blk_below (bk_ BK329) hb); have n1_ := Aside0.mk (below_step (bl1_ HB GE329) hb); have n2_ := Aside0.mk (hbox); have n3_ := Aside0.mk ((by rw [hg]; exact (below_size (bl1_ HB GE329)) : w.heap.size ≤ gb330)); have n4_ := Aside0.mk ((by rw [hg]; exact (below_size (bl1_ HB GE329)) : w.heap.size ≤ gb330)); have n5_ := Aside0.mk ((by rw [hg]; exact Nat.ne_of_lt (blk_lt (bk_ BK329)) : gb329 ≠ gb330)); have n6_ := Aside0.mk ((by rw [hg]; exact Nat.ne_of_gt (blk_lt (bk_ BK329)) : gb330 ≠ gb329)); clear BK329; clear HB; have BK329 := n0_; have HB := n1_; have BK330 := n2_; have GW330 := n3_; have GE330 := n4_; have NB329_330 := n5_; have NB330_329 := n6_; clear n0_ n1_ n2_ n3_ n4_ n5_ n6_; clear hb hbox hg; have hnb17 := NB329_330.out; have hnc17 := NB330_329.out; have hcz18_0 : w16.cell? ⟨gb329, 0, none⟩ = some (.int .i64 a0_0) := bc_ BK329 0 rfl; have hcz18_1 : w16.cell? ⟨gb329, 1, none⟩ = some (.int .i64 a0_1) := bc_ BK329 1 rfl; have hfz18_0 := bf_ BK329 0; have hfz18_1 := bf_ BK329 1; have hcz19_0 : w16.cell? ⟨gb330, 0, none⟩ = some (.int .i64 a1_0) := bc_ BK330 0 rfl; have hcz19_1 : w16.cell? ⟨gb330, 1, none⟩ = some (.int .i64 a1_1) := bc_ BK330 1 rfl; have hfz19_0 := bf_ BK330 0; have hfz19_1 := bf_ BK330 1))
  go_ret
  exact ⟨by first | rfl | (simp [errW_none, errW_some] <;> rfl) | (simp [*, errW_none, errW_some] <;> rfl), by repeat (first | (with_reducible first | exact HB.out | apply below_alloc | apply pw_below_drewN | apply below_drew1 | refine below_set ?_ GE329.out | refine below_set ?_ GE330.out) | exact HB.out)⟩

end Go.Proofs.Ytikklalaggkdoaa.PFnExactQuietSpans
