-- Written by a program of this session for this claim (the kit's printer with changes).
import Derived.Test.YtikklalaggkdoaaQFnExactLongestDarkx0
import Derived.Test.YtikklalaggkdoaaQFnExactLongestDarkx1
import Derived.Test.YtikklalaggkdoaaQFnExactLongestDarkx2
import Derived.Test.YtikklalaggkdoaaQFnExactLongestDarkx3
import Derived.Test.YtikklalaggkdoaaQFnExactLongestDarkx4
namespace Go.Proofs.Ytikklalaggkdoaa.PFnExactLongestDark
open Go.RowKit Go.Proofs.YtikklalaggkdoaaW.PrintWords Go.Proofs.YtikklalaggkdoaaW.PrintLast Go.Proofs.YtikklalaggkdoaaW.PrintMore
attribute [local go_sem] max2_int min2_int max_two min_two max_three min_three max_four min_four   -- for this text's walks alone
set_option linter.unusedVariables false
set_option linter.unusedSimpArgs false

/-! ### laws_eqSatS: function 35 -/
def laws_eqSatS.l0 : Nat → List (S71) → List (S71) → Int → Option (Bool)
 | 0, _, _, _ => none
 | k + 1, x0, x1, x5 => if x5 < (x0.length : Int) then (if 0 ≤ x5 then (if x5 < (x1.length : Int) then ((laws_eqSat.f ((rd_T71 x0 x5).f0) ((rd_T71 x0 x5).f1) ((rd_T71 x0 x5).f2) ((rd_T71 x0 x5).f3) ((rd_T71 x1 x5).f0) ((rd_T71 x1 x5).f1) ((rd_T71 x1 x5).f2) ((rd_T71 x1 x5).f3)).bind fun t327 => (if t327 = true then (laws_eqSatS.l0 k x0 x1 (wrap64 (x5 + 1))) else (some false))) else (none)) else (none)) else (some true)
def laws_eqSatS.f (k : Nat) (l0 : List (S71)) (l1 : List (S71)) : Option (Bool) := if (l0.length : Int) = (l1.length : Int) then (laws_eqSatS.l0 k l0 l1 0) else (some false)
theorem laws_eqSatS.mono_l : ∀ k, (∀ y0 y1 y2, LeO (laws_eqSatS.l0 k y0 y1 y2) (laws_eqSatS.l0 (k + 1) y0 y1 y2))
 | 0 => fun _ _ _ r h => by simp [laws_eqSatS.l0] at h
 | k + 1 => by
  have ih0 := laws_eqSatS.mono_l k
  ·intro y0 y1 y2
   unfold laws_eqSatS.l0
   repeat' first
   | (with_reducible exact ih0 _ _ _)
   | (with_reducible exact LeO.refl _)
   | (with_reducible exact LeO.none _)
   | (with_reducible refine LeO.ite ?_ ?_)
   | (with_reducible refine LeO.bind ?_ (fun _ => ?_))
   | exact ih0 _ _ _
   | exact LeO.none _
   | refine LeO.ite ?_ ?_
   | refine LeO.bind ?_ (fun _ => ?_)
theorem laws_eqSatS.mono : ∀ a0 a1 k, LeO (laws_eqSatS.f k a0 a1) (laws_eqSatS.f (k + 1) a0 a1) := by
 intro a0 a1 k
 have ih0 := laws_eqSatS.mono_l k
 unfold laws_eqSatS.f
 repeat' first
   | (with_reducible exact ih0 _ _ _)
   | (with_reducible exact LeO.refl _)
   | (with_reducible exact LeO.none _)
   | (with_reducible refine LeO.ite ?_ ?_)
   | (with_reducible refine LeO.bind ?_ (fun _ => ?_))
   | exact ih0 _ _ _
   | exact LeO.none _
   | refine LeO.ite ?_ ?_
   | refine LeO.bind ?_ (fun _ => ?_)
def laws_eqSatS.T6 : Bool × List (List Nat × List Nat) := (true, [([], []), ([], []), ([0, 1], [0, 1]), ([2], [2]), ([], []), ([], []), ([4, 5], [4, 5]), ([6], [6]), ([3, 7], [3, 7]), ([8], [8])])
def laws_eqSatS.B6 : List Nat := [0, 0, 3, 7, 0, 0, 48, 112, 255, 511]
theorem laws_eqSatS.tab6 : rtab .any (opsOf Try.f35 6) = laws_eqSatS.T6 := by kernel_rfl
theorem laws_eqSatS.bits6 : waitsOk laws_eqSatS.T6.2 laws_eqSatS.B6 = true := by kernel_rfl
set_option maxHeartbeats 8000000 in
set_option maxRecDepth 100000 in
theorem laws_eqSatS.calls (k : Nat) (A0 : Option Addr) (c0 : Nat) (l0 : List (S71)) (A1 : Option Addr) (c1 : Nat) (l1 : List (S71)) (r : Bool) (w : World) (hr0 : Kd.C k71 w A0 l0.length l0) (hc0 : l0.length ≤ c0) (hr1 : Kd.C k71 w A1 l1.length l1) (hc1 : l1.length ≤ c1) (h : laws_eqSatS.f k l0 l1 = some r) (hT_ : r = true := by rfl) :
  Calls Try.prog 35 #[.slice A0 l0.length c0, .slice A1 l1.length c1] w fun e w' => e = .returned (.bool r) ∧ Below w.heap.size w w' := by
 have hu71 := Try.underlying71
 have HR0 := Aside0.mk hr0
 have HC0 := Aside0.mk hc0
 clear hr0 hc0
 have HR1 := Aside0.mk hr1
 have HC1 := Aside0.mk hc1
 clear hr1 hc1
 have HB := Aside0.mk (Below.refl w.heap.size w)
 subst hT_
 have H := h
 clear h
 unfold laws_eqSatS.f at H
 by_cases c3 : (l0.length : Int) = (l1.length : Int)
 ·rw [if_pos c3] at H
  have c3b0 : ((l0.length : Int) == (l1.length : Int)) = true := beq_iff_eq.mpr c3
  have c3b1 : ((l0.length : Int) != (l1.length : Int)) = false := bne_eq_false_iff_eq.mpr c3
  have c3b2 : (l0.length == l1.length) = true := by first | simpa using c3 | (simp at c3 ⊢; omega)
  clear c3
  have H' := Aside0.mk H
  clear H
  go_enter Try.func35, Try.ntmps35
  go_wp2
  go_loopg [5] k (fun kq v5 w' => ∃ (x5_1 : Int), v5 = .int .i64 x5_1 ∧ Aside0 (laws_eqSatS.l0 kq l0 l1 x5_1 = some true) ∧ Aside0 (kq ≤ k) ∧ Aside0 (Below w.heap.size w w'))
  case atStart => exact ⟨(0), (by first | rfl | (simp; done) | (simp [*]; done)), H', ⟨Nat.le_refl _⟩, ⟨by repeat (first | (with_reducible first | exact HB.out | apply below_alloc | apply pw_below_drewN | apply below_drew1) | exact HB.out)⟩⟩
  case round =>
   clear H'
   try clear c1
   try clear p2
   try clear c3
   try clear c3b0
   try clear c3b1
   try clear c3b2
   obtain ⟨x5_1, rfl, HA, HK1, HB⟩ := hrel
   cases gk with
   | zero => exact absurd HA.out (by simp [laws_eqSatS.l0])
   | succ k1 =>
    have H := HA.out
    clear HA
    simp only [laws_eqSatS.l0] at H
    by_cases c4 : x5_1 < (l0.length : Int)
    ·rw [if_pos c4] at H
     have c4b0 : decide (x5_1 < (l0.length : Int)) = true := decide_eq_true c4
     clear c4
     by_cases c5 : 0 ≤ x5_1
     ·rw [if_pos c5] at H
      have c5b0 : decide (0 ≤ x5_1) = true := decide_eq_true c5
      clear c5
      by_cases c6 : x5_1 < (l1.length : Int)
      ·rw [if_pos c6] at H
       have c6b0 : decide (x5_1 < (l1.length : Int)) = true := decide_eq_true c6
       clear c6
       replace H := Option.bind_eq_some_iff.mp H
       obtain ⟨t327, A70, H⟩ := H
       have A7 := Aside0.mk A70
       clear A70
       by_cases c8 : t327 = true
       ·subst c8
        have H1 : (laws_eqSatS.l0 k1 l0 l1 (wrap64 (x5_1 + 1))) = some true := by first | (rw [if_pos rfl] at H; exact H) | rfl
        clear H
        have H := H1
        clear H1
        have H' := Aside0.mk H
        clear H
        try go_wp2
        have n0_ := Aside0.mk (below_drew1 HB.out)
        clear HB
        have HB := n0_
        clear n0_
        have p325 : 0 ≤ (x5_1 : Int) := of_decide_eq_true (by first | (with_reducible assumption) | assumption)
        have q325 : x5_1 < (l0.length : Int) := of_decide_eq_true (by first | (with_reducible assumption) | assumption)
        obtain ⟨ad325, e325, hx325_0, hx325_1, hx325_2, hx325_3⟩ := at_T71 HR0.out x5_1 p325 q325
        have hw325_3 := hx325_3
        have hw325_2 := hx325_2
        have hw325_1 := hx325_1
        have hw325_0 := hx325_0
        cases e325
        replace hx325_0 := (HB.out.cell (World.block_lt_of_cell? w _ hx325_0)).trans hx325_0
        replace hx325_1 := (HB.out.cell (World.block_lt_of_cell? w _ hx325_1)).trans hx325_1
        replace hx325_2 := (HB.out.cell (World.block_lt_of_cell? w _ hx325_2)).trans hx325_2
        replace hx325_3 := (HB.out.cell (World.block_lt_of_cell? w _ hx325_3)).trans hx325_3
        replace p325 := eq_true p325
        replace q325 := eq_true q325
        have p326 : 0 ≤ (x5_1 : Int) := of_decide_eq_true (by first | (with_reducible assumption) | assumption)
        have q326 : x5_1 < (l1.length : Int) := of_decide_eq_true (by first | (with_reducible assumption) | assumption)
        obtain ⟨ad326, e326, hx326_0, hx326_1, hx326_2, hx326_3⟩ := at_T71 HR1.out x5_1 p326 q326
        have hw326_3 := hx326_3
        have hw326_2 := hx326_2
        have hw326_1 := hx326_1
        have hw326_0 := hx326_0
        cases e326
        replace hx326_0 := (HB.out.cell (World.block_lt_of_cell? w _ hx326_0)).trans hx326_0
        replace hx326_1 := (HB.out.cell (World.block_lt_of_cell? w _ hx326_1)).trans hx326_1
        replace hx326_2 := (HB.out.cell (World.block_lt_of_cell? w _ hx326_2)).trans hx326_2
        replace hx326_3 := (HB.out.cell (World.block_lt_of_cell? w _ hx326_3)).trans hx326_3
        replace p326 := eq_true p326
        replace q326 := eq_true q326
        refine start_ (n := 10) (S := fun w' => w'.cell? (ad325.add ((x5_1).toNat * 4)) = some (.int .i64 ((rd_T71 l0 x5_1).f0)) ∧ w'.cell? ⟨(ad325.add ((x5_1).toNat * 4)).block, (ad325.add ((x5_1).toNat * 4)).off + 1, none⟩ = some (.int .i64 ((rd_T71 l0 x5_1).f1)) ∧ w'.cell? ⟨(ad325.add ((x5_1).toNat * 4)).block, (ad325.add ((x5_1).toNat * 4)).off + 2, none⟩ = some (.int .i64 ((rd_T71 l0 x5_1).f2)) ∧ w'.cell? ⟨(ad325.add ((x5_1).toNat * 4)).block, (ad325.add ((x5_1).toNat * 4)).off + 3, none⟩ = some (.int .i64 ((rd_T71 l0 x5_1).f3)) ∧ w'.cell? (ad326.add ((x5_1).toNat * 4)) = some (.int .i64 ((rd_T71 l1 x5_1).f0)) ∧ w'.cell? ⟨(ad326.add ((x5_1).toNat * 4)).block, (ad326.add ((x5_1).toNat * 4)).off + 1, none⟩ = some (.int .i64 ((rd_T71 l1 x5_1).f1)) ∧ w'.cell? ⟨(ad326.add ((x5_1).toNat * 4)).block, (ad326.add ((x5_1).toNat * 4)).off + 2, none⟩ = some (.int .i64 ((rd_T71 l1 x5_1).f2)) ∧ w'.cell? ⟨(ad326.add ((x5_1).toNat * 4)).block, (ad326.add ((x5_1).toNat * 4)).off + 3, none⟩ = some (.int .i64 ((rd_T71 l1 x5_1).f3))) (ds := []) #[false, false, false, false, false, false, false, false, false, false] (by kernel_rfl) rfl rfl ⟨((HB.out.cell (World.block_lt_of_cell? w _ hw325_0)).trans hw325_0), ((HB.out.cell (World.block_lt_of_cell? w _ hw325_1)).trans hw325_1), ((HB.out.cell (World.block_lt_of_cell? w _ hw325_2)).trans hw325_2), ((HB.out.cell (World.block_lt_of_cell? w _ hw325_3)).trans hw325_3), ((HB.out.cell (World.block_lt_of_cell? w _ hw326_0)).trans hw326_0), ((HB.out.cell (World.block_lt_of_cell? w _ hw326_1)).trans hw326_1), ((HB.out.cell (World.block_lt_of_cell? w _ hw326_2)).trans hw326_2), ((HB.out.cell (World.block_lt_of_cell? w _ hw326_3)).trans hw326_3)⟩ (fun hHeld => ?_); refine with_tabW laws_eqSatS.tab6 laws_eqSatS.bits6 (fun HT_ HW_ => ?_)
        generalize wr.drew = w9 at HB hx325_0 hx325_1 hx325_2 hx325_3 hx326_0 hx326_1 hx326_2 hx326_3 hHeld ⊢
        refine pure_ (i := 0) (N := some 17) (v := ?_) (a' := ?_) #[true, false, false, false, false, false, false, false, false, false] rfl rfl (any_of HT_.out (by kernel_rfl)) (fun _ _ _ h => h) (Or.inl ⟨by rfl, ?_⟩) ?_ ?_
        rotate_left
        ·intro w'
         go_simp
         with_reducible rfl
        rotate_left
        ·simp only [Act.put, List.setIfInBounds_toArray, List.set_cons_zero, List.set_cons_succ, i64_w, i32_w]
         rfl
        refine pure_ (i := 1) (N := some 18) (v := ?_) (a' := ?_) #[true, true, false, false, false, false, false, false, false, false] rfl rfl (any_of HT_.out (by kernel_rfl)) (fun _ _ _ h => h) (Or.inl ⟨by rfl, ?_⟩) ?_ ?_
        rotate_left
        ·intro w'
         go_simp
         with_reducible rfl
        rotate_left
        ·simp only [Act.put, List.setIfInBounds_toArray, List.set_cons_zero, List.set_cons_succ, i64_w, i32_w]
         rfl
        refine pure_ (i := 2) (N := some 19) (v := ?_) (a' := ?_) #[true, true, true, false, false, false, false, false, false, false] rfl rfl (any_of HT_.out (by kernel_rfl)) (fun _ _ _ h => h) (Or.inl ⟨by rfl, ?_⟩) ?_ ?_
        rotate_left
        ·intro w'
         go_simp
         with_reducible rfl
        rotate_left
        ·simp only [Act.put, List.setIfInBounds_toArray, List.set_cons_zero, List.set_cons_succ, i64_w, i32_w]
         rfl
        refine pure_ (i := 4) (N := some 21) (v := ?_) (a' := ?_) #[true, true, true, false, true, false, false, false, false, false] rfl rfl (any_of HT_.out (by kernel_rfl)) (fun _ _ _ h => h) (Or.inl ⟨by rfl, ?_⟩) ?_ ?_
        rotate_left
        ·intro w'
         go_simp
         with_reducible rfl
        rotate_left
        ·simp only [Act.put, List.setIfInBounds_toArray, List.set_cons_zero, List.set_cons_succ, i64_w, i32_w]
         rfl
        refine pure_ (i := 5) (N := some 22) (v := ?_) (a' := ?_) #[true, true, true, false, true, true, false, false, false, false] rfl rfl (any_of HT_.out (by kernel_rfl)) (fun _ _ _ h => h) (Or.inl ⟨by rfl, ?_⟩) ?_ ?_
        rotate_left
        ·intro w'
         go_simp
         with_reducible rfl
        rotate_left
        ·simp only [Act.put, List.setIfInBounds_toArray, List.set_cons_zero, List.set_cons_succ, i64_w, i32_w]
         rfl
        refine pure_ (i := 6) (N := some 23) (v := ?_) (a' := ?_) #[true, true, true, false, true, true, true, false, false, false] rfl rfl (any_of HT_.out (by kernel_rfl)) (fun _ _ _ h => h) (Or.inl ⟨by rfl, ?_⟩) ?_ ?_
        rotate_left
        ·intro w'
         go_simp
         with_reducible rfl
        rotate_left
        ·simp only [Act.put, List.setIfInBounds_toArray, List.set_cons_zero, List.set_cons_succ, i64_w, i32_w]
         rfl
        refine take_ (i := 3) (N := some 20) (v := ?_) (a' := ?_) #[true, true, true, true, true, true, true, false, false, false] rfl rfl (take_ofW HT_.out HW_.out (by kernel_rfl)) (fun _ _ _ h => h) (Or.inl ⟨by rfl, ?_⟩) hHeld ?_ ?_
        rotate_left
        ·rintro w' ⟨s0, s1, s2, s3, s4, s5, s6, s7⟩
         go_simp
         with_reducible rfl
        rotate_left
        ·simp only [Act.put, List.setIfInBounds_toArray, List.set_cons_zero, List.set_cons_succ, i64_w, i32_w]
         rfl
        refine take_ (i := 7) (N := some 24) (v := ?_) (a' := ?_) #[true, true, true, true, true, true, true, true, false, false] rfl rfl (take_ofW HT_.out HW_.out (by kernel_rfl)) (fun _ _ _ h => h) (Or.inl ⟨by rfl, ?_⟩) hHeld ?_ ?_
        rotate_left
        ·rintro w' ⟨s0, s1, s2, s3, s4, s5, s6, s7⟩
         go_simp
         with_reducible rfl
        rotate_left
        ·simp only [Act.put, List.setIfInBounds_toArray, List.set_cons_zero, List.set_cons_succ, i64_w, i32_w]
         rfl
        refine one_ (i := 8) (N := some 25) #[true, true, true, true, true, true, true, true, true, false] rfl rfl (one_of HT_.out (by kernel_rfl)) (by decide) (fun K hK => ?_)
        refine goes_ Try.func61 (by kernel_rfl) rfl #[.agg #[.int .i64 ((rd_T71 l0 x5_1).f0), .int .i64 ((rd_T71 l0 x5_1).f1), .int .i64 ((rd_T71 l0 x5_1).f2), .int .i64 ((rd_T71 l0 x5_1).f3)], .agg #[.int .i64 ((rd_T71 l1 x5_1).f0), .int .i64 ((rd_T71 l1 x5_1).f1), .int .i64 ((rd_T71 l1 x5_1).f2), .int .i64 ((rd_T71 l1 x5_1).f3)]] (by rfl) rfl rfl mp_ ?_
        with_reducible refine (laws_eqSat.calls ((rd_T71 l0 x5_1).f0) ((rd_T71 l0 x5_1).f1) ((rd_T71 l0 x5_1).f2) ((rd_T71 l0 x5_1).f3) ((rd_T71 l1 x5_1).f0) ((rd_T71 l1 x5_1).f1) ((rd_T71 l1 x5_1).f2) ((rd_T71 l1 x5_1).f3) true _ A7.out).mono ?_
        rintro e w10 ⟨rfl, hb⟩
        refine ⟨_, rfl, ?_⟩
        have n0_ := Aside0.mk (below_step (bl_ HB) hb)
        clear HB
        have HB := n0_
        clear n0_
        (try clear hb)
        (try clear hb2)
        (try clear hk)
        (try clear hi)
        refine hK.out _ _ ⟨((HB.out.cell (World.block_lt_of_cell? w _ hw325_0)).trans hw325_0), ((HB.out.cell (World.block_lt_of_cell? w _ hw325_1)).trans hw325_1), ((HB.out.cell (World.block_lt_of_cell? w _ hw325_2)).trans hw325_2), ((HB.out.cell (World.block_lt_of_cell? w _ hw325_3)).trans hw325_3), ((HB.out.cell (World.block_lt_of_cell? w _ hw326_0)).trans hw326_0), ((HB.out.cell (World.block_lt_of_cell? w _ hw326_1)).trans hw326_1), ((HB.out.cell (World.block_lt_of_cell? w _ hw326_2)).trans hw326_2), ((HB.out.cell (World.block_lt_of_cell? w _ hw326_3)).trans hw326_3)⟩ (fun hHeld => ?_)
        clear hK K
        refine norm_ (a' := ?_) ?_ ?_
        rotate_left
        ·show Act.put _ (some 25) _ = _
         simp only [Act.put, List.setIfInBounds_toArray, List.set_cons_zero, List.set_cons_succ, i64_w, i32_w]
         rfl
        refine pure_ (i := 9) (N := some 26) (v := ?_) (a' := ?_) #[true, true, true, true, true, true, true, true, true, true] rfl rfl (any_of HT_.out (by kernel_rfl)) (fun _ _ _ h => h) (Or.inl ⟨by rfl, ?_⟩) ?_ ?_
        rotate_left
        ·intro w'
         go_simp
         with_reducible rfl
        rotate_left
        ·simp only [Act.put, List.setIfInBounds_toArray, List.set_cons_zero, List.set_cons_succ, i64_w, i32_w]
         rfl
        refine done_ (done_of HT_.out (by kernel_rfl)) ?_
        try go_wp2
        go_roundg k1
        case measure => have := HK1.out; omega
        case rel => exact ⟨(wrap64 (x5_1 + 1)), (by first | rfl | (simp; done) | (simp [*]; done)), H', ⟨by have := HK1.out; omega⟩, ⟨by repeat (first | (with_reducible first | exact HB.out | apply below_alloc | apply pw_below_drewN | apply below_drew1) | exact HB.out)⟩⟩
       ·replace c8 := Bool.eq_false_iff.mpr c8
        subst c8
        have H1 : (some false) = some true := by first | (rw [if_neg (show ¬ (false = true) by decide)] at H; exact H) | rfl
        clear H
        have H := H1
        clear H1
        exact absurd H (by simp)
      ·rw [if_neg c6] at H
       exact absurd H (by simp)
     ·rw [if_neg c5] at H
      exact absurd H (by simp)
    ·rw [if_neg c4] at H
     have c4b0 : decide (x5_1 < (l0.length : Int)) = false := decide_eq_false c4
     clear c4
     clear H
     go_wp2
     go_ret
     exact ⟨by first | rfl | (simp [errW_none, errW_some] <;> rfl) | (simp [*, errW_none, errW_some] <;> rfl), by repeat (first | (with_reducible first | exact HB.out | apply below_alloc | apply pw_below_drewN | apply below_drew1) | exact HB.out)⟩
 ·rw [if_neg c3] at H
  have c3b0 : ((l0.length : Int) == (l1.length : Int)) = false := beq_eq_false_iff_ne.mpr c3
  have c3b1 : ((l0.length : Int) != (l1.length : Int)) = true := bne_iff_ne.mpr c3
  have c3b2 : (l0.length == l1.length) = false := by first | simpa using c3 | (simp at c3 ⊢; omega)
  exact absurd H (by simp)

/-! ### laws_eqSite: function 62 -/
def laws_eqSite.f (a0_0 : Int) (a0_1 : Int) (a0_2 : Int) (a1_0 : Int) (a1_1 : Int) (a1_2 : Int) : Option (Bool) := if a0_0 = a1_0 then (if a0_1 = a1_1 then (if a0_2 = a1_2 then (some true) else (some false)) else (some false)) else (some false)
set_option maxHeartbeats 8000000 in
set_option maxRecDepth 100000 in
theorem laws_eqSite.calls (a0_0 : Int) (a0_1 : Int) (a0_2 : Int) (a1_0 : Int) (a1_1 : Int) (a1_2 : Int) (r : Bool) (w : World) (h : laws_eqSite.f a0_0 a0_1 a0_2 a1_0 a1_1 a1_2 = some r) (hT_ : r = true := by rfl) :
  Calls Try.prog 62 #[.agg #[.int .i64 a0_0, .int .i64 a0_1, .int .i64 a0_2], .agg #[.int .i64 a1_0, .int .i64 a1_1, .int .i64 a1_2]] w fun e w' => e = .returned (.bool r) ∧ Below w.heap.size w w' := by
 have hu75 := Try.underlying75
 have HB := Aside0.mk (Below.refl w.heap.size w)
 subst hT_
 have H := h
 clear h
 unfold laws_eqSite.f at H
 by_cases c3 : a0_0 = a1_0
 ·rw [if_pos c3] at H
  have c3b0 : (a0_0 == a1_0) = true := beq_iff_eq.mpr c3
  have c3b1 : (a0_0 != a1_0) = false := bne_eq_false_iff_eq.mpr c3
  clear c3
  by_cases c4 : a0_1 = a1_1
  ·rw [if_pos c4] at H
   have c4b0 : (a0_1 == a1_1) = true := beq_iff_eq.mpr c4
   have c4b1 : (a0_1 != a1_1) = false := bne_eq_false_iff_eq.mpr c4
   clear c4
   by_cases c5 : a0_2 = a1_2
   ·rw [if_pos c5] at H
    have c5b0 : (a0_2 == a1_2) = true := beq_iff_eq.mpr c5
    have c5b1 : (a0_2 != a1_2) = false := bne_eq_false_iff_eq.mpr c5
    clear c5
    clear H
    go_enter Try.func62, Try.ntmps62
    go_wp2_with (first | ((with_reducible refine gate_dst (N := 2) rfl ?_); refine box_event ?hg (N := 2) ?hd (cs := #[.int .i64 a0_0, .int .i64 a0_1, .int .i64 a0_2]) (t := 75) ?hr ?_; (case hd => rfl); (case hg => rfl); (case hr => first | (go_simp; done) | (go_simp; rfl)); intro gb328 hg w6 hbox hb; have n0_ := Aside0.mk (below_step (bl_ HB) hb); have n1_ := Aside0.mk (hbox); have n2_ := Aside0.mk ((by rw [hg]; exact (below_size (bl_ HB)) : w.heap.size ≤ gb328)); have n3_ := Aside0.mk ((by rw [hg]; exact (below_size (bl_ HB)) : w.heap.size ≤ gb328)); clear HB; have HB := n0_; have BK328 := n1_; have GW328 := n2_; have GE328 := n3_; clear n0_ n1_ n2_ n3_; clear hb hbox hg) | ((with_reducible refine gate_dst (N := 3) rfl ?_); refine box_event ?hg (N := 3) ?hd (cs := #[.int .i64 a1_0, .int .i64 a1_1, .int .i64 a1_2]) (t := 75) ?hr ?_; (case hd => rfl); (case hg => rfl); (case hr => first | (go_simp; done) | (go_simp; rfl)); intro gb329 hg w7 hbox hb; have n0_ := Aside0.mk (blk_below (bk_ BK328) hb); have n1_ := Aside0.mk (below_step (bl1_ HB GE328) hb); have n2_ := Aside0.mk (hbox); have n3_ := Aside0.mk ((by rw [hg]; exact (below_size (bl1_ HB GE328)) : w.heap.size ≤ gb329)); have n4_ := Aside0.mk ((by rw [hg]; exact (below_size (bl1_ HB GE328)) : w.heap.size ≤ gb329)); have n5_ := Aside0.mk ((by rw [hg]; exact Nat.ne_of_lt (blk_lt (bk_ BK328)) : gb328 ≠ gb329)); have n6_ := Aside0.mk ((by rw [hg]; exact Nat.ne_of_gt (blk_lt (bk_ BK328)) : gb329 ≠ gb328)); clear BK328; clear HB; have BK328 := n0_; have HB := n1_; have BK329 := n2_; have GW329 := n3_; have GE329 := n4_; have NB328_329 := n5_; have NB329_328 := n6_; clear n0_ n1_ n2_ n3_ n4_ n5_ n6_; clear hb hbox hg; have hnb8 := NB328_329.out; have hnc8 := NB329_328.out; have hcz9_0 : w7.cell? ⟨gb328, 0, none⟩ = some (.int .i64 a0_0) := bc_ BK328 0 rfl; have hcz9_1 : w7.cell? ⟨gb328, 1, none⟩ = some (.int .i64 a0_1) := bc_ BK328 1 rfl; have hcz9_2 : w7.cell? ⟨gb328, 2, none⟩ = some (.int .i64 a0_2) := bc_ BK328 2 rfl; have hfz9_0 := bf_ BK328 0; have hfz9_1 := bf_ BK328 1; have hfz9_2 := bf_ BK328 2; have hcz10_0 : w7.cell? ⟨gb329, 0, none⟩ = some (.int .i64 a1_0) := bc_ BK329 0 rfl; have hcz10_1 : w7.cell? ⟨gb329, 1, none⟩ = some (.int .i64 a1_1) := bc_ BK329 1 rfl; have hcz10_2 : w7.cell? ⟨gb329, 2, none⟩ = some (.int .i64 a1_2) := bc_ BK329 2 rfl; have hfz10_0 := bf_ BK329 0; have hfz10_1 := bf_ BK329 1; have hfz10_2 := bf_ BK329 2))
    go_ret
    exact ⟨by first | rfl | (simp [errW_none, errW_some] <;> rfl) | (simp [*, errW_none, errW_some] <;> rfl), by repeat (first | (with_reducible first | exact HB.out | apply below_alloc | apply pw_below_drewN | apply below_drew1 | refine below_set ?_ GE328.out | refine below_set ?_ GE329.out) | exact HB.out)⟩
   ·rw [if_neg c5] at H
    have c5b0 : (a0_2 == a1_2) = false := beq_eq_false_iff_ne.mpr c5
    have c5b1 : (a0_2 != a1_2) = true := bne_iff_ne.mpr c5
    exact absurd H (by simp)
  ·rw [if_neg c4] at H
   have c4b0 : (a0_1 == a1_1) = false := beq_eq_false_iff_ne.mpr c4
   have c4b1 : (a0_1 != a1_1) = true := bne_iff_ne.mpr c4
   exact absurd H (by simp)
 ·rw [if_neg c3] at H
  have c3b0 : (a0_0 == a1_0) = false := beq_eq_false_iff_ne.mpr c3
  have c3b1 : (a0_0 != a1_0) = true := bne_iff_ne.mpr c3
  exact absurd H (by simp)

/-! ### laws_eqSiteS: function 36 -/
def laws_eqSiteS.l0 : Nat → List (S75) → List (S75) → Int → Option (Bool)
 | 0, _, _, _ => none
 | k + 1, x0, x1, x5 => if x5 < (x0.length : Int) then (if 0 ≤ x5 then (if x5 < (x1.length : Int) then ((laws_eqSite.f ((rd_T75 x0 x5).f0) ((rd_T75 x0 x5).f1) ((rd_T75 x0 x5).f2) ((rd_T75 x1 x5).f0) ((rd_T75 x1 x5).f1) ((rd_T75 x1 x5).f2)).bind fun t332 => (if t332 = true then (laws_eqSiteS.l0 k x0 x1 (wrap64 (x5 + 1))) else (some false))) else (none)) else (none)) else (some true)
def laws_eqSiteS.f (k : Nat) (l0 : List (S75)) (l1 : List (S75)) : Option (Bool) := if (l0.length : Int) = (l1.length : Int) then (laws_eqSiteS.l0 k l0 l1 0) else (some false)
theorem laws_eqSiteS.mono_l : ∀ k, (∀ y0 y1 y2, LeO (laws_eqSiteS.l0 k y0 y1 y2) (laws_eqSiteS.l0 (k + 1) y0 y1 y2))
 | 0 => fun _ _ _ r h => by simp [laws_eqSiteS.l0] at h
 | k + 1 => by
  have ih0 := laws_eqSiteS.mono_l k
  ·intro y0 y1 y2
   unfold laws_eqSiteS.l0
   repeat' first
   | (with_reducible exact ih0 _ _ _)
   | (with_reducible exact LeO.refl _)
   | (with_reducible exact LeO.none _)
   | (with_reducible refine LeO.ite ?_ ?_)
   | (with_reducible refine LeO.bind ?_ (fun _ => ?_))
   | exact ih0 _ _ _
   | exact LeO.none _
   | refine LeO.ite ?_ ?_
   | refine LeO.bind ?_ (fun _ => ?_)
theorem laws_eqSiteS.mono : ∀ a0 a1 k, LeO (laws_eqSiteS.f k a0 a1) (laws_eqSiteS.f (k + 1) a0 a1) := by
 intro a0 a1 k
 have ih0 := laws_eqSiteS.mono_l k
 unfold laws_eqSiteS.f
 repeat' first
   | (with_reducible exact ih0 _ _ _)
   | (with_reducible exact LeO.refl _)
   | (with_reducible exact LeO.none _)
   | (with_reducible refine LeO.ite ?_ ?_)
   | (with_reducible refine LeO.bind ?_ (fun _ => ?_))
   | exact ih0 _ _ _
   | exact LeO.none _
   | refine LeO.ite ?_ ?_
   | refine LeO.bind ?_ (fun _ => ?_)
def laws_eqSiteS.T6 : Bool × List (List Nat × List Nat) := (true, [([], []), ([], []), ([0, 1], [0, 1]), ([2], [2]), ([], []), ([], []), ([4, 5], [4, 5]), ([6], [6]), ([3, 7], [3, 7]), ([8], [8])])
def laws_eqSiteS.B6 : List Nat := [0, 0, 3, 7, 0, 0, 48, 112, 255, 511]
theorem laws_eqSiteS.tab6 : rtab .any (opsOf Try.f36 6) = laws_eqSiteS.T6 := by kernel_rfl
theorem laws_eqSiteS.bits6 : waitsOk laws_eqSiteS.T6.2 laws_eqSiteS.B6 = true := by kernel_rfl
set_option maxHeartbeats 8000000 in
set_option maxRecDepth 100000 in
theorem laws_eqSiteS.calls (k : Nat) (A0 : Option Addr) (c0 : Nat) (l0 : List (S75)) (A1 : Option Addr) (c1 : Nat) (l1 : List (S75)) (r : Bool) (w : World) (hr0 : Kd.C k75 w A0 l0.length l0) (hc0 : l0.length ≤ c0) (hr1 : Kd.C k75 w A1 l1.length l1) (hc1 : l1.length ≤ c1) (h : laws_eqSiteS.f k l0 l1 = some r) (hT_ : r = true := by rfl) :
  Calls Try.prog 36 #[.slice A0 l0.length c0, .slice A1 l1.length c1] w fun e w' => e = .returned (.bool r) ∧ Below w.heap.size w w' := by
 have hu75 := Try.underlying75
 have HR0 := Aside0.mk hr0
 have HC0 := Aside0.mk hc0
 clear hr0 hc0
 have HR1 := Aside0.mk hr1
 have HC1 := Aside0.mk hc1
 clear hr1 hc1
 have HB := Aside0.mk (Below.refl w.heap.size w)
 subst hT_
 have H := h
 clear h
 unfold laws_eqSiteS.f at H
 by_cases c3 : (l0.length : Int) = (l1.length : Int)
 ·rw [if_pos c3] at H
  have c3b0 : ((l0.length : Int) == (l1.length : Int)) = true := beq_iff_eq.mpr c3
  have c3b1 : ((l0.length : Int) != (l1.length : Int)) = false := bne_eq_false_iff_eq.mpr c3
  have c3b2 : (l0.length == l1.length) = true := by first | simpa using c3 | (simp at c3 ⊢; omega)
  clear c3
  have H' := Aside0.mk H
  clear H
  go_enter Try.func36, Try.ntmps36
  go_wp2
  go_loopg [5] k (fun kq v5 w' => ∃ (x5_1 : Int), v5 = .int .i64 x5_1 ∧ Aside0 (laws_eqSiteS.l0 kq l0 l1 x5_1 = some true) ∧ Aside0 (kq ≤ k) ∧ Aside0 (Below w.heap.size w w'))
  case atStart => exact ⟨(0), (by first | rfl | (simp; done) | (simp [*]; done)), H', ⟨Nat.le_refl _⟩, ⟨by repeat (first | (with_reducible first | exact HB.out | apply below_alloc | apply pw_below_drewN | apply below_drew1) | exact HB.out)⟩⟩
  case round =>
   clear H'
   try clear c1
   try clear p2
   try clear c3
   try clear c3b0
   try clear c3b1
   try clear c3b2
   obtain ⟨x5_1, rfl, HA, HK1, HB⟩ := hrel
   cases gk with
   | zero => exact absurd HA.out (by simp [laws_eqSiteS.l0])
   | succ k1 =>
    have H := HA.out
    clear HA
    simp only [laws_eqSiteS.l0] at H
    by_cases c4 : x5_1 < (l0.length : Int)
    ·rw [if_pos c4] at H
     have c4b0 : decide (x5_1 < (l0.length : Int)) = true := decide_eq_true c4
     clear c4
     by_cases c5 : 0 ≤ x5_1
     ·rw [if_pos c5] at H
      have c5b0 : decide (0 ≤ x5_1) = true := decide_eq_true c5
      clear c5
      by_cases c6 : x5_1 < (l1.length : Int)
      ·rw [if_pos c6] at H
       have c6b0 : decide (x5_1 < (l1.length : Int)) = true := decide_eq_true c6
       clear c6
       replace H := Option.bind_eq_some_iff.mp H
       obtain ⟨t332, A70, H⟩ := H
       have A7 := Aside0.mk A70
       clear A70
       by_cases c8 : t332 = true
       ·subst c8
        have H1 : (laws_eqSiteS.l0 k1 l0 l1 (wrap64 (x5_1 + 1))) = some true := by first | (rw [if_pos rfl] at H; exact H) | rfl
        clear H
        have H := H1
        clear H1
        have H' := Aside0.mk H
        clear H
        try go_wp2
        have n0_ := Aside0.mk (below_drew1 HB.out)
        clear HB
        have HB := n0_
        clear n0_
        have p330 : 0 ≤ (x5_1 : Int) := of_decide_eq_true (by first | (with_reducible assumption) | assumption)
        have q330 : x5_1 < (l0.length : Int) := of_decide_eq_true (by first | (with_reducible assumption) | assumption)
        obtain ⟨ad330, e330, hx330_0, hx330_1, hx330_2⟩ := at_T75 HR0.out x5_1 p330 q330
        have hw330_2 := hx330_2
        have hw330_1 := hx330_1
        have hw330_0 := hx330_0
        cases e330
        replace hx330_0 := (HB.out.cell (World.block_lt_of_cell? w _ hx330_0)).trans hx330_0
        replace hx330_1 := (HB.out.cell (World.block_lt_of_cell? w _ hx330_1)).trans hx330_1
        replace hx330_2 := (HB.out.cell (World.block_lt_of_cell? w _ hx330_2)).trans hx330_2
        replace p330 := eq_true p330
        replace q330 := eq_true q330
        have p331 : 0 ≤ (x5_1 : Int) := of_decide_eq_true (by first | (with_reducible assumption) | assumption)
        have q331 : x5_1 < (l1.length : Int) := of_decide_eq_true (by first | (with_reducible assumption) | assumption)
        obtain ⟨ad331, e331, hx331_0, hx331_1, hx331_2⟩ := at_T75 HR1.out x5_1 p331 q331
        have hw331_2 := hx331_2
        have hw331_1 := hx331_1
        have hw331_0 := hx331_0
        cases e331
        replace hx331_0 := (HB.out.cell (World.block_lt_of_cell? w _ hx331_0)).trans hx331_0
        replace hx331_1 := (HB.out.cell (World.block_lt_of_cell? w _ hx331_1)).trans hx331_1
        replace hx331_2 := (HB.out.cell (World.block_lt_of_cell? w _ hx331_2)).trans hx331_2
        replace p331 := eq_true p331
        replace q331 := eq_true q331
        refine start_ (n := 10) (S := fun w' => w'.cell? (ad330.add ((x5_1).toNat * 3)) = some (.int .i64 ((rd_T75 l0 x5_1).f0)) ∧ w'.cell? ⟨(ad330.add ((x5_1).toNat * 3)).block, (ad330.add ((x5_1).toNat * 3)).off + 1, none⟩ = some (.int .i64 ((rd_T75 l0 x5_1).f1)) ∧ w'.cell? ⟨(ad330.add ((x5_1).toNat * 3)).block, (ad330.add ((x5_1).toNat * 3)).off + 2, none⟩ = some (.int .i64 ((rd_T75 l0 x5_1).f2)) ∧ w'.cell? (ad331.add ((x5_1).toNat * 3)) = some (.int .i64 ((rd_T75 l1 x5_1).f0)) ∧ w'.cell? ⟨(ad331.add ((x5_1).toNat * 3)).block, (ad331.add ((x5_1).toNat * 3)).off + 1, none⟩ = some (.int .i64 ((rd_T75 l1 x5_1).f1)) ∧ w'.cell? ⟨(ad331.add ((x5_1).toNat * 3)).block, (ad331.add ((x5_1).toNat * 3)).off + 2, none⟩ = some (.int .i64 ((rd_T75 l1 x5_1).f2))) (ds := []) #[false, false, false, false, false, false, false, false, false, false] (by kernel_rfl) rfl rfl ⟨((HB.out.cell (World.block_lt_of_cell? w _ hw330_0)).trans hw330_0), ((HB.out.cell (World.block_lt_of_cell? w _ hw330_1)).trans hw330_1), ((HB.out.cell (World.block_lt_of_cell? w _ hw330_2)).trans hw330_2), ((HB.out.cell (World.block_lt_of_cell? w _ hw331_0)).trans hw331_0), ((HB.out.cell (World.block_lt_of_cell? w _ hw331_1)).trans hw331_1), ((HB.out.cell (World.block_lt_of_cell? w _ hw331_2)).trans hw331_2)⟩ (fun hHeld => ?_); refine with_tabW laws_eqSiteS.tab6 laws_eqSiteS.bits6 (fun HT_ HW_ => ?_)
        generalize wr.drew = w9 at HB hx330_0 hx330_1 hx330_2 hx331_0 hx331_1 hx331_2 hHeld ⊢
        refine pure_ (i := 0) (N := some 17) (v := ?_) (a' := ?_) #[true, false, false, false, false, false, false, false, false, false] rfl rfl (any_of HT_.out (by kernel_rfl)) (fun _ _ _ h => h) (Or.inl ⟨by rfl, ?_⟩) ?_ ?_
        rotate_left
        ·intro w'
         go_simp
         with_reducible rfl
        rotate_left
        ·simp only [Act.put, List.setIfInBounds_toArray, List.set_cons_zero, List.set_cons_succ, i64_w, i32_w]
         rfl
        refine pure_ (i := 1) (N := some 18) (v := ?_) (a' := ?_) #[true, true, false, false, false, false, false, false, false, false] rfl rfl (any_of HT_.out (by kernel_rfl)) (fun _ _ _ h => h) (Or.inl ⟨by rfl, ?_⟩) ?_ ?_
        rotate_left
        ·intro w'
         go_simp
         with_reducible rfl
        rotate_left
        ·simp only [Act.put, List.setIfInBounds_toArray, List.set_cons_zero, List.set_cons_succ, i64_w, i32_w]
         rfl
        refine pure_ (i := 2) (N := some 19) (v := ?_) (a' := ?_) #[true, true, true, false, false, false, false, false, false, false] rfl rfl (any_of HT_.out (by kernel_rfl)) (fun _ _ _ h => h) (Or.inl ⟨by rfl, ?_⟩) ?_ ?_
        rotate_left
        ·intro w'
         go_simp
         with_reducible rfl
        rotate_left
        ·simp only [Act.put, List.setIfInBounds_toArray, List.set_cons_zero, List.set_cons_succ, i64_w, i32_w]
         rfl
        refine pure_ (i := 4) (N := some 21) (v := ?_) (a' := ?_) #[true, true, true, false, true, false, false, false, false, false] rfl rfl (any_of HT_.out (by kernel_rfl)) (fun _ _ _ h => h) (Or.inl ⟨by rfl, ?_⟩) ?_ ?_
        rotate_left
        ·intro w'
         go_simp
         with_reducible rfl
        rotate_left
        ·simp only [Act.put, List.setIfInBounds_toArray, List.set_cons_zero, List.set_cons_succ, i64_w, i32_w]
         rfl
        refine pure_ (i := 5) (N := some 22) (v := ?_) (a' := ?_) #[true, true, true, false, true, true, false, false, false, false] rfl rfl (any_of HT_.out (by kernel_rfl)) (fun _ _ _ h => h) (Or.inl ⟨by rfl, ?_⟩) ?_ ?_
        rotate_left
        ·intro w'
         go_simp
         with_reducible rfl
        rotate_left
        ·simp only [Act.put, List.setIfInBounds_toArray, List.set_cons_zero, List.set_cons_succ, i64_w, i32_w]
         rfl
        refine pure_ (i := 6) (N := some 23) (v := ?_) (a' := ?_) #[true, true, true, false, true, true, true, false, false, false] rfl rfl (any_of HT_.out (by kernel_rfl)) (fun _ _ _ h => h) (Or.inl ⟨by rfl, ?_⟩) ?_ ?_
        rotate_left
        ·intro w'
         go_simp
         with_reducible rfl
        rotate_left
        ·simp only [Act.put, List.setIfInBounds_toArray, List.set_cons_zero, List.set_cons_succ, i64_w, i32_w]
         rfl
        refine take_ (i := 3) (N := some 20) (v := ?_) (a' := ?_) #[true, true, true, true, true, true, true, false, false, false] rfl rfl (take_ofW HT_.out HW_.out (by kernel_rfl)) (fun _ _ _ h => h) (Or.inl ⟨by rfl, ?_⟩) hHeld ?_ ?_
        rotate_left
        ·rintro w' ⟨s0, s1, s2, s3, s4, s5⟩
         go_simp
         with_reducible rfl
        rotate_left
        ·simp only [Act.put, List.setIfInBounds_toArray, List.set_cons_zero, List.set_cons_succ, i64_w, i32_w]
         rfl
        refine take_ (i := 7) (N := some 24) (v := ?_) (a' := ?_) #[true, true, true, true, true, true, true, true, false, false] rfl rfl (take_ofW HT_.out HW_.out (by kernel_rfl)) (fun _ _ _ h => h) (Or.inl ⟨by rfl, ?_⟩) hHeld ?_ ?_
        rotate_left
        ·rintro w' ⟨s0, s1, s2, s3, s4, s5⟩
         go_simp
         with_reducible rfl
        rotate_left
        ·simp only [Act.put, List.setIfInBounds_toArray, List.set_cons_zero, List.set_cons_succ, i64_w, i32_w]
         rfl
        refine one_ (i := 8) (N := some 25) #[true, true, true, true, true, true, true, true, true, false] rfl rfl (one_of HT_.out (by kernel_rfl)) (by decide) (fun K hK => ?_)
        refine goes_ Try.func62 (by kernel_rfl) rfl #[.agg #[.int .i64 ((rd_T75 l0 x5_1).f0), .int .i64 ((rd_T75 l0 x5_1).f1), .int .i64 ((rd_T75 l0 x5_1).f2)], .agg #[.int .i64 ((rd_T75 l1 x5_1).f0), .int .i64 ((rd_T75 l1 x5_1).f1), .int .i64 ((rd_T75 l1 x5_1).f2)]] (by rfl) rfl rfl mp_ ?_
        with_reducible refine (laws_eqSite.calls ((rd_T75 l0 x5_1).f0) ((rd_T75 l0 x5_1).f1) ((rd_T75 l0 x5_1).f2) ((rd_T75 l1 x5_1).f0) ((rd_T75 l1 x5_1).f1) ((rd_T75 l1 x5_1).f2) true _ A7.out).mono ?_
        rintro e w10 ⟨rfl, hb⟩
        refine ⟨_, rfl, ?_⟩
        have n0_ := Aside0.mk (below_step (bl_ HB) hb)
        clear HB
        have HB := n0_
        clear n0_
        (try clear hb)
        (try clear hb2)
        (try clear hk)
        (try clear hi)
        refine hK.out _ _ ⟨((HB.out.cell (World.block_lt_of_cell? w _ hw330_0)).trans hw330_0), ((HB.out.cell (World.block_lt_of_cell? w _ hw330_1)).trans hw330_1), ((HB.out.cell (World.block_lt_of_cell? w _ hw330_2)).trans hw330_2), ((HB.out.cell (World.block_lt_of_cell? w _ hw331_0)).trans hw331_0), ((HB.out.cell (World.block_lt_of_cell? w _ hw331_1)).trans hw331_1), ((HB.out.cell (World.block_lt_of_cell? w _ hw331_2)).trans hw331_2)⟩ (fun hHeld => ?_)
        clear hK K
        refine norm_ (a' := ?_) ?_ ?_
        rotate_left
        ·show Act.put _ (some 25) _ = _
         simp only [Act.put, List.setIfInBounds_toArray, List.set_cons_zero, List.set_cons_succ, i64_w, i32_w]
         rfl
        refine pure_ (i := 9) (N := some 26) (v := ?_) (a' := ?_) #[true, true, true, true, true, true, true, true, true, true] rfl rfl (any_of HT_.out (by kernel_rfl)) (fun _ _ _ h => h) (Or.inl ⟨by rfl, ?_⟩) ?_ ?_
        rotate_left
        ·intro w'
         go_simp
         with_reducible rfl
        rotate_left
        ·simp only [Act.put, List.setIfInBounds_toArray, List.set_cons_zero, List.set_cons_succ, i64_w, i32_w]
         rfl
        refine done_ (done_of HT_.out (by kernel_rfl)) ?_
        try go_wp2
        go_roundg k1
        case measure => have := HK1.out; omega
        case rel => exact ⟨(wrap64 (x5_1 + 1)), (by first | rfl | (simp; done) | (simp [*]; done)), H', ⟨by have := HK1.out; omega⟩, ⟨by repeat (first | (with_reducible first | exact HB.out | apply below_alloc | apply pw_below_drewN | apply below_drew1) | exact HB.out)⟩⟩
       ·replace c8 := Bool.eq_false_iff.mpr c8
        subst c8
        have H1 : (some false) = some true := by first | (rw [if_neg (show ¬ (false = true) by decide)] at H; exact H) | rfl
        clear H
        have H := H1
        clear H1
        exact absurd H (by simp)
      ·rw [if_neg c6] at H
       exact absurd H (by simp)
     ·rw [if_neg c5] at H
      exact absurd H (by simp)
    ·rw [if_neg c4] at H
     have c4b0 : decide (x5_1 < (l0.length : Int)) = false := decide_eq_false c4
     clear c4
     clear H
     go_wp2
     go_ret
     exact ⟨by first | rfl | (simp [errW_none, errW_some] <;> rfl) | (simp [*, errW_none, errW_some] <;> rfl), by repeat (first | (with_reducible first | exact HB.out | apply below_alloc | apply pw_below_drewN | apply below_drew1) | exact HB.out)⟩
 ·rw [if_neg c3] at H
  have c3b0 : ((l0.length : Int) == (l1.length : Int)) = false := beq_eq_false_iff_ne.mpr c3
  have c3b1 : ((l0.length : Int) != (l1.length : Int)) = true := bne_iff_ne.mpr c3
  have c3b2 : (l0.length == l1.length) = false := by first | simpa using c3 | (simp at c3 ⊢; omega)
  exact absurd H (by simp)

/-! ### laws_eqArc: function 82 -/
def laws_eqArc.f (a0_0 : Int) (a0_1 : Int) (a1_0 : Int) (a1_1 : Int) : Option (Bool) := if a0_0 = a1_0 then (if a0_1 = a1_1 then (some true) else (some false)) else (some false)
set_option maxHeartbeats 8000000 in
set_option maxRecDepth 100000 in
theorem laws_eqArc.calls (a0_0 : Int) (a0_1 : Int) (a1_0 : Int) (a1_1 : Int) (r : Bool) (w : World) (h : laws_eqArc.f a0_0 a0_1 a1_0 a1_1 = some r) (hT_ : r = true := by rfl) :
  Calls Try.prog 82 #[.agg #[.int .i64 a0_0, .int .i64 a0_1], .agg #[.int .i64 a1_0, .int .i64 a1_1]] w fun e w' => e = .returned (.bool r) ∧ Below w.heap.size w w' := by
 have hu79 := Try.underlying79
 have HB := Aside0.mk (Below.refl w.heap.size w)
 subst hT_
 have H := h
 clear h
 unfold laws_eqArc.f at H
 by_cases c3 : a0_0 = a1_0
 ·rw [if_pos c3] at H
  have c3b0 : (a0_0 == a1_0) = true := beq_iff_eq.mpr c3
  have c3b1 : (a0_0 != a1_0) = false := bne_eq_false_iff_eq.mpr c3
  clear c3
  by_cases c4 : a0_1 = a1_1
  ·rw [if_pos c4] at H
   have c4b0 : (a0_1 == a1_1) = true := beq_iff_eq.mpr c4
   have c4b1 : (a0_1 != a1_1) = false := bne_eq_false_iff_eq.mpr c4
   clear c4
   clear H
   go_enter Try.func82, Try.ntmps82
   go_wp2_with (first | ((with_reducible refine gate_dst (N := 2) rfl ?_); refine box_event ?hg (N := 2) ?hd (cs := #[.int .i64 a0_0, .int .i64 a0_1]) (t := 79) ?hr ?_; (case hd => rfl); (case hg => rfl); (case hr => first | (go_simp; done) | (go_simp; rfl)); intro gb333 hg w5 hbox hb; have n0_ := Aside0.mk (below_step (bl_ HB) hb); have n1_ := Aside0.mk (hbox); have n2_ := Aside0.mk ((by rw [hg]; exact (below_size (bl_ HB)) : w.heap.size ≤ gb333)); have n3_ := Aside0.mk ((by rw [hg]; exact (below_size (bl_ HB)) : w.heap.size ≤ gb333)); clear HB; have HB := n0_; have BK333 := n1_; have GW333 := n2_; have GE333 := n3_; clear n0_ n1_ n2_ n3_; clear hb hbox hg) | ((with_reducible refine gate_dst (N := 3) rfl ?_); refine box_event ?hg (N := 3) ?hd (cs := #[.int .i64 a1_0, .int .i64 a1_1]) (t := 79) ?hr ?_; (case hd => rfl); (case hg => rfl); (case hr => first | (go_simp; done) | (go_simp; rfl)); intro gb334 hg w6 hbox hb; have n0_ := Aside0.mk (blk_below (bk_ BK333) hb); have n1_ := Aside0.mk (below_step (bl1_ HB GE333) hb); have n2_ := Aside0.mk (hbox); have n3_ := Aside0.mk ((by rw [hg]; exact (below_size (bl1_ HB GE333)) : w.heap.size ≤ gb334)); have n4_ := Aside0.mk ((by rw [hg]; exact (below_size (bl1_ HB GE333)) : w.heap.size ≤ gb334)); have n5_ := Aside0.mk ((by rw [hg]; exact Nat.ne_of_lt (blk_lt (bk_ BK333)) : gb333 ≠ gb334)); have n6_ := Aside0.mk ((by rw [hg]; exact Nat.ne_of_gt (blk_lt (bk_ BK333)) : gb334 ≠ gb333)); clear BK333; clear HB; have BK333 := n0_; have HB := n1_; have BK334 := n2_; have GW334 := n3_; have GE334 := n4_; have NB333_334 := n5_; have NB334_333 := n6_; clear n0_ n1_ n2_ n3_ n4_ n5_ n6_; clear hb hbox hg; have hnb7 := NB333_334.out; have hnc7 := NB334_333.out; have hcz8_0 : w6.cell? ⟨gb333, 0, none⟩ = some (.int .i64 a0_0) := bc_ BK333 0 rfl; have hcz8_1 : w6.cell? ⟨gb333, 1, none⟩ = some (.int .i64 a0_1) := bc_ BK333 1 rfl; have hfz8_0 := bf_ BK333 0; have hfz8_1 := bf_ BK333 1; have hcz9_0 : w6.cell? ⟨gb334, 0, none⟩ = some (.int .i64 a1_0) := bc_ BK334 0 rfl; have hcz9_1 : w6.cell? ⟨gb334, 1, none⟩ = some (.int .i64 a1_1) := bc_ BK334 1 rfl; have hfz9_0 := bf_ BK334 0; have hfz9_1 := bf_ BK334 1))
   go_ret
   exact ⟨by first | rfl | (simp [errW_none, errW_some] <;> rfl) | (simp [*, errW_none, errW_some] <;> rfl), by repeat (first | (with_reducible first | exact HB.out | apply below_alloc | apply pw_below_drewN | apply below_drew1 | refine below_set ?_ GE333.out | refine below_set ?_ GE334.out) | exact HB.out)⟩
  ·rw [if_neg c4] at H
   have c4b0 : (a0_1 == a1_1) = false := beq_eq_false_iff_ne.mpr c4
   have c4b1 : (a0_1 != a1_1) = true := bne_iff_ne.mpr c4
   exact absurd H (by simp)
 ·rw [if_neg c3] at H
  have c3b0 : (a0_0 == a1_0) = false := beq_eq_false_iff_ne.mpr c3
  have c3b1 : (a0_0 != a1_0) = true := bne_iff_ne.mpr c3
  exact absurd H (by simp)

/-! ### laws_eqZone: function 63 -/
def laws_eqZone.f (a0_0 : Int) (a0_1 : Int) (a0_2 : Int) (a1_0 : Int) (a1_1 : Int) (a1_2 : Int) : Option (Bool) := if a0_0 = a1_0 then ((laws_eqArc.f a0_1 a0_2 a1_1 a1_2).bind fun t337 => (if t337 = true then (some true) else (some false))) else (some false)
set_option maxHeartbeats 8000000 in
set_option maxRecDepth 100000 in
theorem laws_eqZone.calls (a0_0 : Int) (a0_1 : Int) (a0_2 : Int) (a1_0 : Int) (a1_1 : Int) (a1_2 : Int) (r : Bool) (w : World) (h : laws_eqZone.f a0_0 a0_1 a0_2 a1_0 a1_1 a1_2 = some r) (hT_ : r = true := by rfl) :
  Calls Try.prog 63 #[.agg #[.int .i64 a0_0, .int .i64 a0_1, .int .i64 a0_2], .agg #[.int .i64 a1_0, .int .i64 a1_1, .int .i64 a1_2]] w fun e w' => e = .returned (.bool r) ∧ Below w.heap.size w w' := by
 have hu81 := Try.underlying81
 have hu79 := Try.underlying79
 have HB := Aside0.mk (Below.refl w.heap.size w)
 subst hT_
 have H := h
 clear h
 unfold laws_eqZone.f at H
 by_cases c3 : a0_0 = a1_0
 ·rw [if_pos c3] at H
  have c3b0 : (a0_0 == a1_0) = true := beq_iff_eq.mpr c3
  have c3b1 : (a0_0 != a1_0) = false := bne_eq_false_iff_eq.mpr c3
  clear c3
  replace H := Option.bind_eq_some_iff.mp H
  obtain ⟨t337, A40, H⟩ := H
  have A4 := Aside0.mk A40
  clear A40
  by_cases c5 : t337 = true
  ·subst c5
   have H1 : (some true) = some true := by first | (rw [if_pos rfl] at H; exact H) | rfl
   clear H
   have H := H1
   clear H1
   clear H
   go_enter Try.func63, Try.ntmps63
   go_wp2_with (first | ((with_reducible refine gate_dst (N := 2) rfl ?_); refine box_event ?hg (N := 2) ?hd (cs := #[.int .i64 a0_0, .int .i64 a0_1, .int .i64 a0_2]) (t := 81) ?hr ?_; (case hd => rfl); (case hg => rfl); (case hr => first | (go_simp; done) | (go_simp; rfl)); intro gb335 hg w6 hbox hb; have n0_ := Aside0.mk (below_step (bl_ HB) hb); have n1_ := Aside0.mk (hbox); have n2_ := Aside0.mk ((by rw [hg]; exact (below_size (bl_ HB)) : w.heap.size ≤ gb335)); have n3_ := Aside0.mk ((by rw [hg]; exact (below_size (bl_ HB)) : w.heap.size ≤ gb335)); clear HB; have HB := n0_; have BK335 := n1_; have GW335 := n2_; have GE335 := n3_; clear n0_ n1_ n2_ n3_; clear hb hbox hg) | ((with_reducible refine gate_dst (N := 3) rfl ?_); refine box_event ?hg (N := 3) ?hd (cs := #[.int .i64 a1_0, .int .i64 a1_1, .int .i64 a1_2]) (t := 81) ?hr ?_; (case hd => rfl); (case hg => rfl); (case hr => first | (go_simp; done) | (go_simp; rfl)); intro gb336 hg w7 hbox hb; have n0_ := Aside0.mk (blk_below (bk_ BK335) hb); have n1_ := Aside0.mk (below_step (bl1_ HB GE335) hb); have n2_ := Aside0.mk (hbox); have n3_ := Aside0.mk ((by rw [hg]; exact (below_size (bl1_ HB GE335)) : w.heap.size ≤ gb336)); have n4_ := Aside0.mk ((by rw [hg]; exact (below_size (bl1_ HB GE335)) : w.heap.size ≤ gb336)); have n5_ := Aside0.mk ((by rw [hg]; exact Nat.ne_of_lt (blk_lt (bk_ BK335)) : gb335 ≠ gb336)); have n6_ := Aside0.mk ((by rw [hg]; exact Nat.ne_of_gt (blk_lt (bk_ BK335)) : gb336 ≠ gb335)); clear BK335; clear HB; have BK335 := n0_; have HB := n1_; have BK336 := n2_; have GW336 := n3_; have GE336 := n4_; have NB335_336 := n5_; have NB336_335 := n6_; clear n0_ n1_ n2_ n3_ n4_ n5_ n6_; clear hb hbox hg; have hnb8 := NB335_336.out; have hnc8 := NB336_335.out; have hcz9_0 : w7.cell? ⟨gb335, 0, none⟩ = some (.int .i64 a0_0) := bc_ BK335 0 rfl; have hcz9_1 : w7.cell? ⟨gb335, 1, none⟩ = some (.int .i64 a0_1) := bc_ BK335 1 rfl; have hcz9_2 : w7.cell? ⟨gb335, 2, none⟩ = some (.int .i64 a0_2) := bc_ BK335 2 rfl; have hfz9_0 := bf_ BK335 0; have hfz9_1 := bf_ BK335 1; have hfz9_2 := bf_ BK335 2; have hcz10_0 : w7.cell? ⟨gb336, 0, none⟩ = some (.int .i64 a1_0) := bc_ BK336 0 rfl; have hcz10_1 : w7.cell? ⟨gb336, 1, none⟩ = some (.int .i64 a1_1) := bc_ BK336 1 rfl; have hcz10_2 : w7.cell? ⟨gb336, 2, none⟩ = some (.int .i64 a1_2) := bc_ BK336 2 rfl; have hfz10_0 := bf_ BK336 0; have hfz10_1 := bf_ BK336 1; have hfz10_2 := bf_ BK336 2) | ((with_reducible refine gate_callee (f := 82) rfl ?_); refine goesL_ (some 14) rfl rfl Try.func82 (by kernel_rfl) rfl #[.agg #[.int .i64 a0_1, .int .i64 a0_2], .agg #[.int .i64 a1_1, .int .i64 a1_2]] rfl mp_ ?_; (with_reducible refine (laws_eqArc.calls a0_1 a0_2 a1_1 a1_2 true _ A4.out).mono ?_); rintro e w11 ⟨rfl, hb⟩; refine ⟨_, rfl, ?_⟩; have n0_ := Aside0.mk (blk_below (bk_ BK335) hb); have n1_ := Aside0.mk (blk_below (bk_ BK336) hb); have n2_ := Aside0.mk (below_step (bl2_ HB GE335 GE336) hb); clear BK335; clear BK336; clear HB; have BK335 := n0_; have BK336 := n1_; have HB := n2_; clear n0_ n1_ n2_; (try clear hb); (try clear hb2); (try clear hk); (try clear hi)))
   go_ret
   exact ⟨by first | rfl | (simp [errW_none, errW_some] <;> rfl) | (simp [*, errW_none, errW_some] <;> rfl), by repeat (first | (with_reducible first | exact HB.out | apply below_alloc | apply pw_below_drewN | apply below_drew1 | refine below_set ?_ GE335.out | refine below_set ?_ GE336.out) | exact HB.out)⟩
  ·replace c5 := Bool.eq_false_iff.mpr c5
   subst c5
   have H1 : (some false) = some true := by first | (rw [if_neg (show ¬ (false = true) by decide)] at H; exact H) | rfl
   clear H
   have H := H1
   clear H1
   exact absurd H (by simp)
 ·rw [if_neg c3] at H
  have c3b0 : (a0_0 == a1_0) = false := beq_eq_false_iff_ne.mpr c3
  have c3b1 : (a0_0 != a1_0) = true := bne_iff_ne.mpr c3
  exact absurd H (by simp)

/-! ### laws_eqZoneS: function 37 -/
def laws_eqZoneS.l0 : Nat → List (S81) → List (S81) → Int → Option (Bool)
 | 0, _, _, _ => none
 | k + 1, x0, x1, x5 => if x5 < (x0.length : Int) then (if 0 ≤ x5 then (if x5 < (x1.length : Int) then ((laws_eqZone.f ((rd_T81 x0 x5).f0) ((rd_T81 x0 x5).f1.f0) ((rd_T81 x0 x5).f1.f1) ((rd_T81 x1 x5).f0) ((rd_T81 x1 x5).f1.f0) ((rd_T81 x1 x5).f1.f1)).bind fun t340 => (if t340 = true then (laws_eqZoneS.l0 k x0 x1 (wrap64 (x5 + 1))) else (some false))) else (none)) else (none)) else (some true)
def laws_eqZoneS.f (k : Nat) (l0 : List (S81)) (l1 : List (S81)) : Option (Bool) := if (l0.length : Int) = (l1.length : Int) then (laws_eqZoneS.l0 k l0 l1 0) else (some false)
theorem laws_eqZoneS.mono_l : ∀ k, (∀ y0 y1 y2, LeO (laws_eqZoneS.l0 k y0 y1 y2) (laws_eqZoneS.l0 (k + 1) y0 y1 y2))
 | 0 => fun _ _ _ r h => by simp [laws_eqZoneS.l0] at h
 | k + 1 => by
  have ih0 := laws_eqZoneS.mono_l k
  ·intro y0 y1 y2
   unfold laws_eqZoneS.l0
   repeat' first
   | (with_reducible exact ih0 _ _ _)
   | (with_reducible exact LeO.refl _)
   | (with_reducible exact LeO.none _)
   | (with_reducible refine LeO.ite ?_ ?_)
   | (with_reducible refine LeO.bind ?_ (fun _ => ?_))
   | exact ih0 _ _ _
   | exact LeO.none _
   | refine LeO.ite ?_ ?_
   | refine LeO.bind ?_ (fun _ => ?_)
theorem laws_eqZoneS.mono : ∀ a0 a1 k, LeO (laws_eqZoneS.f k a0 a1) (laws_eqZoneS.f (k + 1) a0 a1) := by
 intro a0 a1 k
 have ih0 := laws_eqZoneS.mono_l k
 unfold laws_eqZoneS.f
 repeat' first
   | (with_reducible exact ih0 _ _ _)
   | (with_reducible exact LeO.refl _)
   | (with_reducible exact LeO.none _)
   | (with_reducible refine LeO.ite ?_ ?_)
   | (with_reducible refine LeO.bind ?_ (fun _ => ?_))
   | exact ih0 _ _ _
   | exact LeO.none _
   | refine LeO.ite ?_ ?_
   | refine LeO.bind ?_ (fun _ => ?_)
def laws_eqZoneS.T6 : Bool × List (List Nat × List Nat) := (true, [([], []), ([], []), ([0, 1], [0, 1]), ([2], [2]), ([], []), ([], []), ([4, 5], [4, 5]), ([6], [6]), ([3, 7], [3, 7]), ([8], [8])])
def laws_eqZoneS.B6 : List Nat := [0, 0, 3, 7, 0, 0, 48, 112, 255, 511]
theorem laws_eqZoneS.tab6 : rtab .any (opsOf Try.f37 6) = laws_eqZoneS.T6 := by kernel_rfl
theorem laws_eqZoneS.bits6 : waitsOk laws_eqZoneS.T6.2 laws_eqZoneS.B6 = true := by kernel_rfl
set_option maxHeartbeats 8000000 in
set_option maxRecDepth 100000 in
theorem laws_eqZoneS.calls (k : Nat) (A0 : Option Addr) (c0 : Nat) (l0 : List (S81)) (A1 : Option Addr) (c1 : Nat) (l1 : List (S81)) (r : Bool) (w : World) (hr0 : Kd.C k81 w A0 l0.length l0) (hc0 : l0.length ≤ c0) (hr1 : Kd.C k81 w A1 l1.length l1) (hc1 : l1.length ≤ c1) (h : laws_eqZoneS.f k l0 l1 = some r) (hT_ : r = true := by rfl) :
  Calls Try.prog 37 #[.slice A0 l0.length c0, .slice A1 l1.length c1] w fun e w' => e = .returned (.bool r) ∧ Below w.heap.size w w' := by
 have hu81 := Try.underlying81
 have HR0 := Aside0.mk hr0
 have HC0 := Aside0.mk hc0
 clear hr0 hc0
 have HR1 := Aside0.mk hr1
 have HC1 := Aside0.mk hc1
 clear hr1 hc1
 have HB := Aside0.mk (Below.refl w.heap.size w)
 subst hT_
 have H := h
 clear h
 unfold laws_eqZoneS.f at H
 by_cases c3 : (l0.length : Int) = (l1.length : Int)
 ·rw [if_pos c3] at H
  have c3b0 : ((l0.length : Int) == (l1.length : Int)) = true := beq_iff_eq.mpr c3
  have c3b1 : ((l0.length : Int) != (l1.length : Int)) = false := bne_eq_false_iff_eq.mpr c3
  have c3b2 : (l0.length == l1.length) = true := by first | simpa using c3 | (simp at c3 ⊢; omega)
  clear c3
  have H' := Aside0.mk H
  clear H
  go_enter Try.func37, Try.ntmps37
  go_wp2
  go_loopg [5] k (fun kq v5 w' => ∃ (x5_1 : Int), v5 = .int .i64 x5_1 ∧ Aside0 (laws_eqZoneS.l0 kq l0 l1 x5_1 = some true) ∧ Aside0 (kq ≤ k) ∧ Aside0 (Below w.heap.size w w'))
  case atStart => exact ⟨(0), (by first | rfl | (simp; done) | (simp [*]; done)), H', ⟨Nat.le_refl _⟩, ⟨by repeat (first | (with_reducible first | exact HB.out | apply below_alloc | apply pw_below_drewN | apply below_drew1) | exact HB.out)⟩⟩
  case round =>
   clear H'
   try clear c1
   try clear p2
   try clear c3
   try clear c3b0
   try clear c3b1
   try clear c3b2
   obtain ⟨x5_1, rfl, HA, HK1, HB⟩ := hrel
   cases gk with
   | zero => exact absurd HA.out (by simp [laws_eqZoneS.l0])
   | succ k1 =>
    have H := HA.out
    clear HA
    simp only [laws_eqZoneS.l0] at H
    by_cases c4 : x5_1 < (l0.length : Int)
    ·rw [if_pos c4] at H
     have c4b0 : decide (x5_1 < (l0.length : Int)) = true := decide_eq_true c4
     clear c4
     by_cases c5 : 0 ≤ x5_1
     ·rw [if_pos c5] at H
      have c5b0 : decide (0 ≤ x5_1) = true := decide_eq_true c5
      clear c5
      by_cases c6 : x5_1 < (l1.length : Int)
      ·rw [if_pos c6] at H
       have c6b0 : decide (x5_1 < (l1.length : Int)) = true := decide_eq_true c6
       clear c6
       replace H := Option.bind_eq_some_iff.mp H
       obtain ⟨t340, A70, H⟩ := H
       have A7 := Aside0.mk A70
       clear A70
       by_cases c8 : t340 = true
       ·subst c8
        have H1 : (laws_eqZoneS.l0 k1 l0 l1 (wrap64 (x5_1 + 1))) = some true := by first | (rw [if_pos rfl] at H; exact H) | rfl
        clear H
        have H := H1
        clear H1
        have H' := Aside0.mk H
        clear H
        try go_wp2
        have n0_ := Aside0.mk (below_drew1 HB.out)
        clear HB
        have HB := n0_
        clear n0_
        have p338 : 0 ≤ (x5_1 : Int) := of_decide_eq_true (by first | (with_reducible assumption) | assumption)
        have q338 : x5_1 < (l0.length : Int) := of_decide_eq_true (by first | (with_reducible assumption) | assumption)
        obtain ⟨ad338, e338, hx338_0, hx338_1, hx338_2⟩ := at_T81 HR0.out x5_1 p338 q338
        have hw338_2 := hx338_2
        have hw338_1 := hx338_1
        have hw338_0 := hx338_0
        cases e338
        replace hx338_0 := (HB.out.cell (World.block_lt_of_cell? w _ hx338_0)).trans hx338_0
        replace hx338_1 := (HB.out.cell (World.block_lt_of_cell? w _ hx338_1)).trans hx338_1
        replace hx338_2 := (HB.out.cell (World.block_lt_of_cell? w _ hx338_2)).trans hx338_2
        replace p338 := eq_true p338
        replace q338 := eq_true q338
        have p339 : 0 ≤ (x5_1 : Int) := of_decide_eq_true (by first | (with_reducible assumption) | assumption)
        have q339 : x5_1 < (l1.length : Int) := of_decide_eq_true (by first | (with_reducible assumption) | assumption)
        obtain ⟨ad339, e339, hx339_0, hx339_1, hx339_2⟩ := at_T81 HR1.out x5_1 p339 q339
        have hw339_2 := hx339_2
        have hw339_1 := hx339_1
        have hw339_0 := hx339_0
        cases e339
        replace hx339_0 := (HB.out.cell (World.block_lt_of_cell? w _ hx339_0)).trans hx339_0
        replace hx339_1 := (HB.out.cell (World.block_lt_of_cell? w _ hx339_1)).trans hx339_1
        replace hx339_2 := (HB.out.cell (World.block_lt_of_cell? w _ hx339_2)).trans hx339_2
        replace p339 := eq_true p339
        replace q339 := eq_true q339
        refine start_ (n := 10) (S := fun w' => w'.cell? (ad338.add ((x5_1).toNat * 3)) = some (.int .i64 ((rd_T81 l0 x5_1).f0)) ∧ w'.cell? ⟨(ad338.add ((x5_1).toNat * 3)).block, (ad338.add ((x5_1).toNat * 3)).off + 1, none⟩ = some (.int .i64 ((rd_T81 l0 x5_1).f1.f0)) ∧ w'.cell? ⟨(ad338.add ((x5_1).toNat * 3)).block, (ad338.add ((x5_1).toNat * 3)).off + 2, none⟩ = some (.int .i64 ((rd_T81 l0 x5_1).f1.f1)) ∧ w'.cell? (ad339.add ((x5_1).toNat * 3)) = some (.int .i64 ((rd_T81 l1 x5_1).f0)) ∧ w'.cell? ⟨(ad339.add ((x5_1).toNat * 3)).block, (ad339.add ((x5_1).toNat * 3)).off + 1, none⟩ = some (.int .i64 ((rd_T81 l1 x5_1).f1.f0)) ∧ w'.cell? ⟨(ad339.add ((x5_1).toNat * 3)).block, (ad339.add ((x5_1).toNat * 3)).off + 2, none⟩ = some (.int .i64 ((rd_T81 l1 x5_1).f1.f1))) (ds := []) #[false, false, false, false, false, false, false, false, false, false] (by kernel_rfl) rfl rfl ⟨((HB.out.cell (World.block_lt_of_cell? w _ hw338_0)).trans hw338_0), ((HB.out.cell (World.block_lt_of_cell? w _ hw338_1)).trans hw338_1), ((HB.out.cell (World.block_lt_of_cell? w _ hw338_2)).trans hw338_2), ((HB.out.cell (World.block_lt_of_cell? w _ hw339_0)).trans hw339_0), ((HB.out.cell (World.block_lt_of_cell? w _ hw339_1)).trans hw339_1), ((HB.out.cell (World.block_lt_of_cell? w _ hw339_2)).trans hw339_2)⟩ (fun hHeld => ?_); refine with_tabW laws_eqZoneS.tab6 laws_eqZoneS.bits6 (fun HT_ HW_ => ?_)
        generalize wr.drew = w9 at HB hx338_0 hx338_1 hx338_2 hx339_0 hx339_1 hx339_2 hHeld ⊢
        refine pure_ (i := 0) (N := some 17) (v := ?_) (a' := ?_) #[true, false, false, false, false, false, false, false, false, false] rfl rfl (any_of HT_.out (by kernel_rfl)) (fun _ _ _ h => h) (Or.inl ⟨by rfl, ?_⟩) ?_ ?_
        rotate_left
        ·intro w'
         go_simp
         with_reducible rfl
        rotate_left
        ·simp only [Act.put, List.setIfInBounds_toArray, List.set_cons_zero, List.set_cons_succ, i64_w, i32_w]
         rfl
        refine pure_ (i := 1) (N := some 18) (v := ?_) (a' := ?_) #[true, true, false, false, false, false, false, false, false, false] rfl rfl (any_of HT_.out (by kernel_rfl)) (fun _ _ _ h => h) (Or.inl ⟨by rfl, ?_⟩) ?_ ?_
        rotate_left
        ·intro w'
         go_simp
         with_reducible rfl
        rotate_left
        ·simp only [Act.put, List.setIfInBounds_toArray, List.set_cons_zero, List.set_cons_succ, i64_w, i32_w]
         rfl
        refine pure_ (i := 2) (N := some 19) (v := ?_) (a' := ?_) #[true, true, true, false, false, false, false, false, false, false] rfl rfl (any_of HT_.out (by kernel_rfl)) (fun _ _ _ h => h) (Or.inl ⟨by rfl, ?_⟩) ?_ ?_
        rotate_left
        ·intro w'
         go_simp
         with_reducible rfl
        rotate_left
        ·simp only [Act.put, List.setIfInBounds_toArray, List.set_cons_zero, List.set_cons_succ, i64_w, i32_w]
         rfl
        refine pure_ (i := 4) (N := some 21) (v := ?_) (a' := ?_) #[true, true, true, false, true, false, false, false, false, false] rfl rfl (any_of HT_.out (by kernel_rfl)) (fun _ _ _ h => h) (Or.inl ⟨by rfl, ?_⟩) ?_ ?_
        rotate_left
        ·intro w'
         go_simp
         with_reducible rfl
        rotate_left
        ·simp only [Act.put, List.setIfInBounds_toArray, List.set_cons_zero, List.set_cons_succ, i64_w, i32_w]
         rfl
        refine pure_ (i := 5) (N := some 22) (v := ?_) (a' := ?_) #[true, true, true, false, true, true, false, false, false, false] rfl rfl (any_of HT_.out (by kernel_rfl)) (fun _ _ _ h => h) (Or.inl ⟨by rfl, ?_⟩) ?_ ?_
        rotate_left
        ·intro w'
         go_simp
         with_reducible rfl
        rotate_left
        ·simp only [Act.put, List.setIfInBounds_toArray, List.set_cons_zero, List.set_cons_succ, i64_w, i32_w]
         rfl
        refine pure_ (i := 6) (N := some 23) (v := ?_) (a' := ?_) #[true, true, true, false, true, true, true, false, false, false] rfl rfl (any_of HT_.out (by kernel_rfl)) (fun _ _ _ h => h) (Or.inl ⟨by rfl, ?_⟩) ?_ ?_
        rotate_left
        ·intro w'
         go_simp
         with_reducible rfl
        rotate_left
        ·simp only [Act.put, List.setIfInBounds_toArray, List.set_cons_zero, List.set_cons_succ, i64_w, i32_w]
         rfl
        refine take_ (i := 3) (N := some 20) (v := ?_) (a' := ?_) #[true, true, true, true, true, true, true, false, false, false] rfl rfl (take_ofW HT_.out HW_.out (by kernel_rfl)) (fun _ _ _ h => h) (Or.inl ⟨by rfl, ?_⟩) hHeld ?_ ?_
        rotate_left
        ·rintro w' ⟨s0, s1, s2, s3, s4, s5⟩
         go_simp
         with_reducible rfl
        rotate_left
        ·simp only [Act.put, List.setIfInBounds_toArray, List.set_cons_zero, List.set_cons_succ, i64_w, i32_w]
         rfl
        refine take_ (i := 7) (N := some 24) (v := ?_) (a' := ?_) #[true, true, true, true, true, true, true, true, false, false] rfl rfl (take_ofW HT_.out HW_.out (by kernel_rfl)) (fun _ _ _ h => h) (Or.inl ⟨by rfl, ?_⟩) hHeld ?_ ?_
        rotate_left
        ·rintro w' ⟨s0, s1, s2, s3, s4, s5⟩
         go_simp
         with_reducible rfl
        rotate_left
        ·simp only [Act.put, List.setIfInBounds_toArray, List.set_cons_zero, List.set_cons_succ, i64_w, i32_w]
         rfl
        refine one_ (i := 8) (N := some 25) #[true, true, true, true, true, true, true, true, true, false] rfl rfl (one_of HT_.out (by kernel_rfl)) (by decide) (fun K hK => ?_)
        refine goes_ Try.func63 (by kernel_rfl) rfl #[.agg #[.int .i64 ((rd_T81 l0 x5_1).f0), .int .i64 ((rd_T81 l0 x5_1).f1.f0), .int .i64 ((rd_T81 l0 x5_1).f1.f1)], .agg #[.int .i64 ((rd_T81 l1 x5_1).f0), .int .i64 ((rd_T81 l1 x5_1).f1.f0), .int .i64 ((rd_T81 l1 x5_1).f1.f1)]] (by rfl) rfl rfl mp_ ?_
        with_reducible refine (laws_eqZone.calls ((rd_T81 l0 x5_1).f0) ((rd_T81 l0 x5_1).f1.f0) ((rd_T81 l0 x5_1).f1.f1) ((rd_T81 l1 x5_1).f0) ((rd_T81 l1 x5_1).f1.f0) ((rd_T81 l1 x5_1).f1.f1) true _ A7.out).mono ?_
        rintro e w10 ⟨rfl, hb⟩
        refine ⟨_, rfl, ?_⟩
        have n0_ := Aside0.mk (below_step (bl_ HB) hb)
        clear HB
        have HB := n0_
        clear n0_
        (try clear hb)
        (try clear hb2)
        (try clear hk)
        (try clear hi)
        refine hK.out _ _ ⟨((HB.out.cell (World.block_lt_of_cell? w _ hw338_0)).trans hw338_0), ((HB.out.cell (World.block_lt_of_cell? w _ hw338_1)).trans hw338_1), ((HB.out.cell (World.block_lt_of_cell? w _ hw338_2)).trans hw338_2), ((HB.out.cell (World.block_lt_of_cell? w _ hw339_0)).trans hw339_0), ((HB.out.cell (World.block_lt_of_cell? w _ hw339_1)).trans hw339_1), ((HB.out.cell (World.block_lt_of_cell? w _ hw339_2)).trans hw339_2)⟩ (fun hHeld => ?_)
        clear hK K
        refine norm_ (a' := ?_) ?_ ?_
        rotate_left
        ·show Act.put _ (some 25) _ = _
         simp only [Act.put, List.setIfInBounds_toArray, List.set_cons_zero, List.set_cons_succ, i64_w, i32_w]
         rfl
        refine pure_ (i := 9) (N := some 26) (v := ?_) (a' := ?_) #[true, true, true, true, true, true, true, true, true, true] rfl rfl (any_of HT_.out (by kernel_rfl)) (fun _ _ _ h => h) (Or.inl ⟨by rfl, ?_⟩) ?_ ?_
        rotate_left
        ·intro w'
         go_simp
         with_reducible rfl
        rotate_left
        ·simp only [Act.put, List.setIfInBounds_toArray, List.set_cons_zero, List.set_cons_succ, i64_w, i32_w]
         rfl
        refine done_ (done_of HT_.out (by kernel_rfl)) ?_
        try go_wp2
        go_roundg k1
        case measure => have := HK1.out; omega
        case rel => exact ⟨(wrap64 (x5_1 + 1)), (by first | rfl | (simp; done) | (simp [*]; done)), H', ⟨by have := HK1.out; omega⟩, ⟨by repeat (first | (with_reducible first | exact HB.out | apply below_alloc | apply pw_below_drewN | apply below_drew1) | exact HB.out)⟩⟩
       ·replace c8 := Bool.eq_false_iff.mpr c8
        subst c8
        have H1 : (some false) = some true := by first | (rw [if_neg (show ¬ (false = true) by decide)] at H; exact H) | rfl
        clear H
        have H := H1
        clear H1
        exact absurd H (by simp)
      ·rw [if_neg c6] at H
       exact absurd H (by simp)
     ·rw [if_neg c5] at H
      exact absurd H (by simp)
    ·rw [if_neg c4] at H
     have c4b0 : decide (x5_1 < (l0.length : Int)) = false := decide_eq_false c4
     clear c4
     clear H
     go_wp2
     go_ret
     exact ⟨by first | rfl | (simp [errW_none, errW_some] <;> rfl) | (simp [*, errW_none, errW_some] <;> rfl), by repeat (first | (with_reducible first | exact HB.out | apply below_alloc | apply pw_below_drewN | apply below_drew1) | exact HB.out)⟩
 ·rw [if_neg c3] at H
  have c3b0 : ((l0.length : Int) == (l1.length : Int)) = false := beq_eq_false_iff_ne.mpr c3
  have c3b1 : ((l0.length : Int) != (l1.length : Int)) = true := bne_iff_ne.mpr c3
  have c3b2 : (l0.length == l1.length) = false := by first | simpa using c3 | (simp at c3 ⊢; omega)
  exact absurd H (by simp)

/-! ### laws_eqSky: function 13 -/
def laws_eqSky.f (k : Nat) (a0_0 : Int) (l0_1 : List (S71)) (l0_2 : List (S75)) (a0_3 : Int) (a0_4 : Int) (a0_5 : Int) (a0_6 : Int) (a0_7 : Int) (l0_8 : List (S81)) (a0_9 : Int) (a1_0 : Int) (l1_1 : List (S71)) (l1_2 : List (S75)) (a1_3 : Int) (a1_4 : Int) (a1_5 : Int) (a1_6 : Int) (a1_7 : Int) (l1_8 : List (S81)) (a1_9 : Int) : Option (Bool) := if a0_0 = a1_0 then ((laws_eqSatS.f k l0_1 l1_1).bind fun t343 => (if t343 = true then ((laws_eqSiteS.f k l0_2 l1_2).bind fun t344 => (if t344 = true then (if a0_3 = a1_3 then (if a0_4 = a1_4 then (if a0_5 = a1_5 then (if a0_6 = a1_6 then (if a0_7 = a1_7 then ((laws_eqZoneS.f k l0_8 l1_8).bind fun t345 => (if t345 = true then (if a0_9 = a1_9 then (some true) else (some false)) else (some false))) else (some false)) else (some false)) else (some false)) else (some false)) else (some false)) else (some false))) else (some false))) else (some false)
theorem laws_eqSky.mono : ∀ a0 a1 a2 a3 a4 a5 a6 a7 a8 a9 a10 a11 a12 a13 a14 a15 a16 a17 a18 a19 k, LeO (laws_eqSky.f k a0 a1 a2 a3 a4 a5 a6 a7 a8 a9 a10 a11 a12 a13 a14 a15 a16 a17 a18 a19) (laws_eqSky.f (k + 1) a0 a1 a2 a3 a4 a5 a6 a7 a8 a9 a10 a11 a12 a13 a14 a15 a16 a17 a18 a19) := by
 intro a0 a1 a2 a3 a4 a5 a6 a7 a8 a9 a10 a11 a12 a13 a14 a15 a16 a17 a18 a19 k
 unfold laws_eqSky.f
 repeat' first
   | (with_reducible exact laws_eqSatS.mono _ _ _)
   | (with_reducible exact laws_eqSiteS.mono _ _ _)
   | (with_reducible exact laws_eqZoneS.mono _ _ _)
   | (with_reducible exact LeO.refl _)
   | (with_reducible exact LeO.none _)
   | (with_reducible refine LeO.ite ?_ ?_)
   | (with_reducible refine LeO.bind ?_ (fun _ => ?_))
   | exact laws_eqSatS.mono _ _ _
   | exact laws_eqSiteS.mono _ _ _
   | exact laws_eqZoneS.mono _ _ _
   | exact LeO.none _
   | refine LeO.ite ?_ ?_
   | refine LeO.bind ?_ (fun _ => ?_)
set_option maxHeartbeats 8000000 in
set_option maxRecDepth 100000 in
theorem laws_eqSky.calls (k : Nat) (a0_0 : Int) (A0_1 : Option Addr) (c0_1 : Nat) (l0_1 : List (S71)) (A0_2 : Option Addr) (c0_2 : Nat) (l0_2 : List (S75)) (a0_3 : Int) (a0_4 : Int) (a0_5 : Int) (a0_6 : Int) (a0_7 : Int) (A0_8 : Option Addr) (c0_8 : Nat) (l0_8 : List (S81)) (a0_9 : Int) (a1_0 : Int) (A1_1 : Option Addr) (c1_1 : Nat) (l1_1 : List (S71)) (A1_2 : Option Addr) (c1_2 : Nat) (l1_2 : List (S75)) (a1_3 : Int) (a1_4 : Int) (a1_5 : Int) (a1_6 : Int) (a1_7 : Int) (A1_8 : Option Addr) (c1_8 : Nat) (l1_8 : List (S81)) (a1_9 : Int) (r : Bool) (w : World) (hr0_1 : Kd.C k71 w A0_1 l0_1.length l0_1) (hc0_1 : l0_1.length ≤ c0_1) (hr0_2 : Kd.C k75 w A0_2 l0_2.length l0_2) (hc0_2 : l0_2.length ≤ c0_2) (hr0_8 : Kd.C k81 w A0_8 l0_8.length l0_8) (hc0_8 : l0_8.length ≤ c0_8) (hr1_1 : Kd.C k71 w A1_1 l1_1.length l1_1) (hc1_1 : l1_1.length ≤ c1_1) (hr1_2 : Kd.C k75 w A1_2 l1_2.length l1_2) (hc1_2 : l1_2.length ≤ c1_2) (hr1_8 : Kd.C k81 w A1_8 l1_8.length l1_8) (hc1_8 : l1_8.length ≤ c1_8) (h : laws_eqSky.f k a0_0 l0_1 l0_2 a0_3 a0_4 a0_5 a0_6 a0_7 l0_8 a0_9 a1_0 l1_1 l1_2 a1_3 a1_4 a1_5 a1_6 a1_7 l1_8 a1_9 = some r) (hT_ : r = true := by rfl) :
  Calls Try.prog 13 #[.agg #[.int .i64 a0_0, .slice A0_1 l0_1.length c0_1, .slice A0_2 l0_2.length c0_2, .int .i64 a0_3, .int .i64 a0_4, .int .i64 a0_5, .int .i64 a0_6, .int .i64 a0_7, .slice A0_8 l0_8.length c0_8, .int .i64 a0_9], .agg #[.int .i64 a1_0, .slice A1_1 l1_1.length c1_1, .slice A1_2 l1_2.length c1_2, .int .i64 a1_3, .int .i64 a1_4, .int .i64 a1_5, .int .i64 a1_6, .int .i64 a1_7, .slice A1_8 l1_8.length c1_8, .int .i64 a1_9]] w fun e w' => e = .returned (.bool r) ∧ Below w.heap.size w w' := by
 have hu33 := Try.underlying33
 have HR0_1 := Aside0.mk hr0_1
 have HC0_1 := Aside0.mk hc0_1
 clear hr0_1 hc0_1
 have HR0_2 := Aside0.mk hr0_2
 have HC0_2 := Aside0.mk hc0_2
 clear hr0_2 hc0_2
 have HR0_8 := Aside0.mk hr0_8
 have HC0_8 := Aside0.mk hc0_8
 clear hr0_8 hc0_8
 have HR1_1 := Aside0.mk hr1_1
 have HC1_1 := Aside0.mk hc1_1
 clear hr1_1 hc1_1
 have HR1_2 := Aside0.mk hr1_2
 have HC1_2 := Aside0.mk hc1_2
 clear hr1_2 hc1_2
 have HR1_8 := Aside0.mk hr1_8
 have HC1_8 := Aside0.mk hc1_8
 clear hr1_8 hc1_8
 have HB := Aside0.mk (Below.refl w.heap.size w)
 subst hT_
 have H := h
 clear h
 unfold laws_eqSky.f at H
 by_cases c3 : a0_0 = a1_0
 ·rw [if_pos c3] at H
  have c3b0 : (a0_0 == a1_0) = true := beq_iff_eq.mpr c3
  have c3b1 : (a0_0 != a1_0) = false := bne_eq_false_iff_eq.mpr c3
  clear c3
  replace H := Option.bind_eq_some_iff.mp H
  obtain ⟨t343, A40, H⟩ := H
  have A4 := Aside0.mk A40
  clear A40
  by_cases c5 : t343 = true
  ·subst c5
   have H1 : ((laws_eqSiteS.f k l0_2 l1_2).bind fun t344 => (if t344 = true then (if a0_3 = a1_3 then (if a0_4 = a1_4 then (if a0_5 = a1_5 then (if a0_6 = a1_6 then (if a0_7 = a1_7 then ((laws_eqZoneS.f k l0_8 l1_8).bind fun t345 => (if t345 = true then (if a0_9 = a1_9 then (some true) else (some false)) else (some false))) else (some false)) else (some false)) else (some false)) else (some false)) else (some false)) else (some false))) = some true := by first | (rw [if_pos rfl] at H; exact H) | rfl
   clear H
   have H := H1
   clear H1
   replace H := Option.bind_eq_some_iff.mp H
   obtain ⟨t344, A60, H⟩ := H
   have A6 := Aside0.mk A60
   clear A60
   by_cases c7 : t344 = true
   ·subst c7
    have H1 : (if a0_3 = a1_3 then (if a0_4 = a1_4 then (if a0_5 = a1_5 then (if a0_6 = a1_6 then (if a0_7 = a1_7 then ((laws_eqZoneS.f k l0_8 l1_8).bind fun t345 => (if t345 = true then (if a0_9 = a1_9 then (some true) else (some false)) else (some false))) else (some false)) else (some false)) else (some false)) else (some false)) else (some false)) = some true := by first | (rw [if_pos rfl] at H; exact H) | rfl
    clear H
    have H := H1
    clear H1
    by_cases c8 : a0_3 = a1_3
    ·rw [if_pos c8] at H
     have c8b0 : (a0_3 == a1_3) = true := beq_iff_eq.mpr c8
     have c8b1 : (a0_3 != a1_3) = false := bne_eq_false_iff_eq.mpr c8
     clear c8
     by_cases c9 : a0_4 = a1_4
     ·rw [if_pos c9] at H
      have c9b0 : (a0_4 == a1_4) = true := beq_iff_eq.mpr c9
      have c9b1 : (a0_4 != a1_4) = false := bne_eq_false_iff_eq.mpr c9
      clear c9
      by_cases c10 : a0_5 = a1_5
      ·rw [if_pos c10] at H
       have c10b0 : (a0_5 == a1_5) = true := beq_iff_eq.mpr c10
       have c10b1 : (a0_5 != a1_5) = false := bne_eq_false_iff_eq.mpr c10
       clear c10
       by_cases c11 : a0_6 = a1_6
       ·rw [if_pos c11] at H
        have c11b0 : (a0_6 == a1_6) = true := beq_iff_eq.mpr c11
        have c11b1 : (a0_6 != a1_6) = false := bne_eq_false_iff_eq.mpr c11
        clear c11
        by_cases c12 : a0_7 = a1_7
        ·rw [if_pos c12] at H
         have c12b0 : (a0_7 == a1_7) = true := beq_iff_eq.mpr c12
         have c12b1 : (a0_7 != a1_7) = false := bne_eq_false_iff_eq.mpr c12
         clear c12
         replace H := Option.bind_eq_some_iff.mp H
         obtain ⟨t345, A130, H⟩ := H
         have A13 := Aside0.mk A130
         clear A130
         by_cases c14 : t345 = true
         ·subst c14
          have H1 : (if a0_9 = a1_9 then (some true) else (some false)) = some true := by first | (rw [if_pos rfl] at H; exact H) | rfl
          clear H
          have H := H1
          clear H1
          by_cases c15 : a0_9 = a1_9
          ·rw [if_pos c15] at H
           have c15b0 : (a0_9 == a1_9) = true := beq_iff_eq.mpr c15
           have c15b1 : (a0_9 != a1_9) = false := bne_eq_false_iff_eq.mpr c15
           clear c15
           clear H
           go_enter Try.func13, Try.ntmps13
           go_wp2_with (first | ((with_reducible refine gate_dst (N := 2) rfl ?_); refine box_event ?hg (N := 2) ?hd (cs := #[.int .i64 a0_0, .slice A0_1 l0_1.length c0_1, .slice A0_2 l0_2.length c0_2, .int .i64 a0_3, .int .i64 a0_4, .int .i64 a0_5, .int .i64 a0_6, .int .i64 a0_7, .slice A0_8 l0_8.length c0_8, .int .i64 a0_9]) (t := 33) ?hr ?_; (case hd => rfl); (case hg => rfl); (case hr => first | (go_simp; done) | (go_simp; rfl)); intro gb341 hg w16 hbox hb; have n0_ := Aside0.mk (below_step (bl_ HB) hb); have n1_ := Aside0.mk (hbox); have n2_ := Aside0.mk ((by rw [hg]; exact (below_size (bl_ HB)) : w.heap.size ≤ gb341)); have n3_ := Aside0.mk ((by rw [hg]; exact (below_size (bl_ HB)) : w.heap.size ≤ gb341)); clear HB; have HB := n0_; have BK341 := n1_; have GW341 := n2_; have GE341 := n3_; clear n0_ n1_ n2_ n3_; clear hb hbox hg) | ((with_reducible refine gate_dst (N := 3) rfl ?_); refine box_event ?hg (N := 3) ?hd (cs := #[.int .i64 a1_0, .slice A1_1 l1_1.length c1_1, .slice A1_2 l1_2.length c1_2, .int .i64 a1_3, .int .i64 a1_4, .int .i64 a1_5, .int .i64 a1_6, .int .i64 a1_7, .slice A1_8 l1_8.length c1_8, .int .i64 a1_9]) (t := 33) ?hr ?_; (case hd => rfl); (case hg => rfl); (case hr => first | (go_simp; done) | (go_simp; rfl)); intro gb342 hg w17 hbox hb; have n0_ := Aside0.mk (blk_below (bk_ BK341) hb); have n1_ := Aside0.mk (below_step (bl1_ HB GE341) hb); have n2_ := Aside0.mk (hbox); have n3_ := Aside0.mk ((by rw [hg]; exact (below_size (bl1_ HB GE341)) : w.heap.size ≤ gb342)); have n4_ := Aside0.mk ((by rw [hg]; exact (below_size (bl1_ HB GE341)) : w.heap.size ≤ gb342)); have n5_ := Aside0.mk ((by rw [hg]; exact Nat.ne_of_lt (blk_lt (bk_ BK341)) : gb341 ≠ gb342)); have n6_ := Aside0.mk ((by rw [hg]; exact Nat.ne_of_gt (blk_lt (bk_ BK341)) : gb342 ≠ gb341)); clear BK341; clear HB; have BK341 := n0_; have HB := n1_; have BK342 := n2_; have GW342 := n3_; have GE342 := n4_; have NB341_342 := n5_; have NB342_341 := n6_; clear n0_ n1_ n2_ n3_ n4_ n5_ n6_; clear hb hbox hg; have hnb18 := NB341_342.out; have hnc18 := NB342_341.out; have hcz19_0 : w17.cell? ⟨gb341, 0, none⟩ = some (.int .i64 a0_0) := bc_ BK341 0 rfl; have hcz19_1 : w17.cell? ⟨gb341, 1, none⟩ = some (.slice A0_1 l0_1.length c0_1) := bc_ BK341 1 rfl; have hcz19_2 : w17.cell? ⟨gb341, 2, none⟩ = some (.slice A0_2 l0_2.length c0_2) := bc_ BK341 2 rfl; have hcz19_3 : w17.cell? ⟨gb341, 3, none⟩ = some (.int .i64 a0_3) := bc_ BK341 3 rfl; have hcz19_4 : w17.cell? ⟨gb341, 4, none⟩ = some (.int .i64 a0_4) := bc_ BK341 4 rfl; have hcz19_5 : w17.cell? ⟨gb341, 5, none⟩ = some (.int .i64 a0_5) := bc_ BK341 5 rfl; have hcz19_6 : w17.cell? ⟨gb341, 6, none⟩ = some (.int .i64 a0_6) := bc_ BK341 6 rfl; have hcz19_7 : w17.cell? ⟨gb341, 7, none⟩ = some (.int .i64 a0_7) := bc_ BK341 7 rfl; have hcz19_8 : w17.cell? ⟨gb341, 8, none⟩ = some (.slice A0_8 l0_8.length c0_8) := bc_ BK341 8 rfl; have hcz19_9 : w17.cell? ⟨gb341, 9, none⟩ = some (.int .i64 a0_9) := bc_ BK341 9 rfl; have hfz19_0 := bf_ BK341 0; have hfz19_1 := bf_ BK341 1; have hfz19_2 := bf_ BK341 2; have hfz19_3 := bf_ BK341 3; have hfz19_4 := bf_ BK341 4; have hfz19_5 := bf_ BK341 5; have hfz19_6 := bf_ BK341 6; have hfz19_7 := bf_ BK341 7; have hfz19_8 := bf_ BK341 8; have hfz19_9 := bf_ BK341 9; have hcz20_0 : w17.cell? ⟨gb342, 0, none⟩ = some (.int .i64 a1_0) := bc_ BK342 0 rfl; have hcz20_1 : w17.cell? ⟨gb342, 1, none⟩ = some (.slice A1_1 l1_1.length c1_1) := bc_ BK342 1 rfl; have hcz20_2 : w17.cell? ⟨gb342, 2, none⟩ = some (.slice A1_2 l1_2.length c1_2) := bc_ BK342 2 rfl; have hcz20_3 : w17.cell? ⟨gb342, 3, none⟩ = some (.int .i64 a1_3) := bc_ BK342 3 rfl; have hcz20_4 : w17.cell? ⟨gb342, 4, none⟩ = some (.int .i64 a1_4) := bc_ BK342 4 rfl; have hcz20_5 : w17.cell? ⟨gb342, 5, none⟩ = some (.int .i64 a1_5) := bc_ BK342 5 rfl; have hcz20_6 : w17.cell? ⟨gb342, 6, none⟩ = some (.int .i64 a1_6) := bc_ BK342 6 rfl; have hcz20_7 : w17.cell? ⟨gb342, 7, none⟩ = some (.int .i64 a1_7) := bc_ BK342 7 rfl; have hcz20_8 : w17.cell? ⟨gb342, 8, none⟩ = some (.slice A1_8 l1_8.length c1_8) := bc_ BK342 8 rfl; have hcz20_9 : w17.cell? ⟨gb342, 9, none⟩ = some (.int .i64 a1_9) := bc_ BK342 9 rfl; have hfz20_0 := bf_ BK342 0; have hfz20_1 := bf_ BK342 1; have hfz20_2 := bf_ BK342 2; have hfz20_3 := bf_ BK342 3; have hfz20_4 := bf_ BK342 4; have hfz20_5 := bf_ BK342 5; have hfz20_6 := bf_ BK342 6; have hfz20_7 := bf_ BK342 7; have hfz20_8 := bf_ BK342 8; have hfz20_9 := bf_ BK342 9) | ((with_reducible refine gate_callee (f := 35) rfl ?_); refine goesL_ (some 14) rfl rfl Try.func35 (by kernel_rfl) rfl #[.slice A0_1 l0_1.length c0_1, .slice A1_1 l1_1.length c1_1] rfl mp_ ?_; (with_reducible refine (laws_eqSatS.calls k _ _ l0_1 _ _ l1_1 true _ ?side1 ?side2 ?side3 ?side4 A4.out).mono ?_); (case side1 => exact ck_ HR0_1 HB); (case side2 => exact HC0_1.out); (case side3 => exact ck_ HR1_1 HB); (case side4 => exact HC1_1.out); rintro e w21 ⟨rfl, hb⟩; refine ⟨_, rfl, ?_⟩; have n0_ := Aside0.mk (blk_below (bk_ BK341) hb); have n1_ := Aside0.mk (blk_below (bk_ BK342) hb); have n2_ := Aside0.mk (below_step (bl2_ HB GE341 GE342) hb); clear BK341; clear BK342; clear HB; have BK341 := n0_; have BK342 := n1_; have HB := n2_; clear n0_ n1_ n2_; (try clear hb); (try clear hb2); (try clear hk); (try clear hi); have hcz22_0 : w21.cell? ⟨gb341, 0, none⟩ = some (.int .i64 a0_0) := bc_ BK341 0 rfl; have hcz22_1 : w21.cell? ⟨gb341, 1, none⟩ = some (.slice A0_1 l0_1.length c0_1) := bc_ BK341 1 rfl; have hcz22_2 : w21.cell? ⟨gb341, 2, none⟩ = some (.slice A0_2 l0_2.length c0_2) := bc_ BK341 2 rfl; have hcz22_3 : w21.cell? ⟨gb341, 3, none⟩ = some (.int .i64 a0_3) := bc_ BK341 3 rfl; have hcz22_4 : w21.cell? ⟨gb341, 4, none⟩ = some (.int .i64 a0_4) := bc_ BK341 4 rfl; have hcz22_5 : w21.cell? ⟨gb341, 5, none⟩ = some (.int .i64 a0_5) := bc_ BK341 5 rfl; have hcz22_6 : w21.cell? ⟨gb341, 6, none⟩ = some (.int .i64 a0_6) := bc_ BK341 6 rfl; have hcz22_7 : w21.cell? ⟨gb341, 7, none⟩ = some (.int .i64 a0_7) := bc_ BK341 7 rfl; have hcz22_8 : w21.cell? ⟨gb341, 8, none⟩ = some (.slice A0_8 l0_8.length c0_8) := bc_ BK341 8 rfl; have hcz22_9 : w21.cell? ⟨gb341, 9, none⟩ = some (.int .i64 a0_9) := bc_ BK341 9 rfl; have hfz22_0 := bf_ BK341 0; have hfz22_1 := bf_ BK341 1; have hfz22_2 := bf_ BK341 2; have hfz22_3 := bf_ BK341 3; have hfz22_4 := bf_ BK341 4; have hfz22_5 := bf_ BK341 5; have hfz22_6 := bf_ BK341 6; have hfz22_7 := bf_ BK341 7; have hfz22_8 := bf_ BK341 8; have hfz22_9 := bf_ BK341 9; have hcz23_0 : w21.cell? ⟨gb342, 0, none⟩ = some (.int .i64 a1_0) := bc_ BK342 0 rfl; have hcz23_1 : w21.cell? ⟨gb342, 1, none⟩ = some (.slice A1_1 l1_1.length c1_1) := bc_ BK342 1 rfl; have hcz23_2 : w21.cell? ⟨gb342, 2, none⟩ = some (.slice A1_2 l1_2.length c1_2) := bc_ BK342 2 rfl; have hcz23_3 : w21.cell? ⟨gb342, 3, none⟩ = some (.int .i64 a1_3) := bc_ BK342 3 rfl; have hcz23_4 : w21.cell? ⟨gb342, 4, none⟩ = some (.int .i64 a1_4) := bc_ BK342 4 rfl; have hcz23_5 : w21.cell? ⟨gb342, 5, none⟩ = some (.int .i64 a1_5) := bc_ BK342 5 rfl; have hcz23_6 : w21.cell? ⟨gb342, 6, none⟩ = some (.int .i64 a1_6) := bc_ BK342 6 rfl; have hcz23_7 : w21.cell? ⟨gb342, 7, none⟩ = some (.int .i64 a1_7) := bc_ BK342 7 rfl; have hcz23_8 : w21.cell? ⟨gb342, 8, none⟩ = some (.slice A1_8 l1_8.length c1_8) := bc_ BK342 8 rfl; have hcz23_9 : w21.cell? ⟨gb342, 9, none⟩ = some (.int .i64 a1_9) := bc_ BK342 9 rfl; have hfz23_0 := bf_ BK342 0; have hfz23_1 := bf_ BK342 1; have hfz23_2 := bf_ BK342 2; have hfz23_3 := bf_ BK342 3; have hfz23_4 := bf_ BK342 4; have hfz23_5 := bf_ BK342 5; have hfz23_6 := bf_ BK342 6; have hfz23_7 := bf_ BK342 7; have hfz23_8 := bf_ BK342 8; have hfz23_9 := bf_ BK342 9) | ((with_reducible refine gate_callee (f := 36) rfl ?_); refine goesL_ (some 20) rfl rfl Try.func36 (by kernel_rfl) rfl #[.slice A0_2 l0_2.length c0_2, .slice A1_2 l1_2.length c1_2] rfl mp_ ?_; (with_reducible refine (laws_eqSiteS.calls k _ _ l0_2 _ _ l1_2 true _ ?side1 ?side2 ?side3 ?side4 A6.out).mono ?_); (case side1 => exact ck_ HR0_2 HB); (case side2 => exact HC0_2.out); (case side3 => exact ck_ HR1_2 HB); (case side4 => exact HC1_2.out); rintro e w24 ⟨rfl, hb⟩; refine ⟨_, rfl, ?_⟩; have n0_ := Aside0.mk (blk_below (bk_ BK341) hb); have n1_ := Aside0.mk (blk_below (bk_ BK342) hb); have n2_ := Aside0.mk (below_step (bl2_ HB GE341 GE342) hb); clear BK341; clear BK342; clear HB; have BK341 := n0_; have BK342 := n1_; have HB := n2_; clear n0_ n1_ n2_; (try clear hb); (try clear hb2); (try clear hk); (try clear hi); have hcz25_0 : w24.cell? ⟨gb341, 0, none⟩ = some (.int .i64 a0_0) := bc_ BK341 0 rfl; have hcz25_1 : w24.cell? ⟨gb341, 1, none⟩ = some (.slice A0_1 l0_1.length c0_1) := bc_ BK341 1 rfl; have hcz25_2 : w24.cell? ⟨gb341, 2, none⟩ = some (.slice A0_2 l0_2.length c0_2) := bc_ BK341 2 rfl; have hcz25_3 : w24.cell? ⟨gb341, 3, none⟩ = some (.int .i64 a0_3) := bc_ BK341 3 rfl; have hcz25_4 : w24.cell? ⟨gb341, 4, none⟩ = some (.int .i64 a0_4) := bc_ BK341 4 rfl; have hcz25_5 : w24.cell? ⟨gb341, 5, none⟩ = some (.int .i64 a0_5) := bc_ BK341 5 rfl; have hcz25_6 : w24.cell? ⟨gb341, 6, none⟩ = some (.int .i64 a0_6) := bc_ BK341 6 rfl; have hcz25_7 : w24.cell? ⟨gb341, 7, none⟩ = some (.int .i64 a0_7) := bc_ BK341 7 rfl; have hcz25_8 : w24.cell? ⟨gb341, 8, none⟩ = some (.slice A0_8 l0_8.length c0_8) := bc_ BK341 8 rfl; have hcz25_9 : w24.cell? ⟨gb341, 9, none⟩ = some (.int .i64 a0_9) := bc_ BK341 9 rfl; have hfz25_0 := bf_ BK341 0; have hfz25_1 := bf_ BK341 1; have hfz25_2 := bf_ BK341 2; have hfz25_3 := bf_ BK341 3; have hfz25_4 := bf_ BK341 4; have hfz25_5 := bf_ BK341 5; have hfz25_6 := bf_ BK341 6; have hfz25_7 := bf_ BK341 7; have hfz25_8 := bf_ BK341 8; have hfz25_9 := bf_ BK341 9; have hcz26_0 : w24.cell? ⟨gb342, 0, none⟩ = some (.int .i64 a1_0) := bc_ BK342 0 rfl; have hcz26_1 : w24.cell? ⟨gb342, 1, none⟩ = some (.slice A1_1 l1_1.length c1_1) := bc_ BK342 1 rfl; have hcz26_2 : w24.cell? ⟨gb342, 2, none⟩ = some (.slice A1_2 l1_2.length c1_2) := bc_ BK342 2 rfl; have hcz26_3 : w24.cell? ⟨gb342, 3, none⟩ = some (.int .i64 a1_3) := bc_ BK342 3 rfl; have hcz26_4 : w24.cell? ⟨gb342, 4, none⟩ = some (.int .i64 a1_4) := bc_ BK342 4 rfl; have hcz26_5 : w24.cell? ⟨gb342, 5, none⟩ = some (.int .i64 a1_5) := bc_ BK342 5 rfl; have hcz26_6 : w24.cell? ⟨gb342, 6, none⟩ = some (.int .i64 a1_6) := bc_ BK342 6 rfl; have hcz26_7 : w24.cell? ⟨gb342, 7, none⟩ = some (.int .i64 a1_7) := bc_ BK342 7 rfl; have hcz26_8 : w24.cell? ⟨gb342, 8, none⟩ = some (.slice A1_8 l1_8.length c1_8) := bc_ BK342 8 rfl; have hcz26_9 : w24.cell? ⟨gb342, 9, none⟩ = some (.int .i64 a1_9) := bc_ BK342 9 rfl; have hfz26_0 := bf_ BK342 0; have hfz26_1 := bf_ BK342 1; have hfz26_2 := bf_ BK342 2; have hfz26_3 := bf_ BK342 3; have hfz26_4 := bf_ BK342 4; have hfz26_5 := bf_ BK342 5; have hfz26_6 := bf_ BK342 6; have hfz26_7 := bf_ BK342 7; have hfz26_8 := bf_ BK342 8; have hfz26_9 := bf_ BK342 9) | ((with_reducible refine gate_callee (f := 37) rfl ?_); refine goesL_ (some 51) rfl rfl Try.func37 (by kernel_rfl) rfl #[.slice A0_8 l0_8.length c0_8, .slice A1_8 l1_8.length c1_8] rfl mp_ ?_; (with_reducible refine (laws_eqZoneS.calls k _ _ l0_8 _ _ l1_8 true _ ?side1 ?side2 ?side3 ?side4 A13.out).mono ?_); (case side1 => exact ck_ HR0_8 HB); (case side2 => exact HC0_8.out); (case side3 => exact ck_ HR1_8 HB); (case side4 => exact HC1_8.out); rintro e w27 ⟨rfl, hb⟩; refine ⟨_, rfl, ?_⟩; have n0_ := Aside0.mk (blk_below (bk_ BK341) hb); have n1_ := Aside0.mk (blk_below (bk_ BK342) hb); have n2_ := Aside0.mk (below_step (bl2_ HB GE341 GE342) hb); clear BK341; clear BK342; clear HB; have BK341 := n0_; have BK342 := n1_; have HB := n2_; clear n0_ n1_ n2_; (try clear hb); (try clear hb2); (try clear hk); (try clear hi); have hcz28_0 : w27.cell? ⟨gb341, 0, none⟩ = some (.int .i64 a0_0) := bc_ BK341 0 rfl; have hcz28_1 : w27.cell? ⟨gb341, 1, none⟩ = some (.slice A0_1 l0_1.length c0_1) := bc_ BK341 1 rfl; have hcz28_2 : w27.cell? ⟨gb341, 2, none⟩ = some (.slice A0_2 l0_2.length c0_2) := bc_ BK341 2 rfl; have hcz28_3 : w27.cell? ⟨gb341, 3, none⟩ = some (.int .i64 a0_3) := bc_ BK341 3 rfl; have hcz28_4 : w27.cell? ⟨gb341, 4, none⟩ = some (.int .i64 a0_4) := bc_ BK341 4 rfl; have hcz28_5 : w27.cell? ⟨gb341, 5, none⟩ = some (.int .i64 a0_5) := bc_ BK341 5 rfl; have hcz28_6 : w27.cell? ⟨gb341, 6, none⟩ = some (.int .i64 a0_6) := bc_ BK341 6 rfl; have hcz28_7 : w27.cell? ⟨gb341, 7, none⟩ = some (.int .i64 a0_7) := bc_ BK341 7 rfl; have hcz28_8 : w27.cell? ⟨gb341, 8, none⟩ = some (.slice A0_8 l0_8.length c0_8) := bc_ BK341 8 rfl; have hcz28_9 : w27.cell? ⟨gb341, 9, none⟩ = some (.int .i64 a0_9) := bc_ BK341 9 rfl; have hfz28_0 := bf_ BK341 0; have hfz28_1 := bf_ BK341 1; have hfz28_2 := bf_ BK341 2; have hfz28_3 := bf_ BK341 3; have hfz28_4 := bf_ BK341 4; have hfz28_5 := bf_ BK341 5; have hfz28_6 := bf_ BK341 6; have hfz28_7 := bf_ BK341 7; have hfz28_8 := bf_ BK341 8; have hfz28_9 := bf_ BK341 9; have hcz29_0 : w27.cell? ⟨gb342, 0, none⟩ = some (.int .i64 a1_0) := bc_ BK342 0 rfl; have hcz29_1 : w27.cell? ⟨gb342, 1, none⟩ = some (.slice A1_1 l1_1.length c1_1) := bc_ BK342 1 rfl; have hcz29_2 : w27.cell? ⟨gb342, 2, none⟩ = some (.slice A1_2 l1_2.length c1_2) := bc_ BK342 2 rfl; have hcz29_3 : w27.cell? ⟨gb342, 3, none⟩ = some (.int .i64 a1_3) := bc_ BK342 3 rfl; have hcz29_4 : w27.cell? ⟨gb342, 4, none⟩ = some (.int .i64 a1_4) := bc_ BK342 4 rfl; have hcz29_5 : w27.cell? ⟨gb342, 5, none⟩ = some (.int .i64 a1_5) := bc_ BK342 5 rfl; have hcz29_6 : w27.cell? ⟨gb342, 6, none⟩ = some (.int .i64 a1_6) := bc_ BK342 6 rfl; have hcz29_7 : w27.cell? ⟨gb342, 7, none⟩ = some (.int .i64 a1_7) := bc_ BK342 7 rfl; have hcz29_8 : w27.cell? ⟨gb342, 8, none⟩ = some (.slice A1_8 l1_8.length c1_8) := bc_ BK342 8 rfl; have hcz29_9 : w27.cell? ⟨gb342, 9, none⟩ = some (.int .i64 a1_9) := bc_ BK342 9 rfl; have hfz29_0 := bf_ BK342 0; have hfz29_1 := bf_ BK342 1; have hfz29_2 := bf_ BK342 2; have hfz29_3 := bf_ BK342 3; have hfz29_4 := bf_ BK342 4; have hfz29_5 := bf_ BK342 5; have hfz29_6 := bf_ BK342 6; have hfz29_7 := bf_ BK342 7; have hfz29_8 := bf_ BK342 8; have hfz29_9 := bf_ BK342 9))
           go_ret
           exact ⟨by first | rfl | (simp [errW_none, errW_some] <;> rfl) | (simp [*, errW_none, errW_some] <;> rfl), by repeat (first | (with_reducible first | exact HB.out | apply below_alloc | apply pw_below_drewN | apply below_drew1 | refine below_set ?_ GE341.out | refine below_set ?_ GE342.out) | exact HB.out)⟩
          ·rw [if_neg c15] at H
           have c15b0 : (a0_9 == a1_9) = false := beq_eq_false_iff_ne.mpr c15
           have c15b1 : (a0_9 != a1_9) = true := bne_iff_ne.mpr c15
           exact absurd H (by simp)
         ·replace c14 := Bool.eq_false_iff.mpr c14
          subst c14
          have H1 : (some false) = some true := by first | (rw [if_neg (show ¬ (false = true) by decide)] at H; exact H) | rfl
          clear H
          have H := H1
          clear H1
          exact absurd H (by simp)
        ·rw [if_neg c12] at H
         have c12b0 : (a0_7 == a1_7) = false := beq_eq_false_iff_ne.mpr c12
         have c12b1 : (a0_7 != a1_7) = true := bne_iff_ne.mpr c12
         exact absurd H (by simp)
       ·rw [if_neg c11] at H
        have c11b0 : (a0_6 == a1_6) = false := beq_eq_false_iff_ne.mpr c11
        have c11b1 : (a0_6 != a1_6) = true := bne_iff_ne.mpr c11
        exact absurd H (by simp)
      ·rw [if_neg c10] at H
       have c10b0 : (a0_5 == a1_5) = false := beq_eq_false_iff_ne.mpr c10
       have c10b1 : (a0_5 != a1_5) = true := bne_iff_ne.mpr c10
       exact absurd H (by simp)
     ·rw [if_neg c9] at H
      have c9b0 : (a0_4 == a1_4) = false := beq_eq_false_iff_ne.mpr c9
      have c9b1 : (a0_4 != a1_4) = true := bne_iff_ne.mpr c9
      exact absurd H (by simp)
    ·rw [if_neg c8] at H
     have c8b0 : (a0_3 == a1_3) = false := beq_eq_false_iff_ne.mpr c8
     have c8b1 : (a0_3 != a1_3) = true := bne_iff_ne.mpr c8
     exact absurd H (by simp)
   ·replace c7 := Bool.eq_false_iff.mpr c7
    subst c7
    have H1 : (some false) = some true := by first | (rw [if_neg (show ¬ (false = true) by decide)] at H; exact H) | rfl
    clear H
    have H := H1
    clear H1
    exact absurd H (by simp)
  ·replace c5 := Bool.eq_false_iff.mpr c5
   subst c5
   have H1 : (some false) = some true := by first | (rw [if_neg (show ¬ (false = true) by decide)] at H; exact H) | rfl
   clear H
   have H := H1
   clear H1
   exact absurd H (by simp)
 ·rw [if_neg c3] at H
  have c3b0 : (a0_0 == a1_0) = false := beq_eq_false_iff_ne.mpr c3
  have c3b1 : (a0_0 != a1_0) = true := bne_iff_ne.mpr c3
  exact absurd H (by simp)

/-! ### laws_FnExactLongestDark: function 3 -/
def laws_FnExactLongestDark.f (k : Nat) (a0_0 : Int) (l0_1 : List (S73)) (l0_2 : List (S77)) (a0_3 : Int) (a0_4 : Int) (a0_5 : Int) (a0_6 : Int) (a0_7 : Int) (l0_8 : List (S85)) (a0_9 : Int) (a1 : Int) (a2 : Int) (a3 : Int) : Option (Bool) := (laws_szSky.f a0_0 l0_1 l0_2 a0_3 a0_4 a0_5 a0_6 a0_7 l0_8 a0_9 1048576).bind fun t347 => (if t347 < 0 then (some true) else ((laws_toSky.f k a0_0 l0_1 l0_2 a0_3 a0_4 a0_5 a0_6 a0_7 l0_8 a0_9).bind fun bt348 => ((spec_LongestDark.f k bt348.1 bt348.2.1 bt348.2.2.1 bt348.2.2.2.1 bt348.2.2.2.2.1 bt348.2.2.2.2.2.1 bt348.2.2.2.2.2.2.1 bt348.2.2.2.2.2.2.2.1 bt348.2.2.2.2.2.2.2.2.1 bt348.2.2.2.2.2.2.2.2.2 a1 a2 a3).bind fun t364 => ((laws_toSky.f k a0_0 l0_1 l0_2 a0_3 a0_4 a0_5 a0_6 a0_7 l0_8 a0_9).bind fun bt365 => ((impl_LongestDark.f k bt365.1 bt365.2.1 bt365.2.2.1 bt365.2.2.2.1 bt365.2.2.2.2.1 bt365.2.2.2.2.2.1 bt365.2.2.2.2.2.2.1 bt365.2.2.2.2.2.2.2.1 bt365.2.2.2.2.2.2.2.2.1 bt365.2.2.2.2.2.2.2.2.2 a1 a2 a3).bind fun t382 => (if t382 = t364 then ((laws_toSky.f k a0_0 l0_1 l0_2 a0_3 a0_4 a0_5 a0_6 a0_7 l0_8 a0_9).bind fun bt383 => ((laws_eqSky.f k bt365.1 bt365.2.1 bt365.2.2.1 bt365.2.2.2.1 bt365.2.2.2.2.1 bt365.2.2.2.2.2.1 bt365.2.2.2.2.2.2.1 bt365.2.2.2.2.2.2.2.1 bt365.2.2.2.2.2.2.2.2.1 bt365.2.2.2.2.2.2.2.2.2 bt383.1 bt383.2.1 bt383.2.2.1 bt383.2.2.2.1 bt383.2.2.2.2.1 bt383.2.2.2.2.2.1 bt383.2.2.2.2.2.2.1 bt383.2.2.2.2.2.2.2.1 bt383.2.2.2.2.2.2.2.2.1 bt383.2.2.2.2.2.2.2.2.2).bind fun t399 => (if t399 = true then (some true) else (some false)))) else (some false)))))))
theorem laws_FnExactLongestDark.mono : ∀ a0 a1 a2 a3 a4 a5 a6 a7 a8 a9 a10 a11 a12 k, LeO (laws_FnExactLongestDark.f k a0 a1 a2 a3 a4 a5 a6 a7 a8 a9 a10 a11 a12) (laws_FnExactLongestDark.f (k + 1) a0 a1 a2 a3 a4 a5 a6 a7 a8 a9 a10 a11 a12) := by
 intro a0 a1 a2 a3 a4 a5 a6 a7 a8 a9 a10 a11 a12 k
 unfold laws_FnExactLongestDark.f
 repeat' first
   | (with_reducible exact impl_LongestDark.mono _ _ _ _ _ _ _ _ _ _ _ _ _ _)
   | (with_reducible exact laws_eqSky.mono _ _ _ _ _ _ _ _ _ _ _ _ _ _ _ _ _ _ _ _ _)
   | (with_reducible exact laws_toSky.mono _ _ _ _ _ _ _ _ _ _ _)
   | (with_reducible exact spec_LongestDark.mono _ _ _ _ _ _ _ _ _ _ _ _ _ _)
   | (with_reducible exact LeO.refl _)
   | (with_reducible exact LeO.none _)
   | (with_reducible refine LeO.ite ?_ ?_)
   | (with_reducible refine LeO.bind ?_ (fun _ => ?_))
   | exact impl_LongestDark.mono _ _ _ _ _ _ _ _ _ _ _ _ _ _
   | exact laws_eqSky.mono _ _ _ _ _ _ _ _ _ _ _ _ _ _ _ _ _ _ _ _ _
   | exact laws_toSky.mono _ _ _ _ _ _ _ _ _ _ _
   | exact spec_LongestDark.mono _ _ _ _ _ _ _ _ _ _ _ _ _ _
   | exact LeO.none _
   | refine LeO.ite ?_ ?_
   | refine LeO.bind ?_ (fun _ => ?_)
set_option maxHeartbeats 8000000 in
set_option maxRecDepth 100000 in
theorem laws_FnExactLongestDark.calls (k : Nat) (a0_0 : Int) (A0_1 : Option Addr) (c0_1 : Nat) (l0_1 : List (S73)) (A0_2 : Option Addr) (c0_2 : Nat) (l0_2 : List (S77)) (a0_3 : Int) (a0_4 : Int) (a0_5 : Int) (a0_6 : Int) (a0_7 : Int) (A0_8 : Option Addr) (c0_8 : Nat) (l0_8 : List (S85)) (a0_9 : Int) (a1 : Int) (a2 : Int) (a3 : Int) (r : Bool) (w : World) (hr0_1 : Kd.C k73 w A0_1 l0_1.length l0_1) (hc0_1 : l0_1.length ≤ c0_1) (hr0_2 : Kd.C k77 w A0_2 l0_2.length l0_2) (hc0_2 : l0_2.length ≤ c0_2) (hr0_8 : Kd.C k85 w A0_8 l0_8.length l0_8) (hc0_8 : l0_8.length ≤ c0_8) (h : laws_FnExactLongestDark.f k a0_0 l0_1 l0_2 a0_3 a0_4 a0_5 a0_6 a0_7 l0_8 a0_9 a1 a2 a3 = some r) (hT_ : r = true := by rfl) :
  Calls Try.prog 3 #[.agg #[.int .i64 a0_0, .slice A0_1 l0_1.length c0_1, .slice A0_2 l0_2.length c0_2, .int .i64 a0_3, .int .i64 a0_4, .int .i64 a0_5, .int .i64 a0_6, .int .i64 a0_7, .slice A0_8 l0_8.length c0_8, .int .i64 a0_9], .int .i64 a1, .int .i64 a2, .int .i64 a3] w fun e w' => e = .returned (.bool r) ∧ Below w.heap.size w w' := by
 have hu26 := Try.underlying26
 have hu33 := Try.underlying33
 have HR0_1 := Aside0.mk hr0_1
 have HC0_1 := Aside0.mk hc0_1
 clear hr0_1 hc0_1
 have HR0_2 := Aside0.mk hr0_2
 have HC0_2 := Aside0.mk hc0_2
 clear hr0_2 hc0_2
 have HR0_8 := Aside0.mk hr0_8
 have HC0_8 := Aside0.mk hc0_8
 clear hr0_8 hc0_8
 have HB := Aside0.mk (Below.refl w.heap.size w)
 subst hT_
 have H := h
 clear h
 unfold laws_FnExactLongestDark.f at H
 replace H := Option.bind_eq_some_iff.mp H
 obtain ⟨t347, A50, H⟩ := H
 have A5 := Aside0.mk A50
 clear A50
 by_cases c6 : t347 < 0
 ·rw [if_pos c6] at H
  have c6b0 : decide (t347 < 0) = true := decide_eq_true c6
  clear c6
  clear H
  go_enter Try.func3, Try.ntmps3
  go_wp2_with (first | ((with_reducible refine gate_dst (N := 4) rfl ?_); refine box_event ?hg (N := 4) ?hd (cs := #[.int .i64 a0_0, .slice A0_1 l0_1.length c0_1, .slice A0_2 l0_2.length c0_2, .int .i64 a0_3, .int .i64 a0_4, .int .i64 a0_5, .int .i64 a0_6, .int .i64 a0_7, .slice A0_8 l0_8.length c0_8, .int .i64 a0_9]) (t := 26) ?hr ?_; (case hd => rfl); (case hg => rfl); (case hr => first | (go_simp; done) | (go_simp; rfl)); intro gb346 hg w7 hbox hb; have n0_ := Aside0.mk (below_step (bl_ HB) hb); have n1_ := Aside0.mk (hbox); have n2_ := Aside0.mk ((by rw [hg]; exact (below_size (bl_ HB)) : w.heap.size ≤ gb346)); have n3_ := Aside0.mk ((by rw [hg]; exact (below_size (bl_ HB)) : w.heap.size ≤ gb346)); clear HB; have HB := n0_; have BK346 := n1_; have GW346 := n2_; have GE346 := n3_; clear n0_ n1_ n2_ n3_; clear hb hbox hg; have hcz8_0 : w7.cell? ⟨gb346, 0, none⟩ = some (.int .i64 a0_0) := bc_ BK346 0 rfl; have hcz8_1 : w7.cell? ⟨gb346, 1, none⟩ = some (.slice A0_1 l0_1.length c0_1) := bc_ BK346 1 rfl; have hcz8_2 : w7.cell? ⟨gb346, 2, none⟩ = some (.slice A0_2 l0_2.length c0_2) := bc_ BK346 2 rfl; have hcz8_3 : w7.cell? ⟨gb346, 3, none⟩ = some (.int .i64 a0_3) := bc_ BK346 3 rfl; have hcz8_4 : w7.cell? ⟨gb346, 4, none⟩ = some (.int .i64 a0_4) := bc_ BK346 4 rfl; have hcz8_5 : w7.cell? ⟨gb346, 5, none⟩ = some (.int .i64 a0_5) := bc_ BK346 5 rfl; have hcz8_6 : w7.cell? ⟨gb346, 6, none⟩ = some (.int .i64 a0_6) := bc_ BK346 6 rfl; have hcz8_7 : w7.cell? ⟨gb346, 7, none⟩ = some (.int .i64 a0_7) := bc_ BK346 7 rfl; have hcz8_8 : w7.cell? ⟨gb346, 8, none⟩ = some (.slice A0_8 l0_8.length c0_8) := bc_ BK346 8 rfl; have hcz8_9 : w7.cell? ⟨gb346, 9, none⟩ = some (.int .i64 a0_9) := bc_ BK346 9 rfl; have hfz8_0 := bf_ BK346 0; have hfz8_1 := bf_ BK346 1; have hfz8_2 := bf_ BK346 2; have hfz8_3 := bf_ BK346 3; have hfz8_4 := bf_ BK346 4; have hfz8_5 := bf_ BK346 5; have hfz8_6 := bf_ BK346 6; have hfz8_7 := bf_ BK346 7; have hfz8_8 := bf_ BK346 8; have hfz8_9 := bf_ BK346 9) | ((with_reducible refine gate_callee (f := 9) rfl ?_); refine goesL_ (some 15) rfl rfl Try.func9 (by kernel_rfl) rfl #[.agg #[.int .i64 a0_0, .slice A0_1 l0_1.length c0_1, .slice A0_2 l0_2.length c0_2, .int .i64 a0_3, .int .i64 a0_4, .int .i64 a0_5, .int .i64 a0_6, .int .i64 a0_7, .slice A0_8 l0_8.length c0_8, .int .i64 a0_9], .int .i64 1048576] rfl mp_ ?_; (with_reducible refine (laws_szSky.calls a0_0 _ _ l0_1 _ _ l0_2 a0_3 a0_4 a0_5 a0_6 a0_7 _ _ l0_8 a0_9 1048576 t347 _ ?side1 ?side2 ?side3 ?side4 ?side5 ?side6 A5.out).mono ?_); (case side1 => exact ck_ HR0_1 HB); (case side2 => exact HC0_1.out); (case side3 => exact ck_ HR0_2 HB); (case side4 => exact HC0_2.out); (case side5 => exact ck_ HR0_8 HB); (case side6 => exact HC0_8.out); rintro e w9 ⟨rfl, hb⟩; refine ⟨_, rfl, ?_⟩; have n0_ := Aside0.mk (blk_below (bk_ BK346) hb); have n1_ := Aside0.mk (below_step (bl1_ HB GE346) hb); clear BK346; clear HB; have BK346 := n0_; have HB := n1_; clear n0_ n1_; (try clear hb); (try clear hb2); (try clear hk); (try clear hi)))
  go_ret
  exact ⟨by first | rfl | (simp [errW_none, errW_some] <;> rfl) | (simp [*, errW_none, errW_some] <;> rfl), by repeat (first | (with_reducible first | exact HB.out | apply below_alloc | apply pw_below_drewN | apply below_drew1 | refine below_set ?_ GE346.out) | exact HB.out)⟩
 ·rw [if_neg c6] at H
  have c6b0 : decide (t347 < 0) = false := decide_eq_false c6
  clear c6
  replace H := Option.bind_eq_some_iff.mp H
  obtain ⟨⟨t348, t349, t352, t355, t356, t357, t358, t359, t360, t363⟩, A100, H⟩ := H
  replace H : ((spec_LongestDark.f k t348 t349 t352 t355 t356 t357 t358 t359 t360 t363 a1 a2 a3).bind fun t364 => ((laws_toSky.f k a0_0 l0_1 l0_2 a0_3 a0_4 a0_5 a0_6 a0_7 l0_8 a0_9).bind fun bt365 => ((impl_LongestDark.f k bt365.1 bt365.2.1 bt365.2.2.1 bt365.2.2.2.1 bt365.2.2.2.2.1 bt365.2.2.2.2.2.1 bt365.2.2.2.2.2.2.1 bt365.2.2.2.2.2.2.2.1 bt365.2.2.2.2.2.2.2.2.1 bt365.2.2.2.2.2.2.2.2.2 a1 a2 a3).bind fun t382 => (if t382 = t364 then ((laws_toSky.f k a0_0 l0_1 l0_2 a0_3 a0_4 a0_5 a0_6 a0_7 l0_8 a0_9).bind fun bt383 => ((laws_eqSky.f k bt365.1 bt365.2.1 bt365.2.2.1 bt365.2.2.2.1 bt365.2.2.2.2.1 bt365.2.2.2.2.2.1 bt365.2.2.2.2.2.2.1 bt365.2.2.2.2.2.2.2.1 bt365.2.2.2.2.2.2.2.2.1 bt365.2.2.2.2.2.2.2.2.2 bt383.1 bt383.2.1 bt383.2.2.1 bt383.2.2.2.1 bt383.2.2.2.2.1 bt383.2.2.2.2.2.1 bt383.2.2.2.2.2.2.1 bt383.2.2.2.2.2.2.2.1 bt383.2.2.2.2.2.2.2.2.1 bt383.2.2.2.2.2.2.2.2.2).bind fun t399 => (if t399 = true then (some true) else (some false)))) else (some false))))) = some true := H
  have A10 := Aside0.mk A100
  clear A100
  replace H := Option.bind_eq_some_iff.mp H
  obtain ⟨t364, A110, H⟩ := H
  have A11 := Aside0.mk A110
  clear A110
  replace H := Option.bind_eq_some_iff.mp H
  obtain ⟨⟨t365, t366, t369, t372, t373, t374, t375, t376, t377, t380⟩, A120, H⟩ := H
  replace H : ((impl_LongestDark.f k t365 t366 t369 t372 t373 t374 t375 t376 t377 t380 a1 a2 a3).bind fun t382 => (if t382 = t364 then ((laws_toSky.f k a0_0 l0_1 l0_2 a0_3 a0_4 a0_5 a0_6 a0_7 l0_8 a0_9).bind fun bt383 => ((laws_eqSky.f k t365 t366 t369 t372 t373 t374 t375 t376 t377 t380 bt383.1 bt383.2.1 bt383.2.2.1 bt383.2.2.2.1 bt383.2.2.2.2.1 bt383.2.2.2.2.2.1 bt383.2.2.2.2.2.2.1 bt383.2.2.2.2.2.2.2.1 bt383.2.2.2.2.2.2.2.2.1 bt383.2.2.2.2.2.2.2.2.2).bind fun t399 => (if t399 = true then (some true) else (some false)))) else (some false))) = some true := H
  have A12 := Aside0.mk A120
  clear A120
  replace H := Option.bind_eq_some_iff.mp H
  obtain ⟨t382, A130, H⟩ := H
  have A13 := Aside0.mk A130
  clear A130
  by_cases c14 : t382 = t364
  ·rw [if_pos c14] at H
   have c14b0 : (t382 == t364) = true := beq_iff_eq.mpr c14
   have c14b1 : (t382 != t364) = false := bne_eq_false_iff_eq.mpr c14
   clear c14
   replace H := Option.bind_eq_some_iff.mp H
   obtain ⟨⟨t383, t384, t387, t390, t391, t392, t393, t394, t395, t398⟩, A150, H⟩ := H
   replace H : ((laws_eqSky.f k t365 t366 t369 t372 t373 t374 t375 t376 t377 t380 t383 t384 t387 t390 t391 t392 t393 t394 t395 t398).bind fun t399 => (if t399 = true then (some true) else (some false))) = some true := H
   have A15 := Aside0.mk A150
   clear A150
   replace H := Option.bind_eq_some_iff.mp H
   obtain ⟨t399, A160, H⟩ := H
   have A16 := Aside0.mk A160
   clear A160
   by_cases c17 : t399 = true
   ·subst c17
    have H1 : (some true) = some true := by first | (rw [if_pos rfl] at H; exact H) | rfl
    clear H
    have H := H1
    clear H1
    clear H
    go_enter Try.func3, Try.ntmps3
    try go_wp2_with (first | ((with_reducible refine gate_dst (N := 4) rfl ?_); refine box_event ?hg (N := 4) ?hd (cs := #[.int .i64 a0_0, .slice A0_1 l0_1.length c0_1, .slice A0_2 l0_2.length c0_2, .int .i64 a0_3, .int .i64 a0_4, .int .i64 a0_5, .int .i64 a0_6, .int .i64 a0_7, .slice A0_8 l0_8.length c0_8, .int .i64 a0_9]) (t := 26) ?hr ?_; (case hd => rfl); (case hg => rfl); (case hr => first | (go_simp; done) | (go_simp; rfl)); intro gb346 hg w18 hbox hb; have n0_ := Aside0.mk (below_step (bl_ HB) hb); have n1_ := Aside0.mk (hbox); have n2_ := Aside0.mk ((by rw [hg]; exact (below_size (bl_ HB)) : w.heap.size ≤ gb346)); have n3_ := Aside0.mk ((by rw [hg]; exact (below_size (bl_ HB)) : w.heap.size ≤ gb346)); clear HB; have HB := n0_; have BK346 := n1_; have GW346 := n2_; have GE346 := n3_; clear n0_ n1_ n2_ n3_; clear hb hbox hg; have hcz19_0 : w18.cell? ⟨gb346, 0, none⟩ = some (.int .i64 a0_0) := bc_ BK346 0 rfl; have hcz19_1 : w18.cell? ⟨gb346, 1, none⟩ = some (.slice A0_1 l0_1.length c0_1) := bc_ BK346 1 rfl; have hcz19_2 : w18.cell? ⟨gb346, 2, none⟩ = some (.slice A0_2 l0_2.length c0_2) := bc_ BK346 2 rfl; have hcz19_3 : w18.cell? ⟨gb346, 3, none⟩ = some (.int .i64 a0_3) := bc_ BK346 3 rfl; have hcz19_4 : w18.cell? ⟨gb346, 4, none⟩ = some (.int .i64 a0_4) := bc_ BK346 4 rfl; have hcz19_5 : w18.cell? ⟨gb346, 5, none⟩ = some (.int .i64 a0_5) := bc_ BK346 5 rfl; have hcz19_6 : w18.cell? ⟨gb346, 6, none⟩ = some (.int .i64 a0_6) := bc_ BK346 6 rfl; have hcz19_7 : w18.cell? ⟨gb346, 7, none⟩ = some (.int .i64 a0_7) := bc_ BK346 7 rfl; have hcz19_8 : w18.cell? ⟨gb346, 8, none⟩ = some (.slice A0_8 l0_8.length c0_8) := bc_ BK346 8 rfl; have hcz19_9 : w18.cell? ⟨gb346, 9, none⟩ = some (.int .i64 a0_9) := bc_ BK346 9 rfl; have hfz19_0 := bf_ BK346 0; have hfz19_1 := bf_ BK346 1; have hfz19_2 := bf_ BK346 2; have hfz19_3 := bf_ BK346 3; have hfz19_4 := bf_ BK346 4; have hfz19_5 := bf_ BK346 5; have hfz19_6 := bf_ BK346 6; have hfz19_7 := bf_ BK346 7; have hfz19_8 := bf_ BK346 8; have hfz19_9 := bf_ BK346 9) | ((with_reducible refine gate_callee (f := 9) rfl ?_); refine goesL_ (some 15) rfl rfl Try.func9 (by kernel_rfl) rfl #[.agg #[.int .i64 a0_0, .slice A0_1 l0_1.length c0_1, .slice A0_2 l0_2.length c0_2, .int .i64 a0_3, .int .i64 a0_4, .int .i64 a0_5, .int .i64 a0_6, .int .i64 a0_7, .slice A0_8 l0_8.length c0_8, .int .i64 a0_9], .int .i64 1048576] rfl mp_ ?_; (with_reducible refine (laws_szSky.calls a0_0 _ _ l0_1 _ _ l0_2 a0_3 a0_4 a0_5 a0_6 a0_7 _ _ l0_8 a0_9 1048576 t347 _ ?side1 ?side2 ?side3 ?side4 ?side5 ?side6 A5.out).mono ?_); (case side1 => exact ck_ HR0_1 HB); (case side2 => exact HC0_1.out); (case side3 => exact ck_ HR0_2 HB); (case side4 => exact HC0_2.out); (case side5 => exact ck_ HR0_8 HB); (case side6 => exact HC0_8.out); rintro e w20 ⟨rfl, hb⟩; refine ⟨_, rfl, ?_⟩; have n0_ := Aside0.mk (blk_below (bk_ BK346) hb); have n1_ := Aside0.mk (below_step (bl1_ HB GE346) hb); clear BK346; clear HB; have BK346 := n0_; have HB := n1_; clear n0_ n1_; (try clear hb); (try clear hb2); (try clear hk); (try clear hi); have hcz21_0 : w20.cell? ⟨gb346, 0, none⟩ = some (.int .i64 a0_0) := bc_ BK346 0 rfl; have hcz21_1 : w20.cell? ⟨gb346, 1, none⟩ = some (.slice A0_1 l0_1.length c0_1) := bc_ BK346 1 rfl; have hcz21_2 : w20.cell? ⟨gb346, 2, none⟩ = some (.slice A0_2 l0_2.length c0_2) := bc_ BK346 2 rfl; have hcz21_3 : w20.cell? ⟨gb346, 3, none⟩ = some (.int .i64 a0_3) := bc_ BK346 3 rfl; have hcz21_4 : w20.cell? ⟨gb346, 4, none⟩ = some (.int .i64 a0_4) := bc_ BK346 4 rfl; have hcz21_5 : w20.cell? ⟨gb346, 5, none⟩ = some (.int .i64 a0_5) := bc_ BK346 5 rfl; have hcz21_6 : w20.cell? ⟨gb346, 6, none⟩ = some (.int .i64 a0_6) := bc_ BK346 6 rfl; have hcz21_7 : w20.cell? ⟨gb346, 7, none⟩ = some (.int .i64 a0_7) := bc_ BK346 7 rfl; have hcz21_8 : w20.cell? ⟨gb346, 8, none⟩ = some (.slice A0_8 l0_8.length c0_8) := bc_ BK346 8 rfl; have hcz21_9 : w20.cell? ⟨gb346, 9, none⟩ = some (.int .i64 a0_9) := bc_ BK346 9 rfl; have hfz21_0 := bf_ BK346 0; have hfz21_1 := bf_ BK346 1; have hfz21_2 := bf_ BK346 2; have hfz21_3 := bf_ BK346 3; have hfz21_4 := bf_ BK346 4; have hfz21_5 := bf_ BK346 5; have hfz21_6 := bf_ BK346 6; have hfz21_7 := bf_ BK346 7; have hfz21_8 := bf_ BK346 8; have hfz21_9 := bf_ BK346 9) | ((with_reducible refine gate_callee (f := 11) rfl ?_); refine goesL_ (some 19) rfl rfl Try.func11 (by kernel_rfl) rfl #[.agg #[.int .i64 a0_0, .slice A0_1 l0_1.length c0_1, .slice A0_2 l0_2.length c0_2, .int .i64 a0_3, .int .i64 a0_4, .int .i64 a0_5, .int .i64 a0_6, .int .i64 a0_7, .slice A0_8 l0_8.length c0_8, .int .i64 a0_9]] rfl mp_ ?_; (with_reducible refine (laws_toSky.calls k a0_0 _ _ l0_1 _ _ l0_2 a0_3 a0_4 a0_5 a0_6 a0_7 _ _ l0_8 a0_9 t348 t349 t352 t355 t356 t357 t358 t359 t360 t363 _ ?side1 ?side2 ?side3 ?side4 ?side5 ?side6 A10.out).mono ?_); (case side1 => exact ck_ HR0_1 HB); (case side2 => exact HC0_1.out); (case side3 => exact ck_ HR0_2 HB); (case side4 => exact HC0_2.out); (case side5 => exact ck_ HR0_8 HB); (case side6 => exact HC0_8.out); rintro e w22 ⟨v350, v353, v361, rfl, ho0, ho1, ho2, hb⟩; refine ⟨_, rfl, ?_⟩; have n0_ := Aside0.mk (Kd.R_lower ho0 (below_size (bl1_ HB GE346))); have n1_ := Aside0.mk (Kd.R_lower ho1 (below_size (bl1_ HB GE346))); have n2_ := Aside0.mk (Kd.R_lower ho2 (below_size (bl1_ HB GE346))); have n3_ := Aside0.mk (blk_below (bk_ BK346) hb); have n4_ := Aside0.mk (below_step (bl1_ HB GE346) hb); clear BK346; clear HB; have HO351 := n0_; have HO354 := n1_; have HO362 := n2_; have BK346 := n3_; have HB := n4_; clear n0_ n1_ n2_ n3_ n4_; (try clear hb); (try clear hb2); (try clear hk); (try clear hi); (try clear ho0); (try clear ho1); (try clear ho2); obtain ⟨Ao23, co23, eo23⟩ := Kd.R_slice HO351.out; subst eo23; obtain ⟨Ao24, co24, eo24⟩ := Kd.R_slice HO354.out; subst eo24; obtain ⟨Ao25, co25, eo25⟩ := Kd.R_slice HO362.out; subst eo25) | ((with_reducible refine gate_callee (f := 10) rfl ?_); refine goesL_ (some 23) rfl rfl Try.func10 (by kernel_rfl) rfl #[.agg #[.int .i64 t348, .slice Ao23 t349.length co23, .slice Ao24 t352.length co24, .int .i64 t355, .int .i64 t356, .int .i64 t357, .int .i64 t358, .int .i64 t359, .slice Ao25 t360.length co25, .int .i64 t363], .int .i64 a1, .int .i64 a2, .int .i64 a3] rfl mp_ ?_; (with_reducible refine (spec_LongestDark.calls k t348 _ _ t349 _ _ t352 t355 t356 t357 t358 t359 _ _ t360 t363 a1 a2 a3 t364 _ ?side1 ?side2 ?side3 ?side4 ?side5 ?side6 A11.out).mono ?_); (case side1 => repeat (first | exact (Kd.R_reads' HO351.out).2.2 | (with_reducible refine Kd.C_alloc ?_ _) | (with_reducible refine Kd.C_drewN ?_ _) | (with_reducible refine Kd.C_drew ?_))); (case side2 => exact (Kd.R_reads' HO351.out).2.1); (case side3 => repeat (first | exact (Kd.R_reads' HO354.out).2.2 | (with_reducible refine Kd.C_alloc ?_ _) | (with_reducible refine Kd.C_drewN ?_ _) | (with_reducible refine Kd.C_drew ?_))); (case side4 => exact (Kd.R_reads' HO354.out).2.1); (case side5 => repeat (first | exact (Kd.R_reads' HO362.out).2.2 | (with_reducible refine Kd.C_alloc ?_ _) | (with_reducible refine Kd.C_drewN ?_ _) | (with_reducible refine Kd.C_drew ?_))); (case side6 => exact (Kd.R_reads' HO362.out).2.1); rintro e w26 ⟨rfl, hb⟩; refine ⟨_, rfl, ?_⟩; have n0_ := Aside0.mk (Kd.R_below (by (with_reducible repeat (first | apply Kd.R_alloc | apply Kd.R_drewN | apply Kd.R_drew)); exact HO351.out) hb); have n1_ := Aside0.mk (Kd.R_below (by (with_reducible repeat (first | apply Kd.R_alloc | apply Kd.R_drewN | apply Kd.R_drew)); exact HO354.out) hb); have n2_ := Aside0.mk (Kd.R_below (by (with_reducible repeat (first | apply Kd.R_alloc | apply Kd.R_drewN | apply Kd.R_drew)); exact HO362.out) hb); have n3_ := Aside0.mk (blk_below (bk_ BK346) hb); have n4_ := Aside0.mk (below_step (bl1_ HB GE346) hb); clear HO351; clear HO354; clear HO362; clear BK346; clear HB; have HO351 := n0_; have HO354 := n1_; have HO362 := n2_; have BK346 := n3_; have HB := n4_; clear n0_ n1_ n2_ n3_ n4_; (try clear hb); (try clear hb2); (try clear hk); (try clear hi); have hcz27_0 : w26.cell? ⟨gb346, 0, none⟩ = some (.int .i64 a0_0) := bc_ BK346 0 rfl; have hcz27_1 : w26.cell? ⟨gb346, 1, none⟩ = some (.slice A0_1 l0_1.length c0_1) := bc_ BK346 1 rfl; have hcz27_2 : w26.cell? ⟨gb346, 2, none⟩ = some (.slice A0_2 l0_2.length c0_2) := bc_ BK346 2 rfl; have hcz27_3 : w26.cell? ⟨gb346, 3, none⟩ = some (.int .i64 a0_3) := bc_ BK346 3 rfl; have hcz27_4 : w26.cell? ⟨gb346, 4, none⟩ = some (.int .i64 a0_4) := bc_ BK346 4 rfl; have hcz27_5 : w26.cell? ⟨gb346, 5, none⟩ = some (.int .i64 a0_5) := bc_ BK346 5 rfl; have hcz27_6 : w26.cell? ⟨gb346, 6, none⟩ = some (.int .i64 a0_6) := bc_ BK346 6 rfl; have hcz27_7 : w26.cell? ⟨gb346, 7, none⟩ = some (.int .i64 a0_7) := bc_ BK346 7 rfl; have hcz27_8 : w26.cell? ⟨gb346, 8, none⟩ = some (.slice A0_8 l0_8.length c0_8) := bc_ BK346 8 rfl; have hcz27_9 : w26.cell? ⟨gb346, 9, none⟩ = some (.int .i64 a0_9) := bc_ BK346 9 rfl; have hfz27_0 := bf_ BK346 0; have hfz27_1 := bf_ BK346 1; have hfz27_2 := bf_ BK346 2; have hfz27_3 := bf_ BK346 3; have hfz27_4 := bf_ BK346 4; have hfz27_5 := bf_ BK346 5; have hfz27_6 := bf_ BK346 6; have hfz27_7 := bf_ BK346 7; have hfz27_8 := bf_ BK346 8; have hfz27_9 := bf_ BK346 9) | ((with_reducible refine gate_callee (f := 11) rfl ?_); refine goesL_ (some 25) rfl rfl Try.func11 (by kernel_rfl) rfl #[.agg #[.int .i64 a0_0, .slice A0_1 l0_1.length c0_1, .slice A0_2 l0_2.length c0_2, .int .i64 a0_3, .int .i64 a0_4, .int .i64 a0_5, .int .i64 a0_6, .int .i64 a0_7, .slice A0_8 l0_8.length c0_8, .int .i64 a0_9]] rfl mp_ ?_; (with_reducible refine (laws_toSky.calls k a0_0 _ _ l0_1 _ _ l0_2 a0_3 a0_4 a0_5 a0_6 a0_7 _ _ l0_8 a0_9 t365 t366 t369 t372 t373 t374 t375 t376 t377 t380 _ ?side1 ?side2 ?side3 ?side4 ?side5 ?side6 A12.out).mono ?_); (case side1 => exact ck_ HR0_1 HB); (case side2 => exact HC0_1.out); (case side3 => exact ck_ HR0_2 HB); (case side4 => exact HC0_2.out); (case side5 => exact ck_ HR0_8 HB); (case side6 => exact HC0_8.out); rintro e w28 ⟨v367, v370, v378, rfl, ho0, ho1, ho2, hb⟩; refine ⟨_, rfl, ?_⟩; have n0_ := Aside0.mk (Kd.R_elder' (by (with_reducible repeat (first | apply Kd.R_alloc | apply Kd.R_drewN | apply Kd.R_drew)); exact HO351.out) (Kd.R_base ho0) hb); have n1_ := Aside0.mk (Kd.R_elder' (by (with_reducible repeat (first | apply Kd.R_alloc | apply Kd.R_drewN | apply Kd.R_drew)); exact HO354.out) (Kd.R_base ho1) hb); have n2_ := Aside0.mk (Kd.R_elder' (by (with_reducible repeat (first | apply Kd.R_alloc | apply Kd.R_drewN | apply Kd.R_drew)); exact HO362.out) (Kd.R_base ho2) hb); have n3_ := Aside0.mk (Kd.R_lower (Kd.R_new' ho0 (Kd.R_lt (by (with_reducible repeat (first | apply Kd.R_alloc | apply Kd.R_drewN | apply Kd.R_drew)); exact HO351.out))) (below_size (bl1_ HB GE346))); have n4_ := Aside0.mk (Kd.R_lower (Kd.R_new' ho1 (Kd.R_lt (by (with_reducible repeat (first | apply Kd.R_alloc | apply Kd.R_drewN | apply Kd.R_drew)); exact HO354.out))) (below_size (bl1_ HB GE346))); have n5_ := Aside0.mk (Kd.R_lower (Kd.R_new' ho2 (Kd.R_lt (by (with_reducible repeat (first | apply Kd.R_alloc | apply Kd.R_drewN | apply Kd.R_drew)); exact HO362.out))) (below_size (bl1_ HB GE346))); have n6_ := Aside0.mk (blk_below (bk_ BK346) hb); have n7_ := Aside0.mk (below_step (bl1_ HB GE346) hb); clear HO351; clear HO354; clear HO362; clear BK346; clear HB; have HO351 := n0_; have HO354 := n1_; have HO362 := n2_; have HO368 := n3_; have HO371 := n4_; have HO379 := n5_; have BK346 := n6_; have HB := n7_; clear n0_ n1_ n2_ n3_ n4_ n5_ n6_ n7_; (try clear hb); (try clear hb2); (try clear hk); (try clear hi); (try clear ho0); (try clear ho1); (try clear ho2)) | ((with_reducible refine gate_dst (N := 11) rfl ?_); refine box_event ?hg (N := 11) ?hd (cs := #[.int .i64 0, .slice none 0 0, .slice none 0 0, .int .i64 0, .int .i64 0, .int .i64 0, .int .i64 0, .int .i64 0, .slice none 0 0, .int .i64 0]) (t := 33) ?hr ?_; (case hd => rfl); (case hg => rfl); (case hr => first | (go_simp; done) | (go_simp; rfl)); intro gb381 hg w29 hbox hb; have n0_ := Aside0.mk (Kd.R_below (by (with_reducible repeat (first | apply Kd.R_alloc | apply Kd.R_drewN | apply Kd.R_drew)); exact HO351.out) hb); have n1_ := Aside0.mk (Kd.R_below (by (with_reducible repeat (first | apply Kd.R_alloc | apply Kd.R_drewN | apply Kd.R_drew)); exact HO354.out) hb); have n2_ := Aside0.mk (Kd.R_below (by (with_reducible repeat (first | apply Kd.R_alloc | apply Kd.R_drewN | apply Kd.R_drew)); exact HO362.out) hb); have n3_ := Aside0.mk (Kd.R_below (by (with_reducible repeat (first | apply Kd.R_alloc | apply Kd.R_drewN | apply Kd.R_drew)); exact HO368.out) hb); have n4_ := Aside0.mk (Kd.R_below (by (with_reducible repeat (first | apply Kd.R_alloc | apply Kd.R_drewN | apply Kd.R_drew)); exact HO371.out) hb); have n5_ := Aside0.mk (Kd.R_below (by (with_reducible repeat (first | apply Kd.R_alloc | apply Kd.R_drewN | apply Kd.R_drew)); exact HO379.out) hb); have n6_ := Aside0.mk (blk_below (bk_ BK346) hb); have n7_ := Aside0.mk (below_step (bl1_ HB GE346) hb); have n8_ := Aside0.mk (hbox); have n9_ := Aside0.mk ((by rw [hg]; exact (below_size (bl1_ HB GE346)) : w.heap.size ≤ gb381)); have n10_ := Aside0.mk ((by rw [hg]; exact (below_size (bl1_ HB GE346)) : w.heap.size ≤ gb381)); have n11_ := Aside0.mk ((by rw [hg]; exact Nat.ne_of_lt (blk_lt (bk_ BK346)) : gb346 ≠ gb381)); have n12_ := Aside0.mk ((by rw [hg]; exact Nat.ne_of_gt (blk_lt (bk_ BK346)) : gb381 ≠ gb346)); clear HO351; clear HO354; clear HO362; clear HO368; clear HO371; clear HO379; clear BK346; clear HB; have HO351 := n0_; have HO354 := n1_; have HO362 := n2_; have HO368 := n3_; have HO371 := n4_; have HO379 := n5_; have BK346 := n6_; have HB := n7_; have BK381 := n8_; have GW381 := n9_; have GE381 := n10_; have NB346_381 := n11_; have NB381_346 := n12_; clear n0_ n1_ n2_ n3_ n4_ n5_ n6_ n7_ n8_ n9_ n10_ n11_ n12_; clear hb hbox hg; have hnb30 := NB381_346.out; have hnc30 := NB346_381.out; have hcz31_0 : w29.cell? ⟨gb381, 0, none⟩ = some (.int .i64 0) := bc_ BK381 0 rfl; have hcz31_1 : w29.cell? ⟨gb381, 1, none⟩ = some (.slice none 0 0) := bc_ BK381 1 rfl; have hcz31_2 : w29.cell? ⟨gb381, 2, none⟩ = some (.slice none 0 0) := bc_ BK381 2 rfl; have hcz31_3 : w29.cell? ⟨gb381, 3, none⟩ = some (.int .i64 0) := bc_ BK381 3 rfl; have hcz31_4 : w29.cell? ⟨gb381, 4, none⟩ = some (.int .i64 0) := bc_ BK381 4 rfl; have hcz31_5 : w29.cell? ⟨gb381, 5, none⟩ = some (.int .i64 0) := bc_ BK381 5 rfl; have hcz31_6 : w29.cell? ⟨gb381, 6, none⟩ = some (.int .i64 0) := bc_ BK381 6 rfl; have hcz31_7 : w29.cell? ⟨gb381, 7, none⟩ = some (.int .i64 0) := bc_ BK381 7 rfl; have hcz31_8 : w29.cell? ⟨gb381, 8, none⟩ = some (.slice none 0 0) := bc_ BK381 8 rfl; have hcz31_9 : w29.cell? ⟨gb381, 9, none⟩ = some (.int .i64 0) := bc_ BK381 9 rfl; have hfz31_0 := bf_ BK381 0; have hfz31_1 := bf_ BK381 1; have hfz31_2 := bf_ BK381 2; have hfz31_3 := bf_ BK381 3; have hfz31_4 := bf_ BK381 4; have hfz31_5 := bf_ BK381 5; have hfz31_6 := bf_ BK381 6; have hfz31_7 := bf_ BK381 7; have hfz31_8 := bf_ BK381 8; have hfz31_9 := bf_ BK381 9; obtain ⟨Ao32, co32, eo32⟩ := Kd.R_slice HO368.out; subst eo32; obtain ⟨Ao33, co33, eo33⟩ := Kd.R_slice HO371.out; subst eo33; obtain ⟨Ao34, co34, eo34⟩ := Kd.R_slice HO379.out; subst eo34) | ((with_reducible refine gate_callee (f := 12) rfl ?_); refine goesL_ (some 30) rfl rfl Try.func12 (by kernel_rfl) rfl #[.agg #[.int .i64 t365, .slice Ao32 t366.length co32, .slice Ao33 t369.length co33, .int .i64 t372, .int .i64 t373, .int .i64 t374, .int .i64 t375, .int .i64 t376, .slice Ao34 t377.length co34, .int .i64 t380], .int .i64 a1, .int .i64 a2, .int .i64 a3] rfl mp_ ?_; (with_reducible refine (impl_LongestDark.calls k t365 _ _ t366 _ _ t369 t372 t373 t374 t375 t376 _ _ t377 t380 a1 a2 a3 t382 _ ?side1 ?side2 ?side3 ?side4 ?side5 ?side6 A13.out).mono ?_); (case side1 => refine (Kd.R_reads' (e := 71) (base := w.heap.size) (ok := fun k_ => (True ∧ some k_ ≠ (.slice Ao23 t349.length co23 : Value).ownBlock)) (n := t366.length) (c := co32) ?_).2.2; exact (by (with_reducible repeat (first | apply Kd.R_alloc | apply Kd.R_drewN | apply Kd.R_drew)); exact (Kd.R_mono (Kd.R_far (p := ⟨gb381, 9, none⟩) (Kd.R_far (p := ⟨gb381, 8, none⟩) (Kd.R_far (p := ⟨gb381, 7, none⟩) (Kd.R_far (p := ⟨gb381, 6, none⟩) (Kd.R_far (p := ⟨gb381, 5, none⟩) (Kd.R_far (p := ⟨gb381, 4, none⟩) (Kd.R_far (p := ⟨gb381, 3, none⟩) (Kd.R_far (p := ⟨gb381, 2, none⟩) (Kd.R_far (p := ⟨gb381, 1, none⟩) (Kd.R_far (p := ⟨gb381, 0, none⟩) (Kd.R_types HO368.out BK381.out (by decide)) (fun _ hk => hk.2) (.int .i64 t365)) (fun _ hk => hk.2) (.slice Ao32 t366.length co32)) (fun _ hk => hk.2) (.slice Ao33 t369.length co33)) (fun _ hk => hk.2) (.int .i64 t372)) (fun _ hk => hk.2) (.int .i64 t373)) (fun _ hk => hk.2) (.int .i64 t374)) (fun _ hk => hk.2) (.int .i64 t375)) (fun _ hk => hk.2) (.int .i64 t376)) (fun _ hk => hk.2) (.slice Ao34 t377.length co34)) (fun _ hk => hk.2) (.int .i64 t380)) (fun _ h_ => h_.1)))); (case side2 => exact (Kd.R_reads' HO368.out).2.1); (case side3 => refine (Kd.R_reads' (e := 75) (base := w.heap.size) (ok := fun k_ => (True ∧ some k_ ≠ (.slice Ao24 t352.length co24 : Value).ownBlock)) (n := t369.length) (c := co33) ?_).2.2; exact (by (with_reducible repeat (first | apply Kd.R_alloc | apply Kd.R_drewN | apply Kd.R_drew)); exact (Kd.R_mono (Kd.R_far (p := ⟨gb381, 9, none⟩) (Kd.R_far (p := ⟨gb381, 8, none⟩) (Kd.R_far (p := ⟨gb381, 7, none⟩) (Kd.R_far (p := ⟨gb381, 6, none⟩) (Kd.R_far (p := ⟨gb381, 5, none⟩) (Kd.R_far (p := ⟨gb381, 4, none⟩) (Kd.R_far (p := ⟨gb381, 3, none⟩) (Kd.R_far (p := ⟨gb381, 2, none⟩) (Kd.R_far (p := ⟨gb381, 1, none⟩) (Kd.R_far (p := ⟨gb381, 0, none⟩) (Kd.R_types HO371.out BK381.out (by decide)) (fun _ hk => hk.2) (.int .i64 t365)) (fun _ hk => hk.2) (.slice Ao32 t366.length co32)) (fun _ hk => hk.2) (.slice Ao33 t369.length co33)) (fun _ hk => hk.2) (.int .i64 t372)) (fun _ hk => hk.2) (.int .i64 t373)) (fun _ hk => hk.2) (.int .i64 t374)) (fun _ hk => hk.2) (.int .i64 t375)) (fun _ hk => hk.2) (.int .i64 t376)) (fun _ hk => hk.2) (.slice Ao34 t377.length co34)) (fun _ hk => hk.2) (.int .i64 t380)) (fun _ h_ => h_.1)))); (case side4 => exact (Kd.R_reads' HO371.out).2.1); (case side5 => refine (Kd.R_reads' (e := 81) (base := w.heap.size) (ok := fun k_ => (True ∧ some k_ ≠ (.slice Ao25 t360.length co25 : Value).ownBlock)) (n := t377.length) (c := co34) ?_).2.2; exact (by (with_reducible repeat (first | apply Kd.R_alloc | apply Kd.R_drewN | apply Kd.R_drew)); exact (Kd.R_mono (Kd.R_far (p := ⟨gb381, 9, none⟩) (Kd.R_far (p := ⟨gb381, 8, none⟩) (Kd.R_far (p := ⟨gb381, 7, none⟩) (Kd.R_far (p := ⟨gb381, 6, none⟩) (Kd.R_far (p := ⟨gb381, 5, none⟩) (Kd.R_far (p := ⟨gb381, 4, none⟩) (Kd.R_far (p := ⟨gb381, 3, none⟩) (Kd.R_far (p := ⟨gb381, 2, none⟩) (Kd.R_far (p := ⟨gb381, 1, none⟩) (Kd.R_far (p := ⟨gb381, 0, none⟩) (Kd.R_types HO379.out BK381.out (by decide)) (fun _ hk => hk.2) (.int .i64 t365)) (fun _ hk => hk.2) (.slice Ao32 t366.length co32)) (fun _ hk => hk.2) (.slice Ao33 t369.length co33)) (fun _ hk => hk.2) (.int .i64 t372)) (fun _ hk => hk.2) (.int .i64 t373)) (fun _ hk => hk.2) (.int .i64 t374)) (fun _ hk => hk.2) (.int .i64 t375)) (fun _ hk => hk.2) (.int .i64 t376)) (fun _ hk => hk.2) (.slice Ao34 t377.length co34)) (fun _ hk => hk.2) (.int .i64 t380)) (fun _ h_ => h_.1)))); (case side6 => exact (Kd.R_reads' HO379.out).2.1); rintro e w35 ⟨rfl, hb⟩; refine ⟨_, rfl, ?_⟩; have n0_ := Aside0.mk (Kd.R_below (by (with_reducible repeat (first | apply Kd.R_alloc | apply Kd.R_drewN | apply Kd.R_drew)); exact (Kd.R_mono (Kd.R_far (p := ⟨gb381, 9, none⟩) (Kd.R_far (p := ⟨gb381, 8, none⟩) (Kd.R_far (p := ⟨gb381, 7, none⟩) (Kd.R_far (p := ⟨gb381, 6, none⟩) (Kd.R_far (p := ⟨gb381, 5, none⟩) (Kd.R_far (p := ⟨gb381, 4, none⟩) (Kd.R_far (p := ⟨gb381, 3, none⟩) (Kd.R_far (p := ⟨gb381, 2, none⟩) (Kd.R_far (p := ⟨gb381, 1, none⟩) (Kd.R_far (p := ⟨gb381, 0, none⟩) (Kd.R_types HO351.out BK381.out (by decide)) (fun _ hk => hk.2) (.int .i64 t365)) (fun _ hk => hk.2) (.slice Ao32 t366.length co32)) (fun _ hk => hk.2) (.slice Ao33 t369.length co33)) (fun _ hk => hk.2) (.int .i64 t372)) (fun _ hk => hk.2) (.int .i64 t373)) (fun _ hk => hk.2) (.int .i64 t374)) (fun _ hk => hk.2) (.int .i64 t375)) (fun _ hk => hk.2) (.int .i64 t376)) (fun _ hk => hk.2) (.slice Ao34 t377.length co34)) (fun _ hk => hk.2) (.int .i64 t380)) (fun _ h_ => h_.1))) hb); have n1_ := Aside0.mk (Kd.R_below (by (with_reducible repeat (first | apply Kd.R_alloc | apply Kd.R_drewN | apply Kd.R_drew)); exact (Kd.R_mono (Kd.R_far (p := ⟨gb381, 9, none⟩) (Kd.R_far (p := ⟨gb381, 8, none⟩) (Kd.R_far (p := ⟨gb381, 7, none⟩) (Kd.R_far (p := ⟨gb381, 6, none⟩) (Kd.R_far (p := ⟨gb381, 5, none⟩) (Kd.R_far (p := ⟨gb381, 4, none⟩) (Kd.R_far (p := ⟨gb381, 3, none⟩) (Kd.R_far (p := ⟨gb381, 2, none⟩) (Kd.R_far (p := ⟨gb381, 1, none⟩) (Kd.R_far (p := ⟨gb381, 0, none⟩) (Kd.R_types HO354.out BK381.out (by decide)) (fun _ hk => hk.2) (.int .i64 t365)) (fun _ hk => hk.2) (.slice Ao32 t366.length co32)) (fun _ hk => hk.2) (.slice Ao33 t369.length co33)) (fun _ hk => hk.2) (.int .i64 t372)) (fun _ hk => hk.2) (.int .i64 t373)) (fun _ hk => hk.2) (.int .i64 t374)) (fun _ hk => hk.2) (.int .i64 t375)) (fun _ hk => hk.2) (.int .i64 t376)) (fun _ hk => hk.2) (.slice Ao34 t377.length co34)) (fun _ hk => hk.2) (.int .i64 t380)) (fun _ h_ => h_.1))) hb); have n2_ := Aside0.mk (Kd.R_below (by (with_reducible repeat (first | apply Kd.R_alloc | apply Kd.R_drewN | apply Kd.R_drew)); exact (Kd.R_mono (Kd.R_far (p := ⟨gb381, 9, none⟩) (Kd.R_far (p := ⟨gb381, 8, none⟩) (Kd.R_far (p := ⟨gb381, 7, none⟩) (Kd.R_far (p := ⟨gb381, 6, none⟩) (Kd.R_far (p := ⟨gb381, 5, none⟩) (Kd.R_far (p := ⟨gb381, 4, none⟩) (Kd.R_far (p := ⟨gb381, 3, none⟩) (Kd.R_far (p := ⟨gb381, 2, none⟩) (Kd.R_far (p := ⟨gb381, 1, none⟩) (Kd.R_far (p := ⟨gb381, 0, none⟩) (Kd.R_types HO362.out BK381.out (by decide)) (fun _ hk => hk.2) (.int .i64 t365)) (fun _ hk => hk.2) (.slice Ao32 t366.length co32)) (fun _ hk => hk.2) (.slice Ao33 t369.length co33)) (fun _ hk => hk.2) (.int .i64 t372)) (fun _ hk => hk.2) (.int .i64 t373)) (fun _ hk => hk.2) (.int .i64 t374)) (fun _ hk => hk.2) (.int .i64 t375)) (fun _ hk => hk.2) (.int .i64 t376)) (fun _ hk => hk.2) (.slice Ao34 t377.length co34)) (fun _ hk => hk.2) (.int .i64 t380)) (fun _ h_ => h_.1))) hb); have n3_ := Aside0.mk (Kd.R_below (by (with_reducible repeat (first | apply Kd.R_alloc | apply Kd.R_drewN | apply Kd.R_drew)); exact (Kd.R_mono (Kd.R_far (p := ⟨gb381, 9, none⟩) (Kd.R_far (p := ⟨gb381, 8, none⟩) (Kd.R_far (p := ⟨gb381, 7, none⟩) (Kd.R_far (p := ⟨gb381, 6, none⟩) (Kd.R_far (p := ⟨gb381, 5, none⟩) (Kd.R_far (p := ⟨gb381, 4, none⟩) (Kd.R_far (p := ⟨gb381, 3, none⟩) (Kd.R_far (p := ⟨gb381, 2, none⟩) (Kd.R_far (p := ⟨gb381, 1, none⟩) (Kd.R_far (p := ⟨gb381, 0, none⟩) (Kd.R_types HO368.out BK381.out (by decide)) (fun _ hk => hk.2) (.int .i64 t365)) (fun _ hk => hk.2) (.slice Ao32 t366.length co32)) (fun _ hk => hk.2) (.slice Ao33 t369.length co33)) (fun _ hk => hk.2) (.int .i64 t372)) (fun _ hk => hk.2) (.int .i64 t373)) (fun _ hk => hk.2) (.int .i64 t374)) (fun _ hk => hk.2) (.int .i64 t375)) (fun _ hk => hk.2) (.int .i64 t376)) (fun _ hk => hk.2) (.slice Ao34 t377.length co34)) (fun _ hk => hk.2) (.int .i64 t380)) (fun _ h_ => h_.1))) hb); have n4_ := Aside0.mk (Kd.R_below (by (with_reducible repeat (first | apply Kd.R_alloc | apply Kd.R_drewN | apply Kd.R_drew)); exact (Kd.R_mono (Kd.R_far (p := ⟨gb381, 9, none⟩) (Kd.R_far (p := ⟨gb381, 8, none⟩) (Kd.R_far (p := ⟨gb381, 7, none⟩) (Kd.R_far (p := ⟨gb381, 6, none⟩) (Kd.R_far (p := ⟨gb381, 5, none⟩) (Kd.R_far (p := ⟨gb381, 4, none⟩) (Kd.R_far (p := ⟨gb381, 3, none⟩) (Kd.R_far (p := ⟨gb381, 2, none⟩) (Kd.R_far (p := ⟨gb381, 1, none⟩) (Kd.R_far (p := ⟨gb381, 0, none⟩) (Kd.R_types HO371.out BK381.out (by decide)) (fun _ hk => hk.2) (.int .i64 t365)) (fun _ hk => hk.2) (.slice Ao32 t366.length co32)) (fun _ hk => hk.2) (.slice Ao33 t369.length co33)) (fun _ hk => hk.2) (.int .i64 t372)) (fun _ hk => hk.2) (.int .i64 t373)) (fun _ hk => hk.2) (.int .i64 t374)) (fun _ hk => hk.2) (.int .i64 t375)) (fun _ hk => hk.2) (.int .i64 t376)) (fun _ hk => hk.2) (.slice Ao34 t377.length co34)) (fun _ hk => hk.2) (.int .i64 t380)) (fun _ h_ => h_.1))) hb); have n5_ := Aside0.mk (Kd.R_below (by (with_reducible repeat (first | apply Kd.R_alloc | apply Kd.R_drewN | apply Kd.R_drew)); exact (Kd.R_mono (Kd.R_far (p := ⟨gb381, 9, none⟩) (Kd.R_far (p := ⟨gb381, 8, none⟩) (Kd.R_far (p := ⟨gb381, 7, none⟩) (Kd.R_far (p := ⟨gb381, 6, none⟩) (Kd.R_far (p := ⟨gb381, 5, none⟩) (Kd.R_far (p := ⟨gb381, 4, none⟩) (Kd.R_far (p := ⟨gb381, 3, none⟩) (Kd.R_far (p := ⟨gb381, 2, none⟩) (Kd.R_far (p := ⟨gb381, 1, none⟩) (Kd.R_far (p := ⟨gb381, 0, none⟩) (Kd.R_types HO379.out BK381.out (by decide)) (fun _ hk => hk.2) (.int .i64 t365)) (fun _ hk => hk.2) (.slice Ao32 t366.length co32)) (fun _ hk => hk.2) (.slice Ao33 t369.length co33)) (fun _ hk => hk.2) (.int .i64 t372)) (fun _ hk => hk.2) (.int .i64 t373)) (fun _ hk => hk.2) (.int .i64 t374)) (fun _ hk => hk.2) (.int .i64 t375)) (fun _ hk => hk.2) (.int .i64 t376)) (fun _ hk => hk.2) (.slice Ao34 t377.length co34)) (fun _ hk => hk.2) (.int .i64 t380)) (fun _ h_ => h_.1))) hb); have n6_ := Aside0.mk (blk_below (g := gb346) (o := .cells #[.int .i64 a0_0, .slice A0_1 l0_1.length c0_1, .slice A0_2 l0_2.length c0_2, .int .i64 a0_3, .int .i64 a0_4, .int .i64 a0_5, .int .i64 a0_6, .int .i64 a0_7, .slice A0_8 l0_8.length c0_8, .int .i64 a0_9] 26 (0, 0)) (by (with_reducible repeat (first | refine blk_drewN ?_ _ | refine blk_drew ?_ | refine blk_alloc ?_ _)); refine blk_far ?_ NB346_381.out _; (with_reducible repeat (first | refine blk_drewN ?_ _ | refine blk_drew ?_ | refine blk_alloc ?_ _)); refine blk_far ?_ NB346_381.out _; (with_reducible repeat (first | refine blk_drewN ?_ _ | refine blk_drew ?_ | refine blk_alloc ?_ _)); refine blk_far ?_ NB346_381.out _; (with_reducible repeat (first | refine blk_drewN ?_ _ | refine blk_drew ?_ | refine blk_alloc ?_ _)); refine blk_far ?_ NB346_381.out _; (with_reducible repeat (first | refine blk_drewN ?_ _ | refine blk_drew ?_ | refine blk_alloc ?_ _)); refine blk_far ?_ NB346_381.out _; (with_reducible repeat (first | refine blk_drewN ?_ _ | refine blk_drew ?_ | refine blk_alloc ?_ _)); refine blk_far ?_ NB346_381.out _; (with_reducible repeat (first | refine blk_drewN ?_ _ | refine blk_drew ?_ | refine blk_alloc ?_ _)); refine blk_far ?_ NB346_381.out _; (with_reducible repeat (first | refine blk_drewN ?_ _ | refine blk_drew ?_ | refine blk_alloc ?_ _)); refine blk_far ?_ NB346_381.out _; (with_reducible repeat (first | refine blk_drewN ?_ _ | refine blk_drew ?_ | refine blk_alloc ?_ _)); refine blk_far ?_ NB346_381.out _; (with_reducible repeat (first | refine blk_drewN ?_ _ | refine blk_drew ?_ | refine blk_alloc ?_ _)); refine blk_far ?_ NB346_381.out _; (with_reducible repeat (first | refine blk_drewN ?_ _ | refine blk_drew ?_ | refine blk_alloc ?_ _)); exact BK346.out) hb); have n7_ := Aside0.mk (blk_below (g := gb381) (o := .cells #[.int .i64 t365, .slice Ao32 t366.length co32, .slice Ao33 t369.length co33, .int .i64 t372, .int .i64 t373, .int .i64 t374, .int .i64 t375, .int .i64 t376, .slice Ao34 t377.length co34, .int .i64 t380] 33 (0, 0)) (by (with_reducible repeat (first | refine blk_drewN ?_ _ | refine blk_drew ?_ | refine blk_alloc ?_ _)); refine blk_put (cs := #[.int .i64 t365, .slice Ao32 t366.length co32, .slice Ao33 t369.length co33, .int .i64 t372, .int .i64 t373, .int .i64 t374, .int .i64 t375, .int .i64 t376, .slice Ao34 t377.length co34, .int .i64 0]) ?_ 9 _ rfl; (with_reducible repeat (first | refine blk_drewN ?_ _ | refine blk_drew ?_ | refine blk_alloc ?_ _)); refine blk_put (cs := #[.int .i64 t365, .slice Ao32 t366.length co32, .slice Ao33 t369.length co33, .int .i64 t372, .int .i64 t373, .int .i64 t374, .int .i64 t375, .int .i64 t376, .slice none 0 0, .int .i64 0]) ?_ 8 _ rfl; (with_reducible repeat (first | refine blk_drewN ?_ _ | refine blk_drew ?_ | refine blk_alloc ?_ _)); refine blk_put (cs := #[.int .i64 t365, .slice Ao32 t366.length co32, .slice Ao33 t369.length co33, .int .i64 t372, .int .i64 t373, .int .i64 t374, .int .i64 t375, .int .i64 0, .slice none 0 0, .int .i64 0]) ?_ 7 _ rfl; (with_reducible repeat (first | refine blk_drewN ?_ _ | refine blk_drew ?_ | refine blk_alloc ?_ _)); refine blk_put (cs := #[.int .i64 t365, .slice Ao32 t366.length co32, .slice Ao33 t369.length co33, .int .i64 t372, .int .i64 t373, .int .i64 t374, .int .i64 0, .int .i64 0, .slice none 0 0, .int .i64 0]) ?_ 6 _ rfl; (with_reducible repeat (first | refine blk_drewN ?_ _ | refine blk_drew ?_ | refine blk_alloc ?_ _)); refine blk_put (cs := #[.int .i64 t365, .slice Ao32 t366.length co32, .slice Ao33 t369.length co33, .int .i64 t372, .int .i64 t373, .int .i64 0, .int .i64 0, .int .i64 0, .slice none 0 0, .int .i64 0]) ?_ 5 _ rfl; (with_reducible repeat (first | refine blk_drewN ?_ _ | refine blk_drew ?_ | refine blk_alloc ?_ _)); refine blk_put (cs := #[.int .i64 t365, .slice Ao32 t366.length co32, .slice Ao33 t369.length co33, .int .i64 t372, .int .i64 0, .int .i64 0, .int .i64 0, .int .i64 0, .slice none 0 0, .int .i64 0]) ?_ 4 _ rfl; (with_reducible repeat (first | refine blk_drewN ?_ _ | refine blk_drew ?_ | refine blk_alloc ?_ _)); refine blk_put (cs := #[.int .i64 t365, .slice Ao32 t366.length co32, .slice Ao33 t369.length co33, .int .i64 0, .int .i64 0, .int .i64 0, .int .i64 0, .int .i64 0, .slice none 0 0, .int .i64 0]) ?_ 3 _ rfl; (with_reducible repeat (first | refine blk_drewN ?_ _ | refine blk_drew ?_ | refine blk_alloc ?_ _)); refine blk_put (cs := #[.int .i64 t365, .slice Ao32 t366.length co32, .slice none 0 0, .int .i64 0, .int .i64 0, .int .i64 0, .int .i64 0, .int .i64 0, .slice none 0 0, .int .i64 0]) ?_ 2 _ rfl; (with_reducible repeat (first | refine blk_drewN ?_ _ | refine blk_drew ?_ | refine blk_alloc ?_ _)); refine blk_put (cs := #[.int .i64 t365, .slice none 0 0, .slice none 0 0, .int .i64 0, .int .i64 0, .int .i64 0, .int .i64 0, .int .i64 0, .slice none 0 0, .int .i64 0]) ?_ 1 _ rfl; (with_reducible repeat (first | refine blk_drewN ?_ _ | refine blk_drew ?_ | refine blk_alloc ?_ _)); refine blk_put (cs := #[.int .i64 0, .slice none 0 0, .slice none 0 0, .int .i64 0, .int .i64 0, .int .i64 0, .int .i64 0, .int .i64 0, .slice none 0 0, .int .i64 0]) ?_ 0 _ rfl; (with_reducible repeat (first | refine blk_drewN ?_ _ | refine blk_drew ?_ | refine blk_alloc ?_ _)); exact BK381.out) hb); have n8_ := Aside0.mk (below_step (bl2_ HB GE346 GE381) hb); clear HO351; clear HO354; clear HO362; clear HO368; clear HO371; clear HO379; clear BK346; clear BK381; clear HB; have HO351 := n0_; have HO354 := n1_; have HO362 := n2_; have HO368 := n3_; have HO371 := n4_; have HO379 := n5_; have BK346 := n6_; have BK381 := n7_; have HB := n8_; clear n0_ n1_ n2_ n3_ n4_ n5_ n6_ n7_ n8_; (try clear hb); (try clear hb2); (try clear hk); (try clear hi)))
    have n0_ := Aside0.mk (Kd.R_drew HO351.out)
    have n1_ := Aside0.mk (Kd.R_drew HO354.out)
    have n2_ := Aside0.mk (Kd.R_drew HO362.out)
    have n3_ := Aside0.mk (Kd.R_drew HO368.out)
    have n4_ := Aside0.mk (Kd.R_drew HO371.out)
    have n5_ := Aside0.mk (Kd.R_drew HO379.out)
    have n6_ := Aside0.mk (blk_drew BK346.out)
    have n7_ := Aside0.mk (blk_drew BK381.out)
    have n8_ := Aside0.mk (below_drew1 HB.out)
    clear HO351
    clear HO354
    clear HO362
    clear HO368
    clear HO371
    clear HO379
    clear BK346
    clear BK381
    clear HB
    have HO351 := n0_
    have HO354 := n1_
    have HO362 := n2_
    have HO368 := n3_
    have HO371 := n4_
    have HO379 := n5_
    have BK346 := n6_
    have BK381 := n7_
    have HB := n8_
    clear n0_ n1_ n2_ n3_ n4_ n5_ n6_ n7_ n8_
    refine start_ (n := 5) (S := fun w' => w'.cell? ⟨gb381, 0, none⟩ = some (.int .i64 t365) ∧ w'.cell? ⟨gb381, 1, none⟩ = some (.slice Ao32 t366.length co32) ∧ w'.cell? ⟨gb381, 2, none⟩ = some (.slice Ao33 t369.length co33) ∧ w'.cell? ⟨gb381, 3, none⟩ = some (.int .i64 t372) ∧ w'.cell? ⟨gb381, 4, none⟩ = some (.int .i64 t373) ∧ w'.cell? ⟨gb381, 5, none⟩ = some (.int .i64 t374) ∧ w'.cell? ⟨gb381, 6, none⟩ = some (.int .i64 t375) ∧ w'.cell? ⟨gb381, 7, none⟩ = some (.int .i64 t376) ∧ w'.cell? ⟨gb381, 8, none⟩ = some (.slice Ao34 t377.length co34) ∧ w'.cell? ⟨gb381, 9, none⟩ = some (.int .i64 t380) ∧ w'.cell? ⟨gb346, 0, none⟩ = some (.int .i64 a0_0) ∧ w'.cell? ⟨gb346, 1, none⟩ = some (.slice A0_1 l0_1.length c0_1) ∧ w'.cell? ⟨gb346, 2, none⟩ = some (.slice A0_2 l0_2.length c0_2) ∧ w'.cell? ⟨gb346, 3, none⟩ = some (.int .i64 a0_3) ∧ w'.cell? ⟨gb346, 4, none⟩ = some (.int .i64 a0_4) ∧ w'.cell? ⟨gb346, 5, none⟩ = some (.int .i64 a0_5) ∧ w'.cell? ⟨gb346, 6, none⟩ = some (.int .i64 a0_6) ∧ w'.cell? ⟨gb346, 7, none⟩ = some (.int .i64 a0_7) ∧ w'.cell? ⟨gb346, 8, none⟩ = some (.slice A0_8 l0_8.length c0_8) ∧ w'.cell? ⟨gb346, 9, none⟩ = some (.int .i64 a0_9)) (ds := []) #[false, false, false, false, false] (by kernel_rfl) rfl rfl ⟨(bc_ BK381 0 rfl), (bc_ BK381 1 rfl), (bc_ BK381 2 rfl), (bc_ BK381 3 rfl), (bc_ BK381 4 rfl), (bc_ BK381 5 rfl), (bc_ BK381 6 rfl), (bc_ BK381 7 rfl), (bc_ BK381 8 rfl), (bc_ BK381 9 rfl), (bc_ BK346 0 rfl), (bc_ BK346 1 rfl), (bc_ BK346 2 rfl), (bc_ BK346 3 rfl), (bc_ BK346 4 rfl), (bc_ BK346 5 rfl), (bc_ BK346 6 rfl), (bc_ BK346 7 rfl), (bc_ BK346 8 rfl), (bc_ BK346 9 rfl)⟩ (fun hHeld => ?_)
    generalize w35.drew = w36 at HO351 HO354 HO362 HO368 HO371 HO379 BK346 BK381 HB hHeld ⊢
    refine take_ (i := 0) (N := some 34) (v := ?_) (a' := ?_) #[true, false, false, false, false] rfl rfl (by kernel_rfl) (fun _ _ _ h => h) (Or.inl ⟨by rfl, ?_⟩) hHeld ?_ ?_
    rotate_left
    ·rintro w' ⟨s0, s1, s2, s3, s4, s5, s6, s7, s8, s9, s10, s11, s12, s13, s14, s15, s16, s17, s18, s19⟩
     go_simp
     with_reducible rfl
    rotate_left
    ·simp only [Act.put, List.setIfInBounds_toArray, List.set_cons_zero, List.set_cons_succ, i64_w, i32_w]
     rfl
    refine take_ (i := 1) (N := some 35) (v := ?_) (a' := ?_) #[true, true, false, false, false] rfl rfl (by kernel_rfl) (fun _ _ _ h => h) (Or.inl ⟨by rfl, ?_⟩) hHeld ?_ ?_
    rotate_left
    ·rintro w' ⟨s0, s1, s2, s3, s4, s5, s6, s7, s8, s9, s10, s11, s12, s13, s14, s15, s16, s17, s18, s19⟩
     go_simp
     with_reducible rfl
    rotate_left
    ·simp only [Act.put, List.setIfInBounds_toArray, List.set_cons_zero, List.set_cons_succ, i64_w, i32_w]
     rfl
    refine one_ (i := 2) (N := some 36) #[true, true, true, false, false] rfl rfl (by kernel_rfl) (by decide) (fun K hK => ?_)
    refine goes_ Try.func11 (by kernel_rfl) rfl #[.agg #[.int .i64 a0_0, .slice A0_1 l0_1.length c0_1, .slice A0_2 l0_2.length c0_2, .int .i64 a0_3, .int .i64 a0_4, .int .i64 a0_5, .int .i64 a0_6, .int .i64 a0_7, .slice A0_8 l0_8.length c0_8, .int .i64 a0_9]] (by rfl) rfl rfl mp_ ?_
    with_reducible refine (laws_toSky.calls k a0_0 _ _ l0_1 _ _ l0_2 a0_3 a0_4 a0_5 a0_6 a0_7 _ _ l0_8 a0_9 t383 t384 t387 t390 t391 t392 t393 t394 t395 t398 _ ?side1 ?side2 ?side3 ?side4 ?side5 ?side6 A15.out).mono ?_
    (case side1 => exact ck_ HR0_1 HB)
    (case side2 => exact HC0_1.out)
    (case side3 => exact ck_ HR0_2 HB)
    (case side4 => exact HC0_2.out)
    (case side5 => exact ck_ HR0_8 HB)
    (case side6 => exact HC0_8.out)
    rintro e w37 ⟨v385, v388, v396, rfl, ho0, ho1, ho2, hb⟩
    refine ⟨_, rfl, ?_⟩
    have n0_ := Aside0.mk (Kd.R_elder' (by (with_reducible repeat (first | apply Kd.R_alloc | apply Kd.R_drewN | apply Kd.R_drew)); exact HO351.out) (Kd.R_base ho0) hb)
    have n1_ := Aside0.mk (Kd.R_elder' (by (with_reducible repeat (first | apply Kd.R_alloc | apply Kd.R_drewN | apply Kd.R_drew)); exact HO354.out) (Kd.R_base ho1) hb)
    have n2_ := Aside0.mk (Kd.R_elder' (by (with_reducible repeat (first | apply Kd.R_alloc | apply Kd.R_drewN | apply Kd.R_drew)); exact HO362.out) (Kd.R_base ho2) hb)
    have n3_ := Aside0.mk (Kd.R_elder' (by (with_reducible repeat (first | apply Kd.R_alloc | apply Kd.R_drewN | apply Kd.R_drew)); exact HO368.out) (Kd.R_base ho0) hb)
    have n4_ := Aside0.mk (Kd.R_elder' (by (with_reducible repeat (first | apply Kd.R_alloc | apply Kd.R_drewN | apply Kd.R_drew)); exact HO371.out) (Kd.R_base ho1) hb)
    have n5_ := Aside0.mk (Kd.R_elder' (by (with_reducible repeat (first | apply Kd.R_alloc | apply Kd.R_drewN | apply Kd.R_drew)); exact HO379.out) (Kd.R_base ho2) hb)
    have n6_ := Aside0.mk (Kd.R_lower (Kd.R_new' (Kd.R_new' ho0 (Kd.R_lt (by (with_reducible repeat (first | apply Kd.R_alloc | apply Kd.R_drewN | apply Kd.R_drew)); exact HO351.out))) (Kd.R_lt (by (with_reducible repeat (first | apply Kd.R_alloc | apply Kd.R_drewN | apply Kd.R_drew)); exact HO368.out))) (below_size (bl2_ HB GE346 GE381)))
    have n7_ := Aside0.mk (Kd.R_lower (Kd.R_new' (Kd.R_new' ho1 (Kd.R_lt (by (with_reducible repeat (first | apply Kd.R_alloc | apply Kd.R_drewN | apply Kd.R_drew)); exact HO354.out))) (Kd.R_lt (by (with_reducible repeat (first | apply Kd.R_alloc | apply Kd.R_drewN | apply Kd.R_drew)); exact HO371.out))) (below_size (bl2_ HB GE346 GE381)))
    have n8_ := Aside0.mk (Kd.R_lower (Kd.R_new' (Kd.R_new' ho2 (Kd.R_lt (by (with_reducible repeat (first | apply Kd.R_alloc | apply Kd.R_drewN | apply Kd.R_drew)); exact HO362.out))) (Kd.R_lt (by (with_reducible repeat (first | apply Kd.R_alloc | apply Kd.R_drewN | apply Kd.R_drew)); exact HO379.out))) (below_size (bl2_ HB GE346 GE381)))
    have n9_ := Aside0.mk (blk_below (bk_ BK346) hb)
    have n10_ := Aside0.mk (blk_below (bk_ BK381) hb)
    have n11_ := Aside0.mk (below_step (bl2_ HB GE346 GE381) hb)
    clear HO351
    clear HO354
    clear HO362
    clear HO368
    clear HO371
    clear HO379
    clear BK346
    clear BK381
    clear HB
    have HO351 := n0_
    have HO354 := n1_
    have HO362 := n2_
    have HO368 := n3_
    have HO371 := n4_
    have HO379 := n5_
    have HO386 := n6_
    have HO389 := n7_
    have HO397 := n8_
    have BK346 := n9_
    have BK381 := n10_
    have HB := n11_
    clear n0_ n1_ n2_ n3_ n4_ n5_ n6_ n7_ n8_ n9_ n10_ n11_
    (try clear hb)
    (try clear hb2)
    (try clear hk)
    (try clear hi)
    (try clear ho0)
    (try clear ho1)
    (try clear ho2)
    obtain ⟨Ao38, co38, eo38⟩ := Kd.R_slice HO386.out
    (first | subst eo38 | (injection eo38 with f1_ f2_ f3_; have f4_ := f1_.symm; have f5_ := f3_.symm; clear f1_ f2_ f3_; subst f4_; subst f5_))
    obtain ⟨Ao39, co39, eo39⟩ := Kd.R_slice HO389.out
    (first | subst eo39 | (injection eo39 with f1_ f2_ f3_; have f4_ := f1_.symm; have f5_ := f3_.symm; clear f1_ f2_ f3_; subst f4_; subst f5_))
    obtain ⟨Ao40, co40, eo40⟩ := Kd.R_slice HO397.out
    (first | subst eo40 | (injection eo40 with f1_ f2_ f3_; have f4_ := f1_.symm; have f5_ := f3_.symm; clear f1_ f2_ f3_; subst f4_; subst f5_))
    refine hK.out _ _ ⟨(bc_ BK381 0 rfl), (bc_ BK381 1 rfl), (bc_ BK381 2 rfl), (bc_ BK381 3 rfl), (bc_ BK381 4 rfl), (bc_ BK381 5 rfl), (bc_ BK381 6 rfl), (bc_ BK381 7 rfl), (bc_ BK381 8 rfl), (bc_ BK381 9 rfl), (bc_ BK346 0 rfl), (bc_ BK346 1 rfl), (bc_ BK346 2 rfl), (bc_ BK346 3 rfl), (bc_ BK346 4 rfl), (bc_ BK346 5 rfl), (bc_ BK346 6 rfl), (bc_ BK346 7 rfl), (bc_ BK346 8 rfl), (bc_ BK346 9 rfl)⟩ (fun hHeld => ?_)
    clear hK K
    refine norm_ (a' := ?_) ?_ ?_
    rotate_left
    ·show Act.put _ (some 36) _ = _
     simp only [Act.put, List.setIfInBounds_toArray, List.set_cons_zero, List.set_cons_succ, i64_w, i32_w]
     rfl
    refine one_ (i := 3) (N := some 37) #[true, true, true, true, false] rfl rfl (by kernel_rfl) (by decide) (fun K hK => ?_)
    refine goes_ Try.func13 (by kernel_rfl) rfl #[.agg #[.int .i64 t365, .slice Ao32 t366.length co32, .slice Ao33 t369.length co33, .int .i64 t372, .int .i64 t373, .int .i64 t374, .int .i64 t375, .int .i64 t376, .slice Ao34 t377.length co34, .int .i64 t380], .agg #[.int .i64 t383, .slice Ao38 t384.length co38, .slice Ao39 t387.length co39, .int .i64 t390, .int .i64 t391, .int .i64 t392, .int .i64 t393, .int .i64 t394, .slice Ao40 t395.length co40, .int .i64 t398]] (by rfl) rfl rfl mp_ ?_
    with_reducible refine (laws_eqSky.calls k t365 _ _ t366 _ _ t369 t372 t373 t374 t375 t376 _ _ t377 t380 t383 _ _ t384 _ _ t387 t390 t391 t392 t393 t394 _ _ t395 t398 true _ ?side1 ?side2 ?side3 ?side4 ?side5 ?side6 ?side7 ?side8 ?side9 ?side10 ?side11 ?side12 A16.out).mono ?_
    (case side1 => repeat (first | exact (Kd.R_reads' HO368.out).2.2 | (with_reducible refine Kd.C_alloc ?_ _) | (with_reducible refine Kd.C_drewN ?_ _) | (with_reducible refine Kd.C_drew ?_)))
    (case side2 => exact (Kd.R_reads' HO368.out).2.1)
    (case side3 => repeat (first | exact (Kd.R_reads' HO371.out).2.2 | (with_reducible refine Kd.C_alloc ?_ _) | (with_reducible refine Kd.C_drewN ?_ _) | (with_reducible refine Kd.C_drew ?_)))
    (case side4 => exact (Kd.R_reads' HO371.out).2.1)
    (case side5 => repeat (first | exact (Kd.R_reads' HO379.out).2.2 | (with_reducible refine Kd.C_alloc ?_ _) | (with_reducible refine Kd.C_drewN ?_ _) | (with_reducible refine Kd.C_drew ?_)))
    (case side6 => exact (Kd.R_reads' HO379.out).2.1)
    (case side7 => repeat (first | exact (Kd.R_reads' HO386.out).2.2 | (with_reducible refine Kd.C_alloc ?_ _) | (with_reducible refine Kd.C_drewN ?_ _) | (with_reducible refine Kd.C_drew ?_)))
    (case side8 => exact (Kd.R_reads' HO386.out).2.1)
    (case side9 => repeat (first | exact (Kd.R_reads' HO389.out).2.2 | (with_reducible refine Kd.C_alloc ?_ _) | (with_reducible refine Kd.C_drewN ?_ _) | (with_reducible refine Kd.C_drew ?_)))
    (case side10 => exact (Kd.R_reads' HO389.out).2.1)
    (case side11 => repeat (first | exact (Kd.R_reads' HO397.out).2.2 | (with_reducible refine Kd.C_alloc ?_ _) | (with_reducible refine Kd.C_drewN ?_ _) | (with_reducible refine Kd.C_drew ?_)))
    (case side12 => exact (Kd.R_reads' HO397.out).2.1)
    rintro e w41 ⟨rfl, hb⟩
    refine ⟨_, rfl, ?_⟩
    have n0_ := Aside0.mk (Kd.R_below (by (with_reducible repeat (first | apply Kd.R_alloc | apply Kd.R_drewN | apply Kd.R_drew)); exact HO351.out) hb)
    have n1_ := Aside0.mk (Kd.R_below (by (with_reducible repeat (first | apply Kd.R_alloc | apply Kd.R_drewN | apply Kd.R_drew)); exact HO354.out) hb)
    have n2_ := Aside0.mk (Kd.R_below (by (with_reducible repeat (first | apply Kd.R_alloc | apply Kd.R_drewN | apply Kd.R_drew)); exact HO362.out) hb)
    have n3_ := Aside0.mk (Kd.R_below (by (with_reducible repeat (first | apply Kd.R_alloc | apply Kd.R_drewN | apply Kd.R_drew)); exact HO368.out) hb)
    have n4_ := Aside0.mk (Kd.R_below (by (with_reducible repeat (first | apply Kd.R_alloc | apply Kd.R_drewN | apply Kd.R_drew)); exact HO371.out) hb)
    have n5_ := Aside0.mk (Kd.R_below (by (with_reducible repeat (first | apply Kd.R_alloc | apply Kd.R_drewN | apply Kd.R_drew)); exact HO379.out) hb)
    have n6_ := Aside0.mk (Kd.R_below (by (with_reducible repeat (first | apply Kd.R_alloc | apply Kd.R_drewN | apply Kd.R_drew)); exact HO386.out) hb)
    have n7_ := Aside0.mk (Kd.R_below (by (with_reducible repeat (first | apply Kd.R_alloc | apply Kd.R_drewN | apply Kd.R_drew)); exact HO389.out) hb)
    have n8_ := Aside0.mk (Kd.R_below (by (with_reducible repeat (first | apply Kd.R_alloc | apply Kd.R_drewN | apply Kd.R_drew)); exact HO397.out) hb)
    have n9_ := Aside0.mk (blk_below (bk_ BK346) hb)
    have n10_ := Aside0.mk (blk_below (bk_ BK381) hb)
    have n11_ := Aside0.mk (below_step (bl2_ HB GE346 GE381) hb)
    clear HO351
    clear HO354
    clear HO362
    clear HO368
    clear HO371
    clear HO379
    clear HO386
    clear HO389
    clear HO397
    clear BK346
    clear BK381
    clear HB
    have HO351 := n0_
    have HO354 := n1_
    have HO362 := n2_
    have HO368 := n3_
    have HO371 := n4_
    have HO379 := n5_
    have HO386 := n6_
    have HO389 := n7_
    have HO397 := n8_
    have BK346 := n9_
    have BK381 := n10_
    have HB := n11_
    clear n0_ n1_ n2_ n3_ n4_ n5_ n6_ n7_ n8_ n9_ n10_ n11_
    (try clear hb)
    (try clear hb2)
    (try clear hk)
    (try clear hi)
    refine hK.out _ _ ⟨(bc_ BK381 0 rfl), (bc_ BK381 1 rfl), (bc_ BK381 2 rfl), (bc_ BK381 3 rfl), (bc_ BK381 4 rfl), (bc_ BK381 5 rfl), (bc_ BK381 6 rfl), (bc_ BK381 7 rfl), (bc_ BK381 8 rfl), (bc_ BK381 9 rfl), (bc_ BK346 0 rfl), (bc_ BK346 1 rfl), (bc_ BK346 2 rfl), (bc_ BK346 3 rfl), (bc_ BK346 4 rfl), (bc_ BK346 5 rfl), (bc_ BK346 6 rfl), (bc_ BK346 7 rfl), (bc_ BK346 8 rfl), (bc_ BK346 9 rfl)⟩ (fun hHeld => ?_)
    clear hK K
    refine norm_ (a' := ?_) ?_ ?_
    rotate_left
    ·show Act.put _ (some 37) _ = _
     simp only [Act.put, List.setIfInBounds_toArray, List.set_cons_zero, List.set_cons_succ, i64_w, i32_w]
     rfl
    refine pure_ (i := 4) (N := some 38) (v := ?_) (a' := ?_) #[true, true, true, true, true] rfl rfl (by kernel_rfl) (fun _ _ _ h => h) (Or.inl ⟨by rfl, ?_⟩) ?_ ?_
    rotate_left
    ·intro w'
     go_simp
     with_reducible rfl
    rotate_left
    ·simp only [Act.put, List.setIfInBounds_toArray, List.set_cons_zero, List.set_cons_succ, i64_w, i32_w]
     rfl
    refine done_ (by kernel_rfl) ?_
    try go_wp2
    go_ret
    exact ⟨by first | rfl | (simp [errW_none, errW_some] <;> rfl) | (simp [*, errW_none, errW_some] <;> rfl), by repeat (first | (with_reducible first | exact HB.out | apply below_alloc | apply pw_below_drewN | apply below_drew1 | refine below_set ?_ GE346.out | refine below_set ?_ GE381.out) | exact HB.out)⟩
   ·replace c17 := Bool.eq_false_iff.mpr c17
    subst c17
    have H1 : (some false) = some true := by first | (rw [if_neg (show ¬ (false = true) by decide)] at H; exact H) | rfl
    clear H
    have H := H1
    clear H1
    exact absurd H (by simp)
  ·rw [if_neg c14] at H
   have c14b0 : (t382 == t364) = false := beq_eq_false_iff_ne.mpr c14
   have c14b1 : (t382 != t364) = true := bne_iff_ne.mpr c14
   exact absurd H (by simp)

end Go.Proofs.Ytikklalaggkdoaa.PFnExactLongestDark
