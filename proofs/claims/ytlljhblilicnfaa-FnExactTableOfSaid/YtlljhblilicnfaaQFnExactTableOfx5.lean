-- Written by a program of this session for this claim (the kit's printer with changes).
import Derived.Test.YtlljhblilicnfaaQFnExactTableOfx0
import Derived.Test.YtlljhblilicnfaaQFnExactTableOfx1
import Derived.Test.YtlljhblilicnfaaQFnExactTableOfx3
import Derived.Test.YtlljhblilicnfaaQFnExactTableOfx4
namespace Go.Proofs.Ytlljhblilicnfaa.PFnExactTableOf
open Go.RowKit Go.Proofs.YtlljhblilicnfaaW.PrintWords Go.Proofs.YtlljhblilicnfaaW.PrintLast Go.Proofs.YtlljhblilicnfaaW.PrintMore
attribute [local go_sem] max2_int min2_int max_two min_two max_three min_three max_four min_four   -- for this text's walks alone
set_option linter.unusedVariables false
set_option linter.unusedSimpArgs false

/-! ### impl_NextTo: function 66 -/
mutual
def impl_NextTo.l0 : Nat → List (S103) → Int → Int → Int → List Int → List Int → List Int → Int → Int → Option (List Int)
 | 0, _, _, _, _, _, _, _, _, _ => none
 | k + 1, x0, x1, x2, x3, x9, x10, x22, x23, x24 => if x24 < x23 then (if 0 ≤ x24 then (if x24 < (x22.length : Int) then ((impl_NeighborsIn.f k x0 x24).bind fun t314 => (impl_NextTo.l1 k x0 x1 x2 x3 x9 x10 (rd x22 x24) (-1) x22 x23 x24 t314 (t314.length : Int) 0)) else (none)) else (none)) else (some x9)
def impl_NextTo.l1 : Nat → List (S103) → Int → Int → Int → List Int → List Int → Int → Int → List Int → Int → Int → List Int → Int → Int → Option (List Int)
 | 0, _, _, _, _, _, _, _, _, _, _, _, _, _, _ => none
 | k + 1, x0, x1, x2, x3, x9, x10, x12, x13, x22, x23, x24, x31, x32, x33 => if x33 < x32 then (if 0 ≤ x33 then (if x33 < (x31.length : Int) then (if x13 < 0 then (if x12 > 0 then ((impl_isIndex.f (rd x31 x33) x1).bind fun t318 => (if t318 = true then (if (rd x31 x33) < x2 then (if 0 ≤ (rd x31 x33) then (if (rd x31 x33) < (x10.length : Int) then (if (rd x10 (rd x31 x33)) = (wrap64 (x12 - 1)) then (impl_NextTo.l1 k x0 x1 x2 x3 x9 x10 x12 (rd x31 x33) x22 x23 x24 x31 x32 (wrap64 (x33 + 1))) else (impl_NextTo.l1 k x0 x1 x2 x3 x9 x10 x12 x13 x22 x23 x24 x31 x32 (wrap64 (x33 + 1)))) else (none)) else (none)) else (if (rd x31 x33) = x3 then (if 0 ≤ (rd x31 x33) then (if (rd x31 x33) < (x10.length : Int) then (if (rd x10 (rd x31 x33)) = (wrap64 (x12 - 1)) then (impl_NextTo.l1 k x0 x1 x2 x3 x9 x10 x12 (rd x31 x33) x22 x23 x24 x31 x32 (wrap64 (x33 + 1))) else (impl_NextTo.l1 k x0 x1 x2 x3 x9 x10 x12 x13 x22 x23 x24 x31 x32 (wrap64 (x33 + 1)))) else (none)) else (none)) else (impl_NextTo.l1 k x0 x1 x2 x3 x9 x10 x12 x13 x22 x23 x24 x31 x32 (wrap64 (x33 + 1))))) else (impl_NextTo.l1 k x0 x1 x2 x3 x9 x10 x12 x13 x22 x23 x24 x31 x32 (wrap64 (x33 + 1))))) else (impl_NextTo.l1 k x0 x1 x2 x3 x9 x10 x12 x13 x22 x23 x24 x31 x32 (wrap64 (x33 + 1)))) else (impl_NextTo.l1 k x0 x1 x2 x3 x9 x10 x12 x13 x22 x23 x24 x31 x32 (wrap64 (x33 + 1)))) else (none)) else (none)) else (if x9.length < 17592186044416 then (impl_NextTo.l0 k x0 x1 x2 x3 (x9 ++ [x13]) x10 x22 x23 (wrap64 (x24 + 1))) else (none))
end
def impl_NextTo.f (k : Nat) (l0 : List (S103)) (a1 : Int) (a2 : Int) (a3 : Int) : Option (List Int) := (impl_DistancesTo.f k l0 a1 a2 a3).bind fun t310 => (impl_NextTo.l0 k l0 a1 a2 a3 (([] : List Int)) t310 t310 (t310.length : Int) 0)
theorem impl_NextTo.mono_l : ∀ k, (∀ y0 y1 y2 y3 y4 y5 y6 y7 y8, LeO (impl_NextTo.l0 k y0 y1 y2 y3 y4 y5 y6 y7 y8) (impl_NextTo.l0 (k + 1) y0 y1 y2 y3 y4 y5 y6 y7 y8)) ∧ (∀ y0 y1 y2 y3 y4 y5 y6 y7 y8 y9 y10 y11 y12 y13, LeO (impl_NextTo.l1 k y0 y1 y2 y3 y4 y5 y6 y7 y8 y9 y10 y11 y12 y13) (impl_NextTo.l1 (k + 1) y0 y1 y2 y3 y4 y5 y6 y7 y8 y9 y10 y11 y12 y13))
 | 0 => ⟨fun _ _ _ _ _ _ _ _ _ r h => by simp [impl_NextTo.l0] at h, fun _ _ _ _ _ _ _ _ _ _ _ _ _ _ r h => by simp [impl_NextTo.l1] at h⟩
 | k + 1 => by
  obtain ⟨ih0, ih1⟩ := impl_NextTo.mono_l k
  refine ⟨?_, ?_⟩
  ·intro y0 y1 y2 y3 y4 y5 y6 y7 y8
   unfold impl_NextTo.l0
   repeat' first | (with_reducible first | exact ih0 _ _ _ _ _ _ _ _ _ | exact ih1 _ _ _ _ _ _ _ _ _ _ _ _ _ _ | exact impl_DistancesTo.mono _ _ _ _ _ | exact impl_NeighborsIn.mono _ _ _ | exact LeO.refl _ | exact LeO.none _ | refine LeO.ite ?_ ?_ | refine LeO.bind ?_ (fun _ => ?_)) | exact LeO.none _ | refine LeO.ite ?_ ?_ | refine LeO.bind ?_ (fun _ => ?_)
  ·intro y0 y1 y2 y3 y4 y5 y6 y7 y8 y9 y10 y11 y12 y13
   unfold impl_NextTo.l1
   repeat' first | (with_reducible first | exact ih0 _ _ _ _ _ _ _ _ _ | exact ih1 _ _ _ _ _ _ _ _ _ _ _ _ _ _ | exact impl_DistancesTo.mono _ _ _ _ _ | exact impl_NeighborsIn.mono _ _ _ | exact LeO.refl _ | exact LeO.none _ | refine LeO.ite ?_ ?_ | refine LeO.bind ?_ (fun _ => ?_)) | exact LeO.none _ | refine LeO.ite ?_ ?_ | refine LeO.bind ?_ (fun _ => ?_)
theorem impl_NextTo.mono : ∀ a0 a1 a2 a3 k, LeO (impl_NextTo.f k a0 a1 a2 a3) (impl_NextTo.f (k + 1) a0 a1 a2 a3) := by
 intro a0 a1 a2 a3 k
 obtain ⟨ih0, ih1⟩ := impl_NextTo.mono_l k
 unfold impl_NextTo.f
 repeat' first | (with_reducible first | exact ih0 _ _ _ _ _ _ _ _ _ | exact ih1 _ _ _ _ _ _ _ _ _ _ _ _ _ _ | exact impl_DistancesTo.mono _ _ _ _ _ | exact impl_NeighborsIn.mono _ _ _ | exact LeO.refl _ | exact LeO.none _ | refine LeO.ite ?_ ?_ | refine LeO.bind ?_ (fun _ => ?_)) | exact LeO.none _ | refine LeO.ite ?_ ?_ | refine LeO.bind ?_ (fun _ => ?_)
set_option maxHeartbeats 8000000 in
set_option maxRecDepth 100000 in
theorem impl_NextTo.calls (k : Nat) (A0 : Option Addr) (c0 : Nat) (l0 : List (S103)) (a1 : Int) (a2 : Int) (a3 : Int) (r : List Int) (w : World) (hr0 : Kd.C k103 w A0 l0.length l0) (hc0 : l0.length ≤ c0) (h : impl_NextTo.f k l0 a1 a2 a3 = some r) :
  Calls Try.prog 66 #[.slice A0 l0.length c0, .int .i64 a1, .int .i64 a2, .int .i64 a3] w fun e w' => ∃ v0_ : Value, e = .returned (v0_) ∧ Kd.R (Kd.int .i64) 3 w' w.heap.size (fun _ => True) v0_ r ∧ Below w.heap.size w w' := by
 have HR0 := Aside0.mk hr0
 have HC0 := Aside0.mk hc0
 clear hr0 hc0
 have HB := Aside0.mk (Below.refl w.heap.size w)
 have H := h
 clear h
 unfold impl_NextTo.f at H
 replace H : ∃ y_ : List Int, Aside0 (y_ = (([] : List Int))) ∧ ((impl_DistancesTo.f k l0 a1 a2 a3).bind fun t310 => (impl_NextTo.l0 k l0 a1 a2 a3 y_ t310 t310 (t310.length : Int) 0)) = some r := ⟨_, ⟨rfl⟩, yh_ H⟩
 obtain ⟨y307, Ny307, H⟩ := H
 replace H := bs_ H
 obtain ⟨t310, A5, H⟩ := H
 have H' := Aside0.mk H
 clear H
 go_enter Try.func66, Try.ntmps66
 go_wp2_with (first | ((with_reducible refine gate_dst (N := 16) rfl ?_); refine Kd.R_lit (Kd.int .i64) _ 3 ?hg (N := 16) ?hd (xs := ([] : List Int)) (inner := []) (ok := fun _ => True) (okp := fun _ => True) ?hr ?hp (fun _ hk => hk) trivial (Below.refl _ _) (Nat.le_refl _) (by simp) ?_; (case hd => rfl); (case hg => rfl); (case hr => first | (go_simp; done) | (go_simp; rfl)); (case hp => exact (Reps.none _ _)); intro v308 w6 ho7 hb hg_ hnew_; clear hg_ hnew_; (first | rw [← Ny307.out] at ho7 | (simp only [Int.reduceToNat] at ho7; rw [← Ny307.out] at ho7)); refine sh2_ (Kd.R_lower ho7 (below_size (bl_ HB))) (below_step (bl_ HB) hb) ?_; clear HB hb ho7; intro HO309 HB) | ((with_reducible refine gate_callee (f := 59) rfl ?_); refine gl_ 21 Try.func59 (impl_DistancesTo.calls k _ _ l0 a1 a2 a3 t310 _ (ck_ HR0 HB) HC0.out A5.out) ?_; rintro e w8 ⟨v311, rfl, ho0, hb⟩; refine ⟨_, rfl, sh3_ (Kd.R_elder' (ra_ HO309) (Kd.R_base ho0) hb) (Kd.R_lower (Kd.R_new' ho0 (Kd.R_lt (ra_ HO309))) (below_size (bl_ HB))) (below_step (bl_ HB) hb) ?_⟩; clear HO309 HB hb ho0; intro HO309 HO312 HB; obtain ⟨Ao9, co9, eo9⟩ := Kd.R_slice HO312.out; subst eo9))
 go_loopg [9, 24] k (fun kq v9 v24 w' => ∃ (x9_1 : List Int) (x24_1 : Int), v24 = .int .i64 x24_1 ∧ Aside0 (impl_NextTo.l0 kq l0 a1 a2 a3 x9_1 t310 t310 (t310.length : Int) x24_1 = some r) ∧ Aside0 (kq ≤ k) ∧ Aside0 (Kd.R (Kd.int .i64) 3 w' w.heap.size (fun k_ => some k_ ≠ ((.slice Ao9 t310.length co9) : Value).ownBlock ∧ some k_ ≠ ((.slice Ao9 t310.length co9) : Value).ownBlock) v9 x9_1) ∧ Aside0 (Kd.R (Kd.int .i64) 3 w' w.heap.size (fun k_ => some k_ ≠ (v9 : Value).ownBlock) (.slice Ao9 t310.length co9) t310) ∧ Aside0 (Kd.R (Kd.int .i64) 3 w' w.heap.size (fun k_ => some k_ ≠ (v9 : Value).ownBlock) (.slice Ao9 t310.length co9) t310) ∧ Aside0 (Below w.heap.size w w'))
 case atStart => exact ⟨(y307), (0), (by first | rfl | (simp; done) | (simp [*]; done)), H', ⟨Nat.le_refl _⟩, ⟨by (with_reducible repeat (first | apply Kd.R_alloc | apply Kd.R_drewN | apply Kd.R_drew)); exact Kd.R_mono HO309.out (fun _ hk => ⟨hk.2, hk.2⟩)⟩, ⟨by (with_reducible repeat (first | apply Kd.R_alloc | apply Kd.R_drewN | apply Kd.R_drew)); exact Kd.R_mono HO312.out (fun _ hk => hk.2)⟩, ⟨by (with_reducible repeat (first | apply Kd.R_alloc | apply Kd.R_drewN | apply Kd.R_drew)); exact Kd.R_mono HO312.out (fun _ hk => hk.2)⟩, ⟨bl_ HB⟩⟩
 case round =>
  clear H'
  try clear p2
  try clear c5
  try clear c6
  obtain ⟨x9_1, x24_1, rfl, HA, HK1, HO_9, HO_10, HO_22, HB⟩ := hrel
  cases gk with
  | zero => exact absurd HA.out (by simp [impl_NextTo.l0])
  | succ k1 =>
   have H := HA.out
   clear HA
   simp only [impl_NextTo.l0] at H
   by_cases c10 : x24_1 < (t310.length : Int)
   ·rw [if_pos c10] at H
    have c10b0 := decide_eq_true c10
    clear c10
    replace H := ifn_ H
    obtain ⟨c11, H⟩ := H
    have c11b0 := decide_eq_true c11
    clear c11
    replace H := ifn_ H
    obtain ⟨c12, H⟩ := H
    have c12b0 := decide_eq_true c12
    clear c12
    replace H := bs_ H
    obtain ⟨t314, A13, H⟩ := H
    have H' := Aside0.mk H
    clear H
    have p313 : 0 ≤ (x24_1 : Int) := od_
    have q313 : x24_1 < (t310.length : Int) := od_
    obtain ⟨ad313, e313, hx313_0⟩ := Kd.at_int (Kd.R_reads' HO_22.out).2.2 x24_1 p313 q313
    cases e313
    replace p313 := eq_true p313
    replace q313 := eq_true q313
    go_wp2_with (first | ((with_reducible refine gate_callee (f := 57) rfl ?_); refine gl_ 31 Try.func57 (impl_NeighborsIn.calls k1 _ _ l0 x24_1 t314 _ (ck_ HR0 HB) HC0.out A13.out) ?_; rintro e w14 ⟨v315, rfl, ho0, hb⟩; refine ⟨_, rfl, sh5_ (Kd.R_elder' (ra_ HO_9) (Kd.R_base ho0) hb) (Kd.R_elder' (ra_ HO_10) (Kd.R_base ho0) hb) (Kd.R_elder' (ra_ HO_22) (Kd.R_base ho0) hb) (Kd.R_lower (Kd.R_new' (Kd.R_new' (Kd.R_new' ho0 (Kd.R_lt (ra_ HO_9))) (Kd.R_lt (ra_ HO_10))) (Kd.R_lt (ra_ HO_22))) (below_size (bl_ HB))) (below_step (bl_ HB) hb) ?_⟩; clear HO_9 HO_10 HO_22 HB hb ho0; intro HO_9 HO_10 HO_22 HO316 HB; obtain ⟨Ao15, co15, eo15⟩ := Kd.R_slice HO316.out; subst eo15))
    go_loopg [13, 33] k1 (fun kq v13 v33 w' => ∃ (x13_2 : Int) (x33_2 : Int), v13 = .int .i64 x13_2 ∧ v33 = .int .i64 x33_2 ∧ Aside0 (impl_NextTo.l1 kq l0 a1 a2 a3 x9_1 t310 (rd t310 x24_1) x13_2 t310 (t310.length : Int) x24_1 t314 (t314.length : Int) x33_2 = some r) ∧ Aside0 (kq ≤ k1) ∧ Aside0 (Kd.R (Kd.int .i64) 3 w' w.heap.size (fun k_ => some k_ ≠ ((.slice (some ad313) t310.length co9) : Value).ownBlock ∧ some k_ ≠ ((.slice (some ad313) t310.length co9) : Value).ownBlock ∧ some k_ ≠ ((.slice Ao15 t314.length co15) : Value).ownBlock) u9 x9_1) ∧ Aside0 (Kd.R (Kd.int .i64) 3 w' w.heap.size (fun k_ => some k_ ≠ (u9 : Value).ownBlock ∧ some k_ ≠ ((.slice Ao15 t314.length co15) : Value).ownBlock) (.slice (some ad313) t310.length co9) t310) ∧ Aside0 (Kd.R (Kd.int .i64) 3 w' w.heap.size (fun k_ => some k_ ≠ (u9 : Value).ownBlock ∧ some k_ ≠ ((.slice Ao15 t314.length co15) : Value).ownBlock) (.slice (some ad313) t310.length co9) t310) ∧ Aside0 (Kd.R (Kd.int .i64) 3 w' w.heap.size (fun k_ => some k_ ≠ (u9 : Value).ownBlock ∧ some k_ ≠ ((.slice (some ad313) t310.length co9) : Value).ownBlock ∧ some k_ ≠ ((.slice (some ad313) t310.length co9) : Value).ownBlock) (.slice Ao15 t314.length co15) t314) ∧ Aside0 (Below w.heap.size w w'))
    case atStart => exact ⟨((-1)), (0), (by first | rfl | (simp; done) | (simp [*]; done)), (by first | rfl | (simp; done) | (simp [*]; done)), H', ⟨Nat.le_refl _⟩, ⟨by (with_reducible repeat (first | apply Kd.R_alloc | apply Kd.R_drewN | apply Kd.R_drew)); exact Kd.R_mono HO_9.out (fun _ hk => ⟨hk.1.1, ⟨hk.1.2, hk.2⟩⟩)⟩, ⟨ra_ HO_10⟩, ⟨ra_ HO_22⟩, ⟨by (with_reducible repeat (first | apply Kd.R_alloc | apply Kd.R_drewN | apply Kd.R_drew)); exact Kd.R_mono HO316.out (fun _ hk => ⟨hk.1.1.2, ⟨hk.1.2, hk.2⟩⟩)⟩, ⟨bl_ HB⟩⟩
    case round =>
     clear H'
     try clear c1
     try clear p2
     try clear p3
     try clear q3
     try clear hx3
     try clear c5
     try clear c6
     try clear c10
     try clear c10b0
     try clear c11
     try clear c11b0
     try clear c12
     try clear c12b0
     try clear hx313_0
     try clear p2
     try clear p313
     try clear q313
     obtain ⟨x13_2, x33_2, rfl, rfl, HA, HK2, HO_9, HO_10, HO_22, HO_31, HB⟩ := hrel
     cases gk with
     | zero => exact absurd HA.out (by simp [impl_NextTo.l1])
     | succ k2 =>
      have H := HA.out
      clear HA
      simp only [impl_NextTo.l1] at H
      by_cases c16 : x33_2 < (t314.length : Int)
      ·rw [if_pos c16] at H
       have c16b0 := decide_eq_true c16
       clear c16
       replace H := ifn_ H
       obtain ⟨c17, H⟩ := H
       have c17b0 := decide_eq_true c17
       clear c17
       replace H := ifn_ H
       obtain ⟨c18, H⟩ := H
       have c18b0 := decide_eq_true c18
       clear c18
       by_cases c19 : x13_2 < 0
       ·rw [if_pos c19] at H
        have c19b0 := decide_eq_true c19
        clear c19
        by_cases c20 : (rd t310 x24_1) > 0
        ·rw [if_pos c20] at H
         have c20b0 : decide (0 < (rd t310 x24_1)) = true := decide_eq_true c20
         clear c20
         replace H := bs_ H
         obtain ⟨t318, A21, H⟩ := H
         by_cases c22 : t318 = true
         ·subst c22
          rw [if_pos rfl] at H
          by_cases c23 : (rd t314 x33_2) < a2
          ·rw [if_pos c23] at H
           have c23b0 := decide_eq_true c23
           clear c23
           replace H := ifn_ H
           obtain ⟨c24, H⟩ := H
           have c24b0 := decide_eq_true c24
           clear c24
           replace H := ifn_ H
           obtain ⟨c25, H⟩ := H
           have c25b0 := decide_eq_true c25
           clear c25
           by_cases c26 : (rd t310 (rd t314 x33_2)) = (wrap64 ((rd t310 x24_1) - 1))
           ·rw [if_pos c26] at H
            obtain ⟨c26b0, c26b1⟩ := bt_ c26
            clear c26
            have H' := Aside0.mk H
            clear H
            have p317 : 0 ≤ (x33_2 : Int) := od_
            have q317 : x33_2 < (t314.length : Int) := od_
            obtain ⟨ad317, e317, hx317_0⟩ := Kd.at_int (Kd.R_reads' HO_31.out).2.2 x33_2 p317 q317
            cases e317
            replace p317 := eq_true p317
            replace q317 := eq_true q317
            go_wp2_with (first | (go_at_call 73; (with_reducible refine (impl_isIndex.calls (rd t314 x33_2) a1 true _ A21.out).mono ?_); rintro e w' ⟨rfl, ⟨nd, rfl⟩⟩; have p319 : 0 ≤ ((rd t314 x33_2) : Int) := od_; have q319 : (rd t314 x33_2) < (t310.length : Int) := od_; obtain ⟨ad319, e319, hx319_0⟩ := Kd.at_int (Kd.R_reads' HO_10.out).2.2 (rd t314 x33_2) p319 q319; obtain rfl : ad313 = ad319 := (by injection e319); replace p319 := eq_true p319; replace q319 := eq_true q319))
            go_roundg k2
            case measure => have := HK1.out; have := HK2.out; omega
            case rel => exact ⟨(rd t314 x33_2), (wrap64 (x33_2 + 1)), (by first | rfl | (simp; done) | (simp [*]; done)), (by first | rfl | (simp; done) | (simp [*]; done)), H', ⟨by have := HK1.out; have := HK2.out; omega⟩, ⟨ra_ HO_9⟩, ⟨ra_ HO_10⟩, ⟨ra_ HO_22⟩, ⟨ra_ HO_31⟩, ⟨bl_ HB⟩⟩
           ·rw [if_neg c26] at H
            obtain ⟨c26b0, c26b1⟩ := bn_ c26
            have H' := Aside0.mk H
            clear H
            have p317 : 0 ≤ (x33_2 : Int) := od_
            have q317 : x33_2 < (t314.length : Int) := od_
            obtain ⟨ad317, e317, hx317_0⟩ := Kd.at_int (Kd.R_reads' HO_31.out).2.2 x33_2 p317 q317
            cases e317
            replace p317 := eq_true p317
            replace q317 := eq_true q317
            go_wp2_with (first | (go_at_call 73; (with_reducible refine (impl_isIndex.calls (rd t314 x33_2) a1 true _ A21.out).mono ?_); rintro e w' ⟨rfl, ⟨nd, rfl⟩⟩; have p319 : 0 ≤ ((rd t314 x33_2) : Int) := od_; have q319 : (rd t314 x33_2) < (t310.length : Int) := od_; obtain ⟨ad319, e319, hx319_0⟩ := Kd.at_int (Kd.R_reads' HO_10.out).2.2 (rd t314 x33_2) p319 q319; obtain rfl : ad313 = ad319 := (by injection e319); replace p319 := eq_true p319; replace q319 := eq_true q319))
            go_roundg k2
            case measure => have := HK1.out; have := HK2.out; omega
            case rel => exact ⟨(x13_2), (wrap64 (x33_2 + 1)), (by first | rfl | (simp; done) | (simp [*]; done)), (by first | rfl | (simp; done) | (simp [*]; done)), H', ⟨by have := HK1.out; have := HK2.out; omega⟩, ⟨ra_ HO_9⟩, ⟨ra_ HO_10⟩, ⟨ra_ HO_22⟩, ⟨ra_ HO_31⟩, ⟨bl_ HB⟩⟩
          ·rw [if_neg c23] at H
           have c23b0 := decide_eq_false c23
           clear c23
           by_cases c27 : (rd t314 x33_2) = a3
           ·rw [if_pos c27] at H
            obtain ⟨c27b0, c27b1⟩ := bt_ c27
            clear c27
            replace H := ifn_ H
            obtain ⟨c28, H⟩ := H
            have c28b0 := decide_eq_true c28
            clear c28
            replace H := ifn_ H
            obtain ⟨c29, H⟩ := H
            have c29b0 := decide_eq_true c29
            clear c29
            by_cases c30 : (rd t310 (rd t314 x33_2)) = (wrap64 ((rd t310 x24_1) - 1))
            ·rw [if_pos c30] at H
             obtain ⟨c30b0, c30b1⟩ := bt_ c30
             clear c30
             have H' := Aside0.mk H
             clear H
             have p317 : 0 ≤ (x33_2 : Int) := od_
             have q317 : x33_2 < (t314.length : Int) := od_
             obtain ⟨ad317, e317, hx317_0⟩ := Kd.at_int (Kd.R_reads' HO_31.out).2.2 x33_2 p317 q317
             cases e317
             replace p317 := eq_true p317
             replace q317 := eq_true q317
             go_wp2_with (first | (go_at_call 73; (with_reducible refine (impl_isIndex.calls (rd t314 x33_2) a1 true _ A21.out).mono ?_); rintro e w' ⟨rfl, ⟨nd, rfl⟩⟩; have p320 : 0 ≤ ((rd t314 x33_2) : Int) := od_; have q320 : (rd t314 x33_2) < (t310.length : Int) := od_; obtain ⟨ad320, e320, hx320_0⟩ := Kd.at_int (Kd.R_reads' HO_10.out).2.2 (rd t314 x33_2) p320 q320; obtain rfl : ad313 = ad320 := (by injection e320); replace p320 := eq_true p320; replace q320 := eq_true q320))
             go_roundg k2
             case measure => have := HK1.out; have := HK2.out; omega
             case rel => exact ⟨(rd t314 x33_2), (wrap64 (x33_2 + 1)), (by first | rfl | (simp; done) | (simp [*]; done)), (by first | rfl | (simp; done) | (simp [*]; done)), H', ⟨by have := HK1.out; have := HK2.out; omega⟩, ⟨ra_ HO_9⟩, ⟨ra_ HO_10⟩, ⟨ra_ HO_22⟩, ⟨ra_ HO_31⟩, ⟨bl_ HB⟩⟩
            ·rw [if_neg c30] at H
             obtain ⟨c30b0, c30b1⟩ := bn_ c30
             have H' := Aside0.mk H
             clear H
             have p317 : 0 ≤ (x33_2 : Int) := od_
             have q317 : x33_2 < (t314.length : Int) := od_
             obtain ⟨ad317, e317, hx317_0⟩ := Kd.at_int (Kd.R_reads' HO_31.out).2.2 x33_2 p317 q317
             cases e317
             replace p317 := eq_true p317
             replace q317 := eq_true q317
             go_wp2_with (first | (go_at_call 73; (with_reducible refine (impl_isIndex.calls (rd t314 x33_2) a1 true _ A21.out).mono ?_); rintro e w' ⟨rfl, ⟨nd, rfl⟩⟩; have p320 : 0 ≤ ((rd t314 x33_2) : Int) := od_; have q320 : (rd t314 x33_2) < (t310.length : Int) := od_; obtain ⟨ad320, e320, hx320_0⟩ := Kd.at_int (Kd.R_reads' HO_10.out).2.2 (rd t314 x33_2) p320 q320; obtain rfl : ad313 = ad320 := (by injection e320); replace p320 := eq_true p320; replace q320 := eq_true q320))
             go_roundg k2
             case measure => have := HK1.out; have := HK2.out; omega
             case rel => exact ⟨(x13_2), (wrap64 (x33_2 + 1)), (by first | rfl | (simp; done) | (simp [*]; done)), (by first | rfl | (simp; done) | (simp [*]; done)), H', ⟨by have := HK1.out; have := HK2.out; omega⟩, ⟨ra_ HO_9⟩, ⟨ra_ HO_10⟩, ⟨ra_ HO_22⟩, ⟨ra_ HO_31⟩, ⟨bl_ HB⟩⟩
           ·rw [if_neg c27] at H
            obtain ⟨c27b0, c27b1⟩ := bn_ c27
            have H' := Aside0.mk H
            clear H
            have p317 : 0 ≤ (x33_2 : Int) := od_
            have q317 : x33_2 < (t314.length : Int) := od_
            obtain ⟨ad317, e317, hx317_0⟩ := Kd.at_int (Kd.R_reads' HO_31.out).2.2 x33_2 p317 q317
            cases e317
            replace p317 := eq_true p317
            replace q317 := eq_true q317
            go_wp2_with (first | (go_at_call 73; (with_reducible refine (impl_isIndex.calls (rd t314 x33_2) a1 true _ A21.out).mono ?_); rintro e w' ⟨rfl, ⟨nd, rfl⟩⟩))
            go_roundg k2
            case measure => have := HK1.out; have := HK2.out; omega
            case rel => exact ⟨(x13_2), (wrap64 (x33_2 + 1)), (by first | rfl | (simp; done) | (simp [*]; done)), (by first | rfl | (simp; done) | (simp [*]; done)), H', ⟨by have := HK1.out; have := HK2.out; omega⟩, ⟨ra_ HO_9⟩, ⟨ra_ HO_10⟩, ⟨ra_ HO_22⟩, ⟨ra_ HO_31⟩, ⟨bl_ HB⟩⟩
         ·replace c22 := Bool.eq_false_iff.mpr c22
          subst c22
          have H1 : (impl_NextTo.l1 k2 l0 a1 a2 a3 x9_1 t310 (rd t310 x24_1) x13_2 t310 (t310.length : Int) x24_1 t314 (t314.length : Int) (wrap64 (x33_2 + 1))) = some r := by rw [if_neg (show ¬ (false = true) by decide)] at H; exact H
          clear H
          have H := H1
          clear H1
          have H' := Aside0.mk H
          clear H
          have p317 : 0 ≤ (x33_2 : Int) := od_
          have q317 : x33_2 < (t314.length : Int) := od_
          obtain ⟨ad317, e317, hx317_0⟩ := Kd.at_int (Kd.R_reads' HO_31.out).2.2 x33_2 p317 q317
          cases e317
          replace p317 := eq_true p317
          replace q317 := eq_true q317
          go_wp2_with (first | (go_at_call 73; (with_reducible refine (impl_isIndex.calls (rd t314 x33_2) a1 false _ A21.out).mono ?_); rintro e w' ⟨rfl, ⟨nd, rfl⟩⟩))
          go_roundg k2
          case measure => have := HK1.out; have := HK2.out; omega
          case rel => exact ⟨(x13_2), (wrap64 (x33_2 + 1)), (by first | rfl | (simp; done) | (simp [*]; done)), (by first | rfl | (simp; done) | (simp [*]; done)), H', ⟨by have := HK1.out; have := HK2.out; omega⟩, ⟨ra_ HO_9⟩, ⟨ra_ HO_10⟩, ⟨ra_ HO_22⟩, ⟨ra_ HO_31⟩, ⟨bl_ HB⟩⟩
        ·rw [if_neg c20] at H
         have c20b0 : decide (0 < (rd t310 x24_1)) = false := decide_eq_false c20
         clear c20
         have H' := Aside0.mk H
         clear H
         have p317 : 0 ≤ (x33_2 : Int) := od_
         have q317 : x33_2 < (t314.length : Int) := od_
         obtain ⟨ad317, e317, hx317_0⟩ := Kd.at_int (Kd.R_reads' HO_31.out).2.2 x33_2 p317 q317
         cases e317
         replace p317 := eq_true p317
         replace q317 := eq_true q317
         go_wp2
         go_roundg k2
         case measure => have := HK1.out; have := HK2.out; omega
         case rel => exact ⟨(x13_2), (wrap64 (x33_2 + 1)), (by first | rfl | (simp; done) | (simp [*]; done)), (by first | rfl | (simp; done) | (simp [*]; done)), H', ⟨by have := HK1.out; have := HK2.out; omega⟩, ⟨ra_ HO_9⟩, ⟨ra_ HO_10⟩, ⟨ra_ HO_22⟩, ⟨ra_ HO_31⟩, ⟨bl_ HB⟩⟩
       ·rw [if_neg c19] at H
        have c19b0 : decide (x13_2 < 0) = false := decide_eq_false c19
        clear c19
        have H' := Aside0.mk H
        clear H
        have p317 : 0 ≤ (x33_2 : Int) := od_
        have q317 : x33_2 < (t314.length : Int) := od_
        obtain ⟨ad317, e317, hx317_0⟩ := Kd.at_int (Kd.R_reads' HO_31.out).2.2 x33_2 p317 q317
        cases e317
        replace p317 := eq_true p317
        replace q317 := eq_true q317
        go_wp2
        go_roundg k2
        case measure => have := HK1.out; have := HK2.out; omega
        case rel => exact ⟨(x13_2), (wrap64 (x33_2 + 1)), (by first | rfl | (simp; done) | (simp [*]; done)), (by first | rfl | (simp; done) | (simp [*]; done)), H', ⟨by have := HK1.out; have := HK2.out; omega⟩, ⟨ra_ HO_9⟩, ⟨ra_ HO_10⟩, ⟨ra_ HO_22⟩, ⟨ra_ HO_31⟩, ⟨bl_ HB⟩⟩
      ·rw [if_neg c16] at H
       have c16b0 : decide (x33_2 < (t314.length : Int)) = false := decide_eq_false c16
       clear c16
       replace H := ifn_ H
       obtain ⟨c31, H⟩ := H
       have LMc31 := Aside0.mk c31
       clear c31
       replace H : ∃ y_ : List Int, Aside0 (y_ = (x9_1 ++ [x13_2])) ∧ (impl_NextTo.l0 k2 l0 a1 a2 a3 y_ t310 t310 (t310.length : Int) (wrap64 (x24_1 + 1))) = some r := ⟨_, ⟨rfl⟩, yh_ H⟩
       obtain ⟨y321, Ny321, H⟩ := H
       have H' := Aside0.mk H
       clear H
       go_wp2_with (first | ((with_reducible refine gate_builtin (b := .append) (xs := #[.tmp 69, .tmp 71]) rfl ?_); at_builtin; refine Kd.R_append (Kd.int .i64) (w0 := w) w.heap.size rfl (.tmp 69) (.tmp 71) 24 3 (.int .i64 0) 8 rfl Try.underlying24 info3 rfl (by decide) (by omega) u9 x9_1 x13_2 [.int .i64 x13_2] (fun k_ => some k_ ≠ (.slice (some ad313) t310.length co9 : Value).ownBlock ∧ some k_ ≠ (.slice (some ad313) t310.length co9 : Value).ownBlock ∧ some k_ ≠ (.slice Ao15 t314.length co15 : Value).ownBlock) (fun _ => False) rfl rfl ?aP (fun _ hk => hk.elim) ?aF ?aO ?aB ?aS ?aL ?_; (case aP => exact rfl); (case aB => exact (bl_ HB)); (case aF => exact (fun k_ hk => ⟨Kd.fresh' (Kd.R_lt (ra_ HO_10)) k_ hk, Kd.fresh' (Kd.R_lt (ra_ HO_22)) k_ hk, Kd.fresh' (Kd.R_lt (ra_ HO_31)) k_ hk⟩)); (case aO => exact (ra_ HO_9)); (case aS => exact (below_size (bl_ HB))); (case aL => have := LMc31.out; omega); intro v322 w32 ho hb hg hat; rw [← Ny321.out] at ho; refine sh5_ (Kd.R_after (ok := (fun k_ => some k_ ≠ (.slice Ao15 t314.length co15 : Value).ownBlock)) (by (with_reducible repeat (first | apply Kd.R_alloc | apply Kd.R_drewN | apply Kd.R_drew)); exact Kd.R_mono HO_10.out (fun _ hk => ⟨hk.2, hk.1⟩)) hg hat) (Kd.R_after (ok := (fun k_ => some k_ ≠ (.slice Ao15 t314.length co15 : Value).ownBlock)) (by (with_reducible repeat (first | apply Kd.R_alloc | apply Kd.R_drewN | apply Kd.R_drew)); exact Kd.R_mono HO_22.out (fun _ hk => ⟨hk.2, hk.1⟩)) hg hat) (Kd.R_after (ok := (fun k_ => some k_ ≠ (.slice (some ad313) t310.length co9 : Value).ownBlock ∧ some k_ ≠ (.slice (some ad313) t310.length co9 : Value).ownBlock)) (by (with_reducible repeat (first | apply Kd.R_alloc | apply Kd.R_drewN | apply Kd.R_drew)); exact Kd.R_mono HO_31.out (fun _ hk => ⟨⟨hk.2.1, hk.2.2⟩, hk.1⟩)) hg hat) hb ho ?_; clear HO_10 HO_22 HO_31 HB HO_9 ho hb hg hat; intro HO_10 HO_22 HO_31 HB HO323))
       go_roundg k2
       case measure => have := HK1.out; have := HK2.out; omega
       case rel => exact ⟨(y321), (wrap64 (x24_1 + 1)), (by first | rfl | (simp; done) | (simp [*]; done)), H', ⟨by have := HK1.out; have := HK2.out; omega⟩, ⟨by (with_reducible repeat (first | apply Kd.R_alloc | apply Kd.R_drewN | apply Kd.R_drew)); exact Kd.R_mono HO323.out (fun _ hk => ⟨hk.1, hk.2.1⟩)⟩, ⟨by (with_reducible repeat (first | apply Kd.R_alloc | apply Kd.R_drewN | apply Kd.R_drew)); exact Kd.R_mono HO_10.out (fun _ hk => hk.2)⟩, ⟨by (with_reducible repeat (first | apply Kd.R_alloc | apply Kd.R_drewN | apply Kd.R_drew)); exact Kd.R_mono HO_22.out (fun _ hk => hk.2)⟩, ⟨bl_ HB⟩⟩
   ·rw [if_neg c10] at H
    have c10b0 : decide (x24_1 < (t310.length : Int)) = false := decide_eq_false c10
    clear c10
    obtain rfl := Option.some.inj H
    go_wp2
    go_ret
    exact ⟨_, er_, by (with_reducible repeat (first | apply Kd.R_alloc | apply Kd.R_drewN | apply Kd.R_drew)); exact Kd.R_mono HO_9.out (fun _ hk => trivial), bl_ HB⟩

/-! ### impl_TableOf: function 68 -/
def impl_TableOf.f (k : Nat) (l0 : List (S103)) (a1 : Int) (a2 : Int) (a3 : Int) : Option (Int × List Int × List Int) := (impl_DistancesTo.f k l0 a1 a2 a3).bind fun t325 => ((impl_NextTo.f k l0 a1 a2 a3).bind fun t328 => (some (a3, t325, t328)))
theorem impl_TableOf.mono : ∀ a0 a1 a2 a3 k, LeO (impl_TableOf.f k a0 a1 a2 a3) (impl_TableOf.f (k + 1) a0 a1 a2 a3) := by
 intro a0 a1 a2 a3 k
 unfold impl_TableOf.f
 repeat' first | (with_reducible first | exact impl_DistancesTo.mono _ _ _ _ _ | exact impl_NextTo.mono _ _ _ _ _ | exact LeO.refl _ | exact LeO.none _ | refine LeO.ite ?_ ?_ | refine LeO.bind ?_ (fun _ => ?_)) | exact LeO.none _ | refine LeO.ite ?_ ?_ | refine LeO.bind ?_ (fun _ => ?_)
set_option maxHeartbeats 8000000 in
set_option maxRecDepth 100000 in
theorem impl_TableOf.calls (k : Nat) (A0 : Option Addr) (c0 : Nat) (l0 : List (S103)) (a1 : Int) (a2 : Int) (a3 : Int) (r1 : Int) (r2 : List Int) (r3 : List Int) (w : World) (hr0 : Kd.C k103 w A0 l0.length l0) (hc0 : l0.length ≤ c0) (h : impl_TableOf.f k l0 a1 a2 a3 = some (r1, r2, r3)) :
  Calls Try.prog 68 #[.slice A0 l0.length c0, .int .i64 a1, .int .i64 a2, .int .i64 a3] w fun e w' => ∃ v1_ v2_ : Value, e = .returned (.agg #[.int .i64 r1, v1_, v2_]) ∧ Kd.R (Kd.int .i64) 3 w' w.heap.size (fun k_ => some k_ ≠ (v2_ : Value).ownBlock) v1_ r2 ∧ Kd.R (Kd.int .i64) 3 w' w.heap.size (fun k_ => some k_ ≠ (v1_ : Value).ownBlock) v2_ r3 ∧ Below w.heap.size w w' := by
 have hu38 := Try.underlying38
 have HR0 := Aside0.mk hr0
 have HC0 := Aside0.mk hc0
 clear hr0 hc0
 have HB := Aside0.mk (Below.refl w.heap.size w)
 have H := h
 clear h
 unfold impl_TableOf.f at H
 replace H := bs_ H
 obtain ⟨t325, A5, H⟩ := H
 replace H := bs_ H
 obtain ⟨t328, A6, H⟩ := H
 simp only [Option.some.injEq, Prod.mk.injEq] at H
 obtain ⟨rfl, rfl, rfl⟩ := H
 go_enter Try.func68, Try.ntmps68
 go_wp2_with (first | ((with_reducible refine gd_ 8 ?_); refine bx_ 8 38 #[.int .i64 0, .slice none 0 0, .slice none 0 0] ?_; intro gb324 hg w7 hbox hb; refine sh4_ (below_step (bl_ HB) hb) hbox (ge_ hg (bl_ HB)) (ge_ hg (bl_ HB)) ?_; clear HB hb hbox hg; intro HB BK324 GW324 GE324) | ((with_reducible refine gate_callee (f := 59) rfl ?_); refine gl_ 14 Try.func59 (impl_DistancesTo.calls k _ _ l0 a1 a2 a3 t325 _ (ck_ HR0 HB) HC0.out A5.out) ?_; rintro e w8 ⟨v326, rfl, ho0, hb⟩; refine ⟨_, rfl, sh3_ (Kd.R_lower ho0 (below_size (bl1_ HB GE324))) (blk_below (bk_ BK324) hb) (below_step (bl1_ HB GE324) hb) ?_⟩; clear BK324 HB hb ho0; intro HO327 BK324 HB) | ((with_reducible refine gate_callee (f := 66) rfl ?_); refine gl_ 19 Try.func66 (impl_NextTo.calls k _ _ l0 a1 a2 a3 t328 _ (ck_ HR0 HB) HC0.out A6.out) ?_; rintro e w9 ⟨v329, rfl, ho0, hb⟩; refine ⟨_, rfl, sh4_ (Kd.R_elder' (ra_ HO327) (Kd.R_base ho0) hb) (Kd.R_lower (Kd.R_new' ho0 (Kd.R_lt (ra_ HO327))) (below_size (bl1_ HB GE324))) (blk_below (bk_ BK324) hb) (below_step (bl1_ HB GE324) hb) ?_⟩; clear HO327 BK324 HB hb ho0; intro HO327 HO330 BK324 HB; obtain ⟨Ao10, co10, eo10⟩ := Kd.R_slice HO330.out; subst eo10; obtain ⟨Ao11, co11, eo11⟩ := Kd.R_slice HO327.out; subst eo11; have hcz12 := cf3_ BK324))
 refine bodyPost_ret (results_cell_row rfl _ _ gb324 38 #[.int .i64 a3, .slice Ao11 t325.length co11, .slice Ao10 t328.length co10] (0, 0) _ rfl (by (with_reducible repeat (first | refine blk_drewN ?_ _ | refine blk_drew ?_ | refine blk_alloc ?_ _)); refine blk_put (cs := #[.int .i64 a3, .slice Ao11 t325.length co11, .slice none 0 0]) ?_ 2 _ rfl; (with_reducible repeat (first | refine blk_drewN ?_ _ | refine blk_drew ?_ | refine blk_alloc ?_ _)); refine blk_put (cs := #[.int .i64 a3, .slice none 0 0, .slice none 0 0]) ?_ 1 _ rfl; (with_reducible repeat (first | refine blk_drewN ?_ _ | refine blk_drew ?_ | refine blk_alloc ?_ _)); refine blk_put (cs := #[.int .i64 0, .slice none 0 0, .slice none 0 0]) ?_ 0 _ rfl; (with_reducible repeat (first | refine blk_drewN ?_ _ | refine blk_drew ?_ | refine blk_alloc ?_ _)); exact BK324.out) Try.underlying38 rfl (by kernel_rfl)) rfl ?_
 exact ⟨_, _, er_, by (with_reducible repeat (first | apply Kd.R_alloc | apply Kd.R_drewN | apply Kd.R_drew)); exact Kd.R_mono (Kd.R_far (p := ⟨gb324, 2, none⟩) (Kd.R_far (p := ⟨gb324, 1, none⟩) (Kd.R_far (p := ⟨gb324, 0, none⟩) (Kd.R_types HO327.out BK324.out (by decide)) (fun _ hk => hk.2) (.int .i64 a3)) (fun _ hk => hk.2) (.slice Ao11 t325.length co11)) (fun _ hk => hk.2) (.slice Ao10 t328.length co10)) (fun _ hk => hk.1.2), by (with_reducible repeat (first | apply Kd.R_alloc | apply Kd.R_drewN | apply Kd.R_drew)); exact Kd.R_mono (Kd.R_far (p := ⟨gb324, 2, none⟩) (Kd.R_far (p := ⟨gb324, 1, none⟩) (Kd.R_far (p := ⟨gb324, 0, none⟩) (Kd.R_types HO330.out BK324.out (by decide)) (fun _ hk => hk.2) (.int .i64 a3)) (fun _ hk => hk.2) (.slice Ao11 t325.length co11)) (fun _ hk => hk.2) (.slice Ao10 t328.length co10)) (fun _ hk => hk.1.2), bl1_ HB GE324⟩

/-! ### laws_markIntS: function 47 -/
def laws_markIntS.l0 : Nat → List Int → Int → Int → Option (Int × List Int)
 | 0, _, _, _ => none
 | k + 1, x0, x1, x5 => if x5 < (x0.length : Int) then (if 0 ≤ x5 then (laws_markIntS.l0 k (x0.set (x5 : Int).toNat x1) (wrap64 (x1 + 1)) (wrap64 (x5 + 1))) else (none)) else (some (x1, x0))
def laws_markIntS.f (k : Nat) (l0 : List Int) (a1 : Int) : Option (Int × List Int) := laws_markIntS.l0 k l0 a1 0
theorem laws_markIntS.mono_l : ∀ k, (∀ y0 y1 y2, LeO (laws_markIntS.l0 k y0 y1 y2) (laws_markIntS.l0 (k + 1) y0 y1 y2))
 | 0 => fun _ _ _ r h => by simp [laws_markIntS.l0] at h
 | k + 1 => by
  have ih0 := laws_markIntS.mono_l k
  ·intro y0 y1 y2
   unfold laws_markIntS.l0
   repeat' first | (with_reducible first | exact ih0 _ _ _ | exact LeO.refl _ | exact LeO.none _ | refine LeO.ite ?_ ?_ | refine LeO.bind ?_ (fun _ => ?_)) | exact LeO.none _ | refine LeO.ite ?_ ?_ | refine LeO.bind ?_ (fun _ => ?_)
theorem laws_markIntS.mono : ∀ a0 a1 k, LeO (laws_markIntS.f k a0 a1) (laws_markIntS.f (k + 1) a0 a1) := by
 intro a0 a1 k
 have ih0 := laws_markIntS.mono_l k
 unfold laws_markIntS.f
 repeat' first | (with_reducible first | exact ih0 _ _ _ | exact LeO.refl _ | exact LeO.none _ | refine LeO.ite ?_ ?_ | refine LeO.bind ?_ (fun _ => ?_)) | exact LeO.none _ | refine LeO.ite ?_ ?_ | refine LeO.bind ?_ (fun _ => ?_)
set_option maxHeartbeats 8000000 in
set_option maxRecDepth 100000 in
theorem laws_markIntS.calls (k : Nat) (P0_ : Nat → Prop) (u9000_ : Value) (l0 : List Int) (a1 : Int) (r1 : Int) (r2 : List Int) (w0 w : World) (hB : Below w0.heap.size w0 w) (ho0 : Kd.R (Kd.int .i64) 3 w w0.heap.size P0_ u9000_ l0) (h : laws_markIntS.f k l0 a1 = some (r1, r2)) :
  Calls Try.prog 47 #[u9000_, .int .i64 a1] w fun e w' => e = .returned (.int .i64 r1) ∧ Kd.R (Kd.int .i64) 3 w' w0.heap.size (fun k_ => (P0_ k_ ∨ w.heap.size ≤ k_)) u9000_ r2 ∧ Below w0.heap.size w0 w' ∧ Kept w w' (fun k_ => P0_ k_) := by
 have HO0 := Aside0.mk (show Kd.R (Kd.int .i64) 3 w w0.heap.size (fun k_ => (P0_ k_ ∨ w.heap.size ≤ k_)) u9000_ l0 from Kd.R_mono ho0 (fun k_ hk => (.inl hk)))
 have HK := Aside0.mk (Kept.refl w (fun k_ => P0_ k_))
 have HW0 := Aside0.mk hB.size
 have HB := Aside0.mk hB
 clear hB
 have H := h
 clear h
 unfold laws_markIntS.f at H
 have H' := Aside0.mk H
 clear H
 go_enter Try.func47, Try.ntmps47
 go_wp2
 go_loopg [1, 5] k (fun kq v1 v5 w' => ∃ (x0_1 : List Int) (x1_1 : Int) (x5_1 : Int), v1 = .int .i64 x1_1 ∧ v5 = .int .i64 x5_1 ∧ Aside0 (laws_markIntS.l0 kq x0_1 x1_1 x5_1 = some (r1, r2)) ∧ Aside0 (kq ≤ k) ∧ Aside0 (Kd.R (Kd.int .i64) 3 w' w0.heap.size (fun k_ => (P0_ k_ ∨ w.heap.size ≤ k_)) u9000_ x0_1) ∧ Aside0 (Kept w w' (fun k_ => P0_ k_)) ∧ Aside0 (Below w0.heap.size w0 w'))
 case atStart => exact ⟨(l0), (a1), (0), (by first | rfl | (simp; done) | (simp [*]; done)), (by first | rfl | (simp; done) | (simp [*]; done)), H', ⟨Nat.le_refl _⟩, ⟨ra_ HO0⟩, ⟨by repeat (first | (with_reducible first | exact HK.out | apply Kept.alloc | apply Kept.drewN | apply Kept.drew) | exact HK.out)⟩, ⟨bl_ HB⟩⟩
 case round =>
  clear H'
  try clear p2
  obtain ⟨x0_1, x1_1, x5_1, rfl, rfl, HA, HK1, HO_0, HK, HB⟩ := hrel
  cases gk with
  | zero => exact absurd HA.out (by simp [laws_markIntS.l0])
  | succ k1 =>
   have H := HA.out
   clear HA
   simp only [laws_markIntS.l0] at H
   by_cases c3 : x5_1 < (x0_1.length : Int)
   ·rw [if_pos c3] at H
    have c3b0 := decide_eq_true c3
    clear c3
    replace H := ifn_ H
    obtain ⟨c4, H⟩ := H
    have c4b0 := decide_eq_true c4
    clear c4
    replace H : ∃ y_ : List Int, Aside0 (y_ = (x0_1.set (x5_1 : Int).toNat x1_1)) ∧ (laws_markIntS.l0 k1 y_ (wrap64 (x1_1 + 1)) (wrap64 (x5_1 + 1))) = some (r1, r2) := ⟨_, ⟨rfl⟩, yh_ H⟩
    obtain ⟨y331, Ny331, H⟩ := H
    have H' := Aside0.mk H
    clear H
    obtain ⟨Ao6, co6, eo6⟩ := Kd.R_slice HO_0.out
    subst eo6
    have p5 : 0 ≤ (x5_1 : Int) := od_
    have q5 : (x5_1 : Int) < ((x0_1.length : Int) : Int) := od_
    obtain ⟨go5, co5, eo5, gb5, gl5, cl5, HG5⟩ := Kd.R_form HO_0.out (by omega)
    (first | cases eo5 | (injection eo5 with ea_ en_ ec_; (first | subst ea_ | (injection ea_ with ea_; subst ea_)); subst ec_; clear en_))
    have GB5 := Aside0.mk gb5
    have GG5 := Aside0.mk HG5
    clear gb5 gl5 HG5
    have HMgo5 := Aside0.mk (show (P0_ go5 ∨ w.heap.size ≤ go5) from (HO_0.out.1 _ rfl))
    obtain ⟨hx5_0, hf5_0⟩ := Kd.R_celln 0 HO_0.out (x5_1 : Int) p5 q5
    replace p5 := eq_true p5
    replace q5 := eq_true q5
    have HP7 := Kd.R_putg HO_0.out (x5_1 : Int) x1_1
    go_wp2_with (first | ((with_reducible refine gate_store (t := 3) (p := 15) rfl ?_); refine store_event (t := 3) (p := 15) (v := ?vo_w8) (w1 := (wr.setCell ⟨go5, (x5_1 : Int).toNat, none⟩ (.int .i64 x1_1))) ?hg ?ho ?hn ?hr ?_; (case ho => rfl); (case hg => rfl); (case hn => rfl); (case hr => first | (go_simp; done) | (go_simp; rfl)); intro w8 hw; have hg : wr.grownBy w8 (some go5) := (by rw [hw]; exact HP7.2); have hp_ : Kd.R (Kd.int .i64) 3 w8 w0.heap.size (fun k_ => (P0_ k_ ∨ w.heap.size ≤ k_)) (.slice (some ⟨go5, 0, none⟩) x0_1.length co6) y331 := (by rw [hw, Ny331.out]; exact HP7.1); clear HP7; refine sh3_ hp_ ((by rw [hw]; exact below_set (HB.out) GB5.out : Below w0.heap.size w0 w8)) (Kept.of_grown (S := (fun k_ => P0_ k_)) hg (by repeat (first | (with_reducible first | exact HK.out | apply Kept.alloc | apply Kept.drewN | apply Kept.drew) | exact HK.out)) (fun k_ e_ => (HO_0.out.1 k_ e_))) ?_; clear HO_0 HB HK; intro HO_0 HB HK; clear hg hw hp_))
    go_roundg k1
    case measure => have := HK1.out; omega
    case rel => exact ⟨(y331), (wrap64 (x1_1 + 1)), (wrap64 (x5_1 + 1)), (by first | rfl | (simp; done) | (simp [*]; done)), (by first | rfl | (simp; done) | (simp [*]; done)), H', ⟨by have := HK1.out; omega⟩, ⟨ra_ HO_0⟩, ⟨by repeat (first | (with_reducible first | exact HK.out | apply Kept.alloc | apply Kept.drewN | apply Kept.drew) | exact HK.out)⟩, ⟨bl_ HB⟩⟩
   ·rw [if_neg c3] at H
    have c3b0 := decide_eq_false c3
    clear c3
    simp only [Option.some.injEq, Prod.mk.injEq] at H
    obtain ⟨rfl, rfl⟩ := H
    obtain ⟨Ao9, co9, eo9⟩ := Kd.R_slice HO_0.out
    subst eo9
    go_wp2
    go_ret
    exact ⟨er_, ra_ HO_0, bl_ HB, by repeat (first | (with_reducible first | exact HK.out | apply Kept.alloc | apply Kept.drewN | apply Kept.drew) | exact HK.out)⟩

/-! ### laws_markTable: function 69 -/
def laws_markTable.f (k : Nat) (a0_0 : Int) (l0_1 : List Int) (l0_2 : List Int) (a1 : Int) : Option (Int × List Int × List Int) := (laws_markIntS.f k l0_1 a1).bind fun bt333 => ((laws_markIntS.f k l0_2 bt333.1).bind fun bt335 => (some (bt335.1, bt333.2, bt335.2)))
theorem laws_markTable.mono : ∀ a0 a1 a2 a3 k, LeO (laws_markTable.f k a0 a1 a2 a3) (laws_markTable.f (k + 1) a0 a1 a2 a3) := by
 intro a0 a1 a2 a3 k
 unfold laws_markTable.f
 repeat' first | (with_reducible first | exact laws_markIntS.mono _ _ _ | exact LeO.refl _ | exact LeO.none _ | refine LeO.ite ?_ ?_ | refine LeO.bind ?_ (fun _ => ?_)) | exact LeO.none _ | refine LeO.ite ?_ ?_ | refine LeO.bind ?_ (fun _ => ?_)
set_option maxHeartbeats 8000000 in
set_option maxRecDepth 100000 in
theorem laws_markTable.calls (k : Nat) (a0_0 : Int) (P0_1_ : Nat → Prop) (u9000_ : Value) (l0_1 : List Int) (P0_2_ : Nat → Prop) (u9001_ : Value) (l0_2 : List Int) (a1 : Int) (r1 : Int) (r2 : List Int) (r3 : List Int) (w0 w : World) (hB : Below w0.heap.size w0 w) (ho0_1 : Kd.R (Kd.int .i64) 3 w w0.heap.size P0_1_ u9000_ l0_1) (hp0_1_0_2 : ∀ k_, P0_1_ k_ → ¬ P0_2_ k_) (ho0_2 : Kd.R (Kd.int .i64) 3 w w0.heap.size P0_2_ u9001_ l0_2) (hp0_2_0_1 : ∀ k_, P0_2_ k_ → ¬ P0_1_ k_) (h : laws_markTable.f k a0_0 l0_1 l0_2 a1 = some (r1, r2, r3)) :
  Calls Try.prog 69 #[.agg #[.int .i64 a0_0, u9000_, u9001_], .int .i64 a1] w fun e w' => e = .returned (.int .i64 r1) ∧ Kd.R (Kd.int .i64) 3 w' w0.heap.size (fun k_ => ((P0_1_ k_ ∨ P0_2_ k_) ∨ w.heap.size ≤ k_)) u9000_ r2 ∧ Kd.R (Kd.int .i64) 3 w' w0.heap.size (fun k_ => ((P0_1_ k_ ∨ P0_2_ k_) ∨ w.heap.size ≤ k_)) u9001_ r3 ∧ Below w0.heap.size w0 w' ∧ Kept w w' (fun k_ => P0_1_ k_ ∨ P0_2_ k_) := by
 have hu38 := Try.underlying38
 have HO0_1 := Aside0.mk (show Kd.R (Kd.int .i64) 3 w w0.heap.size (fun k_ => ((P0_1_ k_ ∨ P0_2_ k_) ∨ w.heap.size ≤ k_) ∧ some k_ ≠ (u9001_ : Value).ownBlock) u9000_ l0_1 from Kd.R_mono ho0_1 (fun k_ hk => ⟨(.inl (.inl hk)), fun e_ => hp0_1_0_2 k_ hk (ho0_2.1 k_ e_.symm)⟩))
 have HO0_2 := Aside0.mk (show Kd.R (Kd.int .i64) 3 w w0.heap.size (fun k_ => ((P0_1_ k_ ∨ P0_2_ k_) ∨ w.heap.size ≤ k_) ∧ some k_ ≠ (u9000_ : Value).ownBlock) u9001_ l0_2 from Kd.R_mono ho0_2 (fun k_ hk => ⟨(.inl (.inr hk)), fun e_ => hp0_2_0_1 k_ hk (ho0_1.1 k_ e_.symm)⟩))
 have HK := Aside0.mk (Kept.refl w (fun k_ => P0_1_ k_ ∨ P0_2_ k_))
 have HW0 := Aside0.mk hB.size
 have HB := Aside0.mk hB
 clear hB
 have H := h
 clear h
 unfold laws_markTable.f at H
 replace H := bs_ H
 obtain ⟨⟨t333, t334⟩, A3, H⟩ := H
 dsimp only at H
 replace H := bs_ H
 obtain ⟨⟨t335, t336⟩, A4, H⟩ := H
 dsimp only at H
 simp only [Option.some.injEq, Prod.mk.injEq] at H
 obtain ⟨rfl, rfl, rfl⟩ := H
 obtain ⟨Ao5, co5, eo5⟩ := Kd.R_slice HO0_1.out
 subst eo5
 obtain ⟨Ao6, co6, eo6⟩ := Kd.R_slice HO0_2.out
 subst eo6
 go_enter Try.func69, Try.ntmps69
 go_wp2_with (first | ((with_reducible refine gd_ 2 ?_); refine bx_ 2 38 #[.int .i64 a0_0, .slice Ao5 l0_1.length co5, .slice Ao6 l0_2.length co6] ?_; intro gb332 hg w7 hbox hb; refine sh7_ (Kd.R_below (ra_ HO0_1) hb) (Kd.R_below (ra_ HO0_2) hb) (Kept.below (S := (fun k_ => P0_1_ k_ ∨ P0_2_ k_)) (by repeat (first | (with_reducible first | exact HK.out | apply Kept.alloc | apply Kept.drewN | apply Kept.drew) | exact HK.out)) hb) (below_step (bl_ HB) hb) hbox ((by rw [hg]; exact (by first | exact HK.out.1 | exact (show Kept w _ (fun k_ => P0_1_ k_ ∨ P0_2_ k_) from by repeat (first | (with_reducible first | exact HK.out | apply Kept.alloc | apply Kept.drewN | apply Kept.drew) | exact HK.out)).1) : w.heap.size ≤ gb332)) (ge_ hg (bl_ HB)) ?_; clear HO0_1 HO0_2 HK HB hb hbox hg; intro HO0_1 HO0_2 HK HB BK332 GW332 GE332; have hcz8 := cf3_ BK332) | ((with_reducible refine gate_callee (f := 47) rfl ?_); refine goesL_ (some 8) rfl rfl Try.func47 (by kernel_rfl) rfl #[.slice Ao5 l0_1.length co5, .int .i64 a1] rfl mp_ ?_; (with_reducible refine (laws_markIntS.calls k (fun k_ => some k_ = (.slice Ao5 l0_1.length co5 : Value).ownBlock) (.slice Ao5 l0_1.length co5) l0_1 a1 t333 t334 w0 _ ?side1 ?side2 A3.out).mono ?_); (case side1 => repeat (first | (with_reducible first | exact HB.out | apply below_alloc | apply pw_below_drewN | apply below_drew1 | refine below_set ?_ GE332.out) | exact HB.out)); (case side2 => exact Kd.R_tight rfl HO0_1.out); rintro e w9 ⟨rfl, hy0, hb, hkp⟩; refine ⟨_, rfl, sh5_ (Kd.R_reok rfl hy0 (fun k_ e_ => HO0_1.out.1 k_ e_)) (Kd.R_mono (ok' := fun k_ => ((P0_1_ k_ ∨ P0_2_ k_) ∨ w.heap.size ≤ k_) ∧ some k_ ≠ (.slice Ao5 l0_1.length co5 : Value).ownBlock) (Kd.R_keptB (HO0_2.out) hkp (fun k_ hk_ hs_ => (hk_.2) hs_)) (fun k_ hk_ => ⟨hx_ hk_, hx_ hk_⟩)) (blk_kept (bk_ BK332) hkp (fun hs_ => (fun e_ => (Kd.R_ne HO0_1.out BK332.out (by decide)) e_) hs_)) (Kept.then_ (S := (fun k_ => P0_1_ k_ ∨ P0_2_ k_)) (by repeat (first | (with_reducible first | exact HK.out | apply Kept.alloc | apply Kept.drewN | apply Kept.drew | refine Kept.setCell ?_ (.inr GW332.out) _) | exact HK.out)) hkp (fun k_ hs_ => (fun e_ => (HO0_1.out.1 k_ e_.symm).1) hs_)) hb ?_⟩; clear HO0_1 HO0_2 BK332 HK HB hb hkp hy0; intro HO0_1 HO0_2 BK332 HK HB; have hcz10 := cf3_ BK332) | ((with_reducible refine gate_callee (f := 47) rfl ?_); refine goesL_ (some 12) rfl rfl Try.func47 (by kernel_rfl) rfl #[.slice Ao6 l0_2.length co6, .int .i64 t333] rfl mp_ ?_; (with_reducible refine (laws_markIntS.calls k (fun k_ => some k_ = (.slice Ao6 l0_2.length co6 : Value).ownBlock) (.slice Ao6 l0_2.length co6) l0_2 t333 t335 t336 w0 _ ?side1 ?side2 A4.out).mono ?_); (case side1 => repeat (first | (with_reducible first | exact HB.out | apply below_alloc | apply pw_below_drewN | apply below_drew1 | refine below_set ?_ GE332.out) | exact HB.out)); (case side2 => exact Kd.R_tight rfl HO0_2.out); rintro e w11 ⟨rfl, hy0, hb, hkp⟩; refine ⟨_, rfl, sh5_ (Kd.R_mono (ok' := fun k_ => ((P0_1_ k_ ∨ P0_2_ k_) ∨ w.heap.size ≤ k_) ∧ some k_ ≠ (.slice Ao6 l0_2.length co6 : Value).ownBlock) (Kd.R_keptB (HO0_1.out) hkp (fun k_ hk_ hs_ => (hk_.2) hs_)) (fun k_ hk_ => ⟨hx_ hk_, hx_ hk_⟩)) (Kd.R_reok rfl hy0 (fun k_ e_ => HO0_2.out.1 k_ e_)) (blk_kept (bk_ BK332) hkp (fun hs_ => (fun e_ => (Kd.R_ne HO0_2.out BK332.out (by decide)) e_) hs_)) (Kept.then_ (S := (fun k_ => P0_1_ k_ ∨ P0_2_ k_)) (by repeat (first | (with_reducible first | exact HK.out | apply Kept.alloc | apply Kept.drewN | apply Kept.drew | refine Kept.setCell ?_ (.inr GW332.out) _) | exact HK.out)) hkp (fun k_ hs_ => (fun e_ => (HO0_2.out.1 k_ e_.symm).1) hs_)) hb ?_⟩; clear HO0_1 HO0_2 BK332 HK HB hb hkp hy0; intro HO0_1 HO0_2 BK332 HK HB))
 go_ret
 exact ⟨er_, by (with_reducible repeat (first | apply Kd.R_alloc | apply Kd.R_drewN | apply Kd.R_drew)); exact Kd.R_mono HO0_1.out (fun _ hk => hk.1), by (with_reducible repeat (first | apply Kd.R_alloc | apply Kd.R_drewN | apply Kd.R_drew)); exact Kd.R_mono HO0_2.out (fun _ hk => hk.1), bl1_ HB GE332, by repeat (first | (with_reducible first | exact HK.out | apply Kept.alloc | apply Kept.drewN | apply Kept.drew | refine Kept.setCell ?_ (.inr GW332.out) _) | exact HK.out)⟩

/-! ### laws_heldIntS: function 48 -/
def laws_heldIntS.l0 : Nat → List Int → Int → Int → Option (Int)
 | 0, _, _, _ => none
 | k + 1, x0, x1, x5 => if x5 < (x0.length : Int) then (if 0 ≤ x5 then (if (rd x0 x5) = x1 then (laws_heldIntS.l0 k x0 (wrap64 (x1 + 1)) (wrap64 (x5 + 1))) else (some (-1))) else (none)) else (some x1)
def laws_heldIntS.f (k : Nat) (l0 : List Int) (a1 : Int) : Option (Int) := laws_heldIntS.l0 k l0 a1 0
theorem laws_heldIntS.mono_l : ∀ k, (∀ y0 y1 y2, LeO (laws_heldIntS.l0 k y0 y1 y2) (laws_heldIntS.l0 (k + 1) y0 y1 y2))
 | 0 => fun _ _ _ r h => by simp [laws_heldIntS.l0] at h
 | k + 1 => by
  have ih0 := laws_heldIntS.mono_l k
  ·intro y0 y1 y2
   unfold laws_heldIntS.l0
   repeat' first | (with_reducible first | exact ih0 _ _ _ | exact LeO.refl _ | exact LeO.none _ | refine LeO.ite ?_ ?_ | refine LeO.bind ?_ (fun _ => ?_)) | exact LeO.none _ | refine LeO.ite ?_ ?_ | refine LeO.bind ?_ (fun _ => ?_)
theorem laws_heldIntS.mono : ∀ a0 a1 k, LeO (laws_heldIntS.f k a0 a1) (laws_heldIntS.f (k + 1) a0 a1) := by
 intro a0 a1 k
 have ih0 := laws_heldIntS.mono_l k
 unfold laws_heldIntS.f
 repeat' first | (with_reducible first | exact ih0 _ _ _ | exact LeO.refl _ | exact LeO.none _ | refine LeO.ite ?_ ?_ | refine LeO.bind ?_ (fun _ => ?_)) | exact LeO.none _ | refine LeO.ite ?_ ?_ | refine LeO.bind ?_ (fun _ => ?_)
set_option maxHeartbeats 8000000 in
set_option maxRecDepth 100000 in
theorem laws_heldIntS.calls (k : Nat) (A0 : Option Addr) (c0 : Nat) (l0 : List Int) (a1 : Int) (r : Int) (w : World) (hr0 : Kd.C (Kd.int .i64) w A0 l0.length l0) (hc0 : l0.length ≤ c0) (h : laws_heldIntS.f k l0 a1 = some r) :
  Calls Try.prog 48 #[.slice A0 l0.length c0, .int .i64 a1] w fun e w' => e = .returned (.int .i64 r) ∧ Drawn0 w w' := by
 have HR0 := Aside0.mk hr0
 have HC0 := Aside0.mk hc0
 clear hr0 hc0
 have H := h
 clear h
 unfold laws_heldIntS.f at H
 have H' := Aside0.mk H
 clear H
 go_enter Try.func48, Try.ntmps48
 go_wp2
 go_loopg [1, 5] k (fun kq v1 v5 w' => ∃ (x1_1 : Int) (x5_1 : Int), v1 = .int .i64 x1_1 ∧ v5 = .int .i64 x5_1 ∧ Aside0 (laws_heldIntS.l0 kq l0 x1_1 x5_1 = some r) ∧ Aside0 (kq ≤ k) ∧ Drawn0 w w')
 case atStart => exact ⟨(a1), (0), (by first | rfl | (simp; done) | (simp [*]; done)), (by first | rfl | (simp; done) | (simp [*]; done)), H', ⟨Nat.le_refl _⟩, by repeat (first | exact Drawn0.refl _ | apply Drawn0.step)⟩
 case round =>
  clear H'
  try clear p2
  obtain ⟨x1_1, x5_1, rfl, rfl, HA, HK1, ⟨m1, rfl⟩⟩ := hrel
  cases gk with
  | zero => exact absurd HA.out (by simp [laws_heldIntS.l0])
  | succ k1 =>
   have H := HA.out
   clear HA
   simp only [laws_heldIntS.l0] at H
   by_cases c3 : x5_1 < (l0.length : Int)
   ·rw [if_pos c3] at H
    have c3b0 := decide_eq_true c3
    clear c3
    replace H := ifn_ H
    obtain ⟨c4, H⟩ := H
    have c4b0 := decide_eq_true c4
    clear c4
    by_cases c5 : (rd l0 x5_1) = x1_1
    ·rw [if_pos c5] at H
     obtain ⟨c5b0, c5b1⟩ := bt_ c5
     clear c5
     have H' := Aside0.mk H
     clear H
     have p337 : 0 ≤ (x5_1 : Int) := od_
     have q337 : x5_1 < (l0.length : Int) := od_
     obtain ⟨ad337, e337, hx337_0⟩ := Kd.at_int HR0.out x5_1 p337 q337
     cases e337
     replace p337 := eq_true p337
     replace q337 := eq_true q337
     go_wp2
     go_roundg k1
     case measure => have := HK1.out; omega
     case rel => exact ⟨(wrap64 (x1_1 + 1)), (wrap64 (x5_1 + 1)), (by first | rfl | (simp; done) | (simp [*]; done)), (by first | rfl | (simp; done) | (simp [*]; done)), H', ⟨by have := HK1.out; omega⟩, by repeat (first | exact Drawn0.refl _ | apply Drawn0.step)⟩
    ·rw [if_neg c5] at H
     obtain ⟨c5b0, c5b1⟩ := bn_ c5
     obtain rfl := Option.some.inj H
     have p337 : 0 ≤ (x5_1 : Int) := od_
     have q337 : x5_1 < (l0.length : Int) := od_
     obtain ⟨ad337, e337, hx337_0⟩ := Kd.at_int HR0.out x5_1 p337 q337
     cases e337
     replace p337 := eq_true p337
     replace q337 := eq_true q337
     go_wp2
     go_ret
     exact ⟨by first | rfl | (simp; done) | (simp [*]; done), by repeat (first | exact Drawn0.refl _ | apply Drawn0.step)⟩
   ·rw [if_neg c3] at H
    have c3b0 := decide_eq_false c3
    clear c3
    obtain rfl := Option.some.inj H
    go_wp2
    go_ret
    exact ⟨by first | rfl | (simp; done) | (simp [*]; done), by repeat (first | exact Drawn0.refl _ | apply Drawn0.step)⟩

/-! ### laws_heldTable: function 70 -/
def laws_heldTable.f (k : Nat) (a0_0 : Int) (l0_1 : List Int) (l0_2 : List Int) (a1 : Int) : Option (Int) := (laws_heldIntS.f k l0_1 a1).bind fun t339 => (if t339 < 0 then (some (-1)) else ((laws_heldIntS.f k l0_2 t339).bind fun t340 => (if t340 < 0 then (some (-1)) else (some t340))))
theorem laws_heldTable.mono : ∀ a0 a1 a2 a3 k, LeO (laws_heldTable.f k a0 a1 a2 a3) (laws_heldTable.f (k + 1) a0 a1 a2 a3) := by
 intro a0 a1 a2 a3 k
 unfold laws_heldTable.f
 repeat' first | (with_reducible first | exact laws_heldIntS.mono _ _ _ | exact LeO.refl _ | exact LeO.none _ | refine LeO.ite ?_ ?_ | refine LeO.bind ?_ (fun _ => ?_)) | exact LeO.none _ | refine LeO.ite ?_ ?_ | refine LeO.bind ?_ (fun _ => ?_)
set_option maxHeartbeats 8000000 in
set_option maxRecDepth 100000 in
theorem laws_heldTable.calls (k : Nat) (a0_0 : Int) (A0_1 : Option Addr) (c0_1 : Nat) (l0_1 : List Int) (A0_2 : Option Addr) (c0_2 : Nat) (l0_2 : List Int) (a1 : Int) (r : Int) (w : World) (hr0_1 : Kd.C (Kd.int .i64) w A0_1 l0_1.length l0_1) (hc0_1 : l0_1.length ≤ c0_1) (hr0_2 : Kd.C (Kd.int .i64) w A0_2 l0_2.length l0_2) (hc0_2 : l0_2.length ≤ c0_2) (h : laws_heldTable.f k a0_0 l0_1 l0_2 a1 = some r) :
  Calls Try.prog 70 #[.agg #[.int .i64 a0_0, .slice A0_1 l0_1.length c0_1, .slice A0_2 l0_2.length c0_2], .int .i64 a1] w fun e w' => e = .returned (.int .i64 r) ∧ Below w.heap.size w w' := by
 have hu38 := Try.underlying38
 have HR0_1 := Aside0.mk hr0_1
 have HC0_1 := Aside0.mk hc0_1
 clear hr0_1 hc0_1
 have HR0_2 := Aside0.mk hr0_2
 have HC0_2 := Aside0.mk hc0_2
 clear hr0_2 hc0_2
 have HB := Aside0.mk (Below.refl w.heap.size w)
 have H := h
 clear h
 unfold laws_heldTable.f at H
 replace H := bs_ H
 obtain ⟨t339, A3, H⟩ := H
 by_cases c4 : t339 < 0
 ·rw [if_pos c4] at H
  have c4b0 := decide_eq_true c4
  clear c4
  obtain rfl := Option.some.inj H
  go_enter Try.func70, Try.ntmps70
  go_wp2_with (first | ((with_reducible refine gd_ 2 ?_); refine bx_ 2 38 #[.int .i64 a0_0, .slice A0_1 l0_1.length c0_1, .slice A0_2 l0_2.length c0_2] ?_; intro gb338 hg w5 hbox hb; refine sh4_ (below_step (bl_ HB) hb) hbox (ge_ hg (bl_ HB)) (ge_ hg (bl_ HB)) ?_; clear HB hb hbox hg; intro HB BK338 GW338 GE338; have hcz6 := cf3_ BK338) | ((with_reducible refine gate_callee (f := 48) rfl ?_); refine gl_ 8 Try.func48 (laws_heldIntS.calls k _ _ l0_1 a1 t339 _ (ck_ HR0_1 HB) HC0_1.out A3.out) ?_; rintro e w' ⟨rfl, ⟨nd, rfl⟩⟩; refine ⟨_, rfl, ?_⟩))
  go_ret
  exact ⟨er_, bl1_ HB GE338⟩
 ·rw [if_neg c4] at H
  have c4b0 := decide_eq_false c4
  clear c4
  replace H := bs_ H
  obtain ⟨t340, A7, H⟩ := H
  by_cases c8 : t340 < 0
  ·rw [if_pos c8] at H
   have c8b0 := decide_eq_true c8
   clear c8
   obtain rfl := Option.some.inj H
   go_enter Try.func70, Try.ntmps70
   go_wp2_with (first | ((with_reducible refine gd_ 2 ?_); refine bx_ 2 38 #[.int .i64 a0_0, .slice A0_1 l0_1.length c0_1, .slice A0_2 l0_2.length c0_2] ?_; intro gb338 hg w9 hbox hb; refine sh4_ (below_step (bl_ HB) hb) hbox (ge_ hg (bl_ HB)) (ge_ hg (bl_ HB)) ?_; clear HB hb hbox hg; intro HB BK338 GW338 GE338; have hcz10 := cf3_ BK338) | ((with_reducible refine gate_callee (f := 48) rfl ?_); refine gl_ 8 Try.func48 (laws_heldIntS.calls k _ _ l0_1 a1 t339 _ (ck_ HR0_1 HB) HC0_1.out A3.out) ?_; rintro e w' ⟨rfl, ⟨nd, rfl⟩⟩; refine ⟨_, rfl, ?_⟩) | ((with_reducible refine gate_callee (f := 48) rfl ?_); refine goesL_ (some 14) rfl rfl Try.func48 (by kernel_rfl) rfl #[.slice A0_2 l0_2.length c0_2, .int .i64 t339] rfl mp_ ?_; (with_reducible refine (laws_heldIntS.calls k _ _ l0_2 t339 t340 _ ?side1 ?side2 A7.out).mono ?_); (case side1 => repeat (first | exact (Kd.C_below HR0_2.out (bl1_ HB GE338)) | (with_reducible refine Kd.C_alloc ?_ _) | (with_reducible refine Kd.C_drewN ?_ _) | (with_reducible refine Kd.C_drew ?_))); (case side2 => exact HC0_2.out); rintro e w' ⟨rfl, ⟨nd, rfl⟩⟩; refine ⟨_, rfl, ?_⟩))
   go_ret
   exact ⟨er_, bl1_ HB GE338⟩
  ·rw [if_neg c8] at H
   have c8b0 := decide_eq_false c8
   clear c8
   obtain rfl := Option.some.inj H
   go_enter Try.func70, Try.ntmps70
   go_wp2_with (first | ((with_reducible refine gd_ 2 ?_); refine bx_ 2 38 #[.int .i64 a0_0, .slice A0_1 l0_1.length c0_1, .slice A0_2 l0_2.length c0_2] ?_; intro gb338 hg w11 hbox hb; refine sh4_ (below_step (bl_ HB) hb) hbox (ge_ hg (bl_ HB)) (ge_ hg (bl_ HB)) ?_; clear HB hb hbox hg; intro HB BK338 GW338 GE338; have hcz12 := cf3_ BK338) | ((with_reducible refine gate_callee (f := 48) rfl ?_); refine gl_ 8 Try.func48 (laws_heldIntS.calls k _ _ l0_1 a1 t339 _ (ck_ HR0_1 HB) HC0_1.out A3.out) ?_; rintro e w' ⟨rfl, ⟨nd, rfl⟩⟩; refine ⟨_, rfl, ?_⟩) | ((with_reducible refine gate_callee (f := 48) rfl ?_); refine goesL_ (some 14) rfl rfl Try.func48 (by kernel_rfl) rfl #[.slice A0_2 l0_2.length c0_2, .int .i64 t339] rfl mp_ ?_; (with_reducible refine (laws_heldIntS.calls k _ _ l0_2 t339 t340 _ ?side1 ?side2 A7.out).mono ?_); (case side1 => repeat (first | exact (Kd.C_below HR0_2.out (bl1_ HB GE338)) | (with_reducible refine Kd.C_alloc ?_ _) | (with_reducible refine Kd.C_drewN ?_ _) | (with_reducible refine Kd.C_drew ?_))); (case side2 => exact HC0_2.out); rintro e w' ⟨rfl, ⟨nd, rfl⟩⟩; refine ⟨_, rfl, ?_⟩))
   go_ret
   exact ⟨er_, bl1_ HB GE338⟩

/-! ### laws_FnExactTableOf: function 14 -/
def laws_FnExactTableOf.j0 : Nat → List (S117) → Int → Int → Int → Bool → Int → List Int → List Int → Int → List Int → List Int → Option (Bool)
 | 0, _, _, _, _, _, _, _, _, _, _, _ => none
 | k + 1, x0, x1, x2, x3, x54, x353000, x353001, x353002, x364000, x364001, x364002 => if x54 = true then (some false) else ((laws_markTable.f k x364000 x364001 x364002 1).bind fun bt372 => ((laws_heldTable.f k x364000 bt372.2.1 bt372.2.2 1).bind fun t375 => (if t375 < 0 then (some false) else (if t375 = bt372.1 then ((laws_toLinkS.f k x0).bind fun t376 => ((impl_TableOf.f k t376 x1 x2 x3).bind fun bt379 => ((laws_eqTable.f k bt379.1 bt379.2.1 bt379.2.2 x353000 x353001 x353002).bind fun t387 => (if t387 = true then ((laws_heldTable.f k x364000 bt372.2.1 bt372.2.2 1).bind fun t388 => (if t388 < 0 then (some false) else (if t388 = bt372.1 then (some true) else (some false)))) else (some false))))) else (some false)))))
def laws_FnExactTableOf.f (k : Nat) (l0 : List (S117)) (a1 : Int) (a2 : Int) (a3 : Int) : Option (Bool) := (laws_szLinkS.f l0 1048576).bind fun t341 => (if t341 < 0 then (some true) else ((laws_toLinkS.f k l0).bind fun t342 => ((spec_TableOf.f k t342 a1 a2 a3).bind fun bt345 => ((laws_toLinkS.f k l0).bind fun t353 => ((impl_TableOf.f k t353 a1 a2 a3).bind fun bt356 => ((laws_eqTable.f k bt356.1 bt356.2.1 bt356.2.2 bt345.1 bt345.2.1 bt345.2.2).bind fun t364 => (if t364 = true then ((laws_toLinkS.f k l0).bind fun t365 => ((laws_eqLinkS.f k t353 t365).bind fun t368 => (if t368 = true then ((laws_markLinkS.f k t353 1).bind fun bt369 => (if bt369.1 < 0 then (laws_FnExactTableOf.j0 k l0 a1 a2 a3 true bt345.1 bt345.2.1 bt345.2.2 bt356.1 bt356.2.1 bt356.2.2) else ((laws_eqTable.f k bt356.1 bt356.2.1 bt356.2.2 bt345.1 bt345.2.1 bt345.2.2).bind fun t371 => (laws_FnExactTableOf.j0 k l0 a1 a2 a3 (!t371) bt345.1 bt345.2.1 bt345.2.2 bt356.1 bt356.2.1 bt356.2.2)))) else (some false)))) else (some false))))))))
theorem laws_FnExactTableOf.mono_l : ∀ k, (∀ y0 y1 y2 y3 y4 y5 y6 y7 y8 y9 y10, LeO (laws_FnExactTableOf.j0 k y0 y1 y2 y3 y4 y5 y6 y7 y8 y9 y10) (laws_FnExactTableOf.j0 (k + 1) y0 y1 y2 y3 y4 y5 y6 y7 y8 y9 y10))
 | 0 => fun _ _ _ _ _ _ _ _ _ _ _ r h => by simp [laws_FnExactTableOf.j0] at h
 | k + 1 => by
  have ih0 := laws_FnExactTableOf.mono_l k
  ·intro y0 y1 y2 y3 y4 y5 y6 y7 y8 y9 y10
   unfold laws_FnExactTableOf.j0
   repeat' first | (with_reducible first | exact ih0 _ _ _ _ _ _ _ _ _ _ _ | exact impl_TableOf.mono _ _ _ _ _ | exact laws_eqLinkS.mono _ _ _ | exact laws_eqTable.mono _ _ _ _ _ _ _ | exact laws_heldTable.mono _ _ _ _ _ | exact laws_markLinkS.mono _ _ _ | exact laws_markTable.mono _ _ _ _ _ | exact laws_toLinkS.mono _ _ | exact spec_TableOf.mono _ _ _ _ _ | exact LeO.refl _ | exact LeO.none _ | refine LeO.ite ?_ ?_ | refine LeO.bind ?_ (fun _ => ?_)) | exact LeO.none _ | refine LeO.ite ?_ ?_ | refine LeO.bind ?_ (fun _ => ?_)
theorem laws_FnExactTableOf.mono : ∀ a0 a1 a2 a3 k, LeO (laws_FnExactTableOf.f k a0 a1 a2 a3) (laws_FnExactTableOf.f (k + 1) a0 a1 a2 a3) := by
 intro a0 a1 a2 a3 k
 have ih0 := laws_FnExactTableOf.mono_l k
 unfold laws_FnExactTableOf.f
 repeat' first | (with_reducible first | exact ih0 _ _ _ _ _ _ _ _ _ _ _ | exact impl_TableOf.mono _ _ _ _ _ | exact laws_eqLinkS.mono _ _ _ | exact laws_eqTable.mono _ _ _ _ _ _ _ | exact laws_heldTable.mono _ _ _ _ _ | exact laws_markLinkS.mono _ _ _ | exact laws_markTable.mono _ _ _ _ _ | exact laws_toLinkS.mono _ _ | exact spec_TableOf.mono _ _ _ _ _ | exact LeO.refl _ | exact LeO.none _ | refine LeO.ite ?_ ?_ | refine LeO.bind ?_ (fun _ => ?_)) | exact LeO.none _ | refine LeO.ite ?_ ?_ | refine LeO.bind ?_ (fun _ => ?_)
set_option maxHeartbeats 8000000 in
set_option maxRecDepth 100000 in
theorem laws_FnExactTableOf.calls (k : Nat) (A0 : Option Addr) (c0 : Nat) (l0 : List (S117)) (a1 : Int) (a2 : Int) (a3 : Int) (r : Bool) (w : World) (hr0 : Kd.C k117 w A0 l0.length l0) (hc0 : l0.length ≤ c0) (h : laws_FnExactTableOf.f k l0 a1 a2 a3 = some r) (hT_ : r = true := by rfl) :
  Calls Try.prog 14 #[.slice A0 l0.length c0, .int .i64 a1, .int .i64 a2, .int .i64 a3] w fun e w' => e = .returned (.bool r) ∧ Below w.heap.size w w' := by
 have hu38 := Try.underlying38
 have HR0 := Aside0.mk hr0
 have HC0 := Aside0.mk hc0
 clear hr0 hc0
 have HB := Aside0.mk (Below.refl w.heap.size w)
 subst hT_
 have H := h
 clear h
 unfold laws_FnExactTableOf.f at H
 replace H := bs_ H
 obtain ⟨t341, A5, H⟩ := H
 by_cases c6 : t341 < 0
 ·rw [if_pos c6] at H
  have c6b0 := decide_eq_true c6
  clear c6
  clear H
  go_enter Try.func14, Try.ntmps14
  go_wp2_with (first | ((with_reducible refine gate_callee (f := 54) rfl ?_); refine gl_ 19 Try.func54 (laws_szLinkS.calls _ _ l0 1048576 t341 _ (cq_ HR0) HC0.out A5.out) ?_; rintro e w' ⟨rfl, ⟨nd, rfl⟩⟩; refine ⟨_, rfl, ?_⟩))
  go_ret
  exact ⟨er_, bl_ HB⟩
 ·rw [if_neg c6] at H
  have c6b0 := decide_eq_false c6
  clear c6
  replace H := bs_ H
  obtain ⟨t342, A7, H⟩ := H
  replace H := bs_ H
  obtain ⟨⟨t345, t346, t349⟩, A8, H⟩ := H
  dsimp only at H
  replace H := bs_ H
  obtain ⟨t353, A9, H⟩ := H
  replace H := bs_ H
  obtain ⟨⟨t356, t357, t360⟩, A10, H⟩ := H
  dsimp only at H
  replace H := bs_ H
  obtain ⟨t364, A11, H⟩ := H
  by_cases c12 : t364 = true
  ·subst c12
   try rw [if_pos rfl] at H
   replace H := bs_ H
   obtain ⟨t365, A13, H⟩ := H
   replace H := bs_ H
   obtain ⟨t368, A14, H⟩ := H
   by_cases c15 : t368 = true
   ·subst c15
    try rw [if_pos rfl] at H
    replace H := bs_ H
    obtain ⟨⟨t369, t370⟩, A16, H⟩ := H
    dsimp only at H
    have HC17 := Aside0.mk H
    clear H
    go_enter Try.func14, Try.ntmps14
    go_upto_region 14 with (first | ((with_reducible refine gate_callee (f := 54) rfl ?_); refine gl_ 19 Try.func54 (laws_szLinkS.calls _ _ l0 1048576 t341 _ (cq_ HR0) HC0.out A5.out) ?_; rintro e w' ⟨rfl, ⟨nd, rfl⟩⟩; refine ⟨_, rfl, ?_⟩) | ((with_reducible refine gate_callee (f := 56) rfl ?_); refine gl_ 23 Try.func56 (laws_toLinkS.calls k _ _ l0 t342 _ (cq_ HR0) HC0.out A7.out) ?_; rintro e w18 ⟨v343, rfl, ho0, hb⟩; refine ⟨_, rfl, sh2_ (Kd.R_lower ho0 (below_size (bl_ HB))) (below_step (bl_ HB) hb) ?_⟩; clear HB hb ho0; intro HO344 HB; obtain ⟨Ao19, co19, eo19⟩ := Kd.R_slice HO344.out; subst eo19) | ((with_reducible refine gate_callee (f := 67) rfl ?_); refine gl_ 27 Try.func67 (spec_TableOf.calls k _ _ t342 a1 a2 a3 t345 t346 t349 _ (cr_ HO344) (rl_ HO344) A8.out) ?_; rintro e w20 ⟨v347, v350, rfl, ho0, ho1, hb⟩; refine ⟨_, rfl, sh4_ (Kd.R_below (ra_ HO344) hb) (Kd.R_lower ho0 (below_size (bl_ HB))) (Kd.R_lower ho1 (below_size (bl_ HB))) (below_step (bl_ HB) hb) ?_⟩; clear HO344 HB hb ho0 ho1; intro HO344 HO348 HO351 HB) | ((with_reducible refine gd_ 10 ?_); refine bx_ 10 38 #[.int .i64 0, .slice none 0 0, .slice none 0 0] ?_; intro gb352 hg w21 hbox hb; refine sh7_ (Kd.R_below (ra_ HO344) hb) (Kd.R_below (ra_ HO348) hb) (Kd.R_below (ra_ HO351) hb) (below_step (bl_ HB) hb) hbox (ge_ hg (bl_ HB)) (ge_ hg (bl_ HB)) ?_; clear HO344 HO348 HO351 HB hb hbox hg; intro HO344 HO348 HO351 HB BK352 GW352 GE352; have hcz22 := cf3_ BK352; obtain ⟨Ao23, co23, eo23⟩ := Kd.R_slice HO348.out; subst eo23; obtain ⟨Ao24, co24, eo24⟩ := Kd.R_slice HO351.out; subst eo24) | ((with_reducible refine gate_callee (f := 56) rfl ?_); refine goesL_ (some 29) rfl rfl Try.func56 (by kernel_rfl) rfl #[.slice A0 l0.length c0] rfl mp_ ?_; (with_reducible refine (laws_toLinkS.calls k _ _ l0 t353 _ ?side1 ?side2 A9.out).mono ?_); (case side1 => exact Kd.C_below HR0.out (bl1_ HB GE352)); (case side2 => exact HC0.out); rintro e w25 ⟨v354, rfl, ho0, hb⟩; refine ⟨_, rfl, sh6_ (Kd.R_elder' (by (with_reducible repeat (first | apply Kd.R_alloc | apply Kd.R_drewN | apply Kd.R_drew)); exact (Kd.R_mono (Kd.R_far (p := ⟨gb352, 2, none⟩) (Kd.R_far (p := ⟨gb352, 1, none⟩) (Kd.R_far (p := ⟨gb352, 0, none⟩) (Kd.R_types HO344.out BK352.out (by decide)) (fun _ hk => hk.2) (.int .i64 t345)) (fun _ hk => hk.2) (.slice Ao23 t346.length co23)) (fun _ hk => hk.2) (.slice Ao24 t349.length co24)) (fun _ h_ => h_.1))) (Kd.R_base ho0) hb) (Kd.R_below (by (with_reducible repeat (first | apply Kd.R_alloc | apply Kd.R_drewN | apply Kd.R_drew)); exact (Kd.R_mono (Kd.R_far (p := ⟨gb352, 2, none⟩) (Kd.R_far (p := ⟨gb352, 1, none⟩) (Kd.R_far (p := ⟨gb352, 0, none⟩) (Kd.R_types HO348.out BK352.out (by decide)) (fun _ hk => hk.2) (.int .i64 t345)) (fun _ hk => hk.2) (.slice Ao23 t346.length co23)) (fun _ hk => hk.2) (.slice Ao24 t349.length co24)) (fun _ h_ => h_.1))) hb) (Kd.R_below (by (with_reducible repeat (first | apply Kd.R_alloc | apply Kd.R_drewN | apply Kd.R_drew)); exact (Kd.R_mono (Kd.R_far (p := ⟨gb352, 2, none⟩) (Kd.R_far (p := ⟨gb352, 1, none⟩) (Kd.R_far (p := ⟨gb352, 0, none⟩) (Kd.R_types HO351.out BK352.out (by decide)) (fun _ hk => hk.2) (.int .i64 t345)) (fun _ hk => hk.2) (.slice Ao23 t346.length co23)) (fun _ hk => hk.2) (.slice Ao24 t349.length co24)) (fun _ h_ => h_.1))) hb) (Kd.R_lower (Kd.R_new' ho0 (Kd.R_lt (by (with_reducible repeat (first | apply Kd.R_alloc | apply Kd.R_drewN | apply Kd.R_drew)); exact (Kd.R_mono (Kd.R_far (p := ⟨gb352, 2, none⟩) (Kd.R_far (p := ⟨gb352, 1, none⟩) (Kd.R_far (p := ⟨gb352, 0, none⟩) (Kd.R_types HO344.out BK352.out (by decide)) (fun _ hk => hk.2) (.int .i64 t345)) (fun _ hk => hk.2) (.slice Ao23 t346.length co23)) (fun _ hk => hk.2) (.slice Ao24 t349.length co24)) (fun _ h_ => h_.1))))) (below_size (bl1_ HB GE352))) (blk_below (g := gb352) (o := .cells #[.int .i64 t345, .slice Ao23 t346.length co23, .slice Ao24 t349.length co24] 38 (0, 0)) (by (with_reducible repeat (first | refine blk_drewN ?_ _ | refine blk_drew ?_ | refine blk_alloc ?_ _)); refine blk_put (cs := #[.int .i64 t345, .slice Ao23 t346.length co23, .slice none 0 0]) ?_ 2 _ rfl; (with_reducible repeat (first | refine blk_drewN ?_ _ | refine blk_drew ?_ | refine blk_alloc ?_ _)); refine blk_put (cs := #[.int .i64 t345, .slice none 0 0, .slice none 0 0]) ?_ 1 _ rfl; (with_reducible repeat (first | refine blk_drewN ?_ _ | refine blk_drew ?_ | refine blk_alloc ?_ _)); refine blk_put (cs := #[.int .i64 0, .slice none 0 0, .slice none 0 0]) ?_ 0 _ rfl; (with_reducible repeat (first | refine blk_drewN ?_ _ | refine blk_drew ?_ | refine blk_alloc ?_ _)); exact BK352.out) hb) (below_step (bl1_ HB GE352) hb) ?_⟩; clear HO344 HO348 HO351 BK352 HB hb ho0; intro HO344 HO348 HO351 HO355 BK352 HB; obtain ⟨Ao26, co26, eo26⟩ := Kd.R_slice HO355.out; subst eo26) | ((with_reducible refine gate_callee (f := 68) rfl ?_); refine gl_ 34 Try.func68 (impl_TableOf.calls k _ _ t353 a1 a2 a3 t356 t357 t360 _ (cr_ HO355) (rl_ HO355) A10.out) ?_; rintro e w27 ⟨v358, v361, rfl, ho0, ho1, hb⟩; refine ⟨_, rfl, sh8_ (Kd.R_below (ra_ HO344) hb) (Kd.R_mono (Kd.R_told (Kd.R_told (Kd.R_old (ra_ HO348) hb) (Kd.R_base ho0)) (Kd.R_base ho1)) (fun _ h_ => h_.1)) (Kd.R_mono (Kd.R_told (Kd.R_told (Kd.R_old (ra_ HO351) hb) (Kd.R_base ho0)) (Kd.R_base ho1)) (fun _ h_ => h_.1)) (Kd.R_below (ra_ HO355) hb) (Kd.R_lower (Kd.R_new' (Kd.R_new' ho0 (Kd.R_lt (ra_ HO348))) (Kd.R_lt (ra_ HO351))) (below_size (bl1_ HB GE352))) (Kd.R_lower (Kd.R_new' (Kd.R_new' ho1 (Kd.R_lt (ra_ HO348))) (Kd.R_lt (ra_ HO351))) (below_size (bl1_ HB GE352))) (blk_below (bk_ BK352) hb) (below_step (bl1_ HB GE352) hb) ?_⟩; clear HO344 HO348 HO351 HO355 BK352 HB hb ho0 ho1; intro HO344 HO348 HO351 HO355 HO359 HO362 BK352 HB) | ((with_reducible refine gd_ 12 ?_); refine bx_ 12 38 #[.int .i64 0, .slice none 0 0, .slice none 0 0] ?_; intro gb363 hg w28 hbox hb; refine sh13_ (Kd.R_below (ra_ HO344) hb) (Kd.R_below (ra_ HO348) hb) (Kd.R_below (ra_ HO351) hb) (Kd.R_below (ra_ HO355) hb) (Kd.R_below (ra_ HO359) hb) (Kd.R_below (ra_ HO362) hb) (blk_below (bk_ BK352) hb) (below_step (bl1_ HB GE352) hb) hbox (ge_ hg (bl1_ HB GE352)) (ge_ hg (bl1_ HB GE352)) (nl_ hg (bk_ BK352)) (ng_ hg (bk_ BK352)) ?_; clear HO344 HO348 HO351 HO355 HO359 HO362 BK352 HB hb hbox hg; intro HO344 HO348 HO351 HO355 HO359 HO362 BK352 HB BK363 GW363 GE363 NB352_363 NB363_352; have hnb29 := NB363_352.out; have hnc29 := NB352_363.out; have hcz30 := cf3_ BK363; obtain ⟨Ao31, co31, eo31⟩ := Kd.R_slice HO359.out; subst eo31; obtain ⟨Ao32, co32, eo32⟩ := Kd.R_slice HO362.out; subst eo32; have hcz33 := cf3_ BK352) | ((with_reducible refine gate_callee (f := 27) rfl ?_); refine goesL_ (some 37) rfl rfl Try.func27 (by kernel_rfl) rfl #[.agg #[.int .i64 t356, .slice Ao31 t357.length co31, .slice Ao32 t360.length co32], .agg #[.int .i64 t345, .slice Ao23 t346.length co23, .slice Ao24 t349.length co24]] rfl mp_ ?_; (with_reducible refine (laws_eqTable.calls k t356 _ _ t357 _ _ t360 t345 _ _ t346 _ _ t349 true _ ?side1 ?side2 ?side3 ?side4 ?side5 ?side6 ?side7 ?side8 A11.out).mono ?_); (case side1 => refine (Kd.R_reads' (e := 3) (base := w.heap.size) (ok := fun k_ => ((some k_ ≠ (.slice Ao32 t360.length co32 : Value).ownBlock ∧ some k_ ≠ (.slice Ao23 t346.length co23 : Value).ownBlock) ∧ some k_ ≠ (.slice Ao24 t349.length co24 : Value).ownBlock)) (n := t357.length) (c := co31) ?_).2.2; exact (by (with_reducible repeat (first | apply Kd.R_alloc | apply Kd.R_drewN | apply Kd.R_drew)); exact (Kd.R_mono (Kd.R_far (p := ⟨gb363, 2, none⟩) (Kd.R_far (p := ⟨gb363, 1, none⟩) (Kd.R_far (p := ⟨gb363, 0, none⟩) (Kd.R_types HO359.out BK363.out (by decide)) (fun _ hk => hk.2) (.int .i64 t356)) (fun _ hk => hk.2) (.slice Ao31 t357.length co31)) (fun _ hk => hk.2) (.slice Ao32 t360.length co32)) (fun _ h_ => h_.1)))); (case side2 => exact (Kd.R_reads' HO359.out).2.1); (case side3 => refine (Kd.R_reads' (e := 3) (base := w.heap.size) (ok := fun k_ => ((some k_ ≠ (.slice Ao31 t357.length co31 : Value).ownBlock ∧ some k_ ≠ (.slice Ao23 t346.length co23 : Value).ownBlock) ∧ some k_ ≠ (.slice Ao24 t349.length co24 : Value).ownBlock)) (n := t360.length) (c := co32) ?_).2.2; exact (by (with_reducible repeat (first | apply Kd.R_alloc | apply Kd.R_drewN | apply Kd.R_drew)); exact (Kd.R_mono (Kd.R_far (p := ⟨gb363, 2, none⟩) (Kd.R_far (p := ⟨gb363, 1, none⟩) (Kd.R_far (p := ⟨gb363, 0, none⟩) (Kd.R_types HO362.out BK363.out (by decide)) (fun _ hk => hk.2) (.int .i64 t356)) (fun _ hk => hk.2) (.slice Ao31 t357.length co31)) (fun _ hk => hk.2) (.slice Ao32 t360.length co32)) (fun _ h_ => h_.1)))); (case side4 => exact (Kd.R_reads' HO362.out).2.1); (case side5 => refine (Kd.R_reads' (e := 3) (base := w.heap.size) (ok := fun k_ => ((some k_ ≠ (.slice Ao24 t349.length co24 : Value).ownBlock ∧ some k_ ≠ (.slice Ao31 t357.length co31 : Value).ownBlock) ∧ some k_ ≠ (.slice Ao32 t360.length co32 : Value).ownBlock)) (n := t346.length) (c := co23) ?_).2.2; exact (by (with_reducible repeat (first | apply Kd.R_alloc | apply Kd.R_drewN | apply Kd.R_drew)); exact (Kd.R_mono (Kd.R_far (p := ⟨gb363, 2, none⟩) (Kd.R_far (p := ⟨gb363, 1, none⟩) (Kd.R_far (p := ⟨gb363, 0, none⟩) (Kd.R_types HO348.out BK363.out (by decide)) (fun _ hk => hk.2) (.int .i64 t356)) (fun _ hk => hk.2) (.slice Ao31 t357.length co31)) (fun _ hk => hk.2) (.slice Ao32 t360.length co32)) (fun _ h_ => h_.1)))); (case side6 => exact (Kd.R_reads' HO348.out).2.1); (case side7 => refine (Kd.R_reads' (e := 3) (base := w.heap.size) (ok := fun k_ => ((some k_ ≠ (.slice Ao23 t346.length co23 : Value).ownBlock ∧ some k_ ≠ (.slice Ao31 t357.length co31 : Value).ownBlock) ∧ some k_ ≠ (.slice Ao32 t360.length co32 : Value).ownBlock)) (n := t349.length) (c := co24) ?_).2.2; exact (by (with_reducible repeat (first | apply Kd.R_alloc | apply Kd.R_drewN | apply Kd.R_drew)); exact (Kd.R_mono (Kd.R_far (p := ⟨gb363, 2, none⟩) (Kd.R_far (p := ⟨gb363, 1, none⟩) (Kd.R_far (p := ⟨gb363, 0, none⟩) (Kd.R_types HO351.out BK363.out (by decide)) (fun _ hk => hk.2) (.int .i64 t356)) (fun _ hk => hk.2) (.slice Ao31 t357.length co31)) (fun _ hk => hk.2) (.slice Ao32 t360.length co32)) (fun _ h_ => h_.1)))); (case side8 => exact (Kd.R_reads' HO351.out).2.1); rintro e w34 ⟨rfl, hb⟩; refine ⟨_, rfl, sh9_ (Kd.R_below (by (with_reducible repeat (first | apply Kd.R_alloc | apply Kd.R_drewN | apply Kd.R_drew)); exact (Kd.R_mono (Kd.R_far (p := ⟨gb363, 2, none⟩) (Kd.R_far (p := ⟨gb363, 1, none⟩) (Kd.R_far (p := ⟨gb363, 0, none⟩) (Kd.R_types HO344.out BK363.out (by decide)) (fun _ hk => hk.2) (.int .i64 t356)) (fun _ hk => hk.2) (.slice Ao31 t357.length co31)) (fun _ hk => hk.2) (.slice Ao32 t360.length co32)) (fun _ h_ => h_.1))) hb) (Kd.R_below (by (with_reducible repeat (first | apply Kd.R_alloc | apply Kd.R_drewN | apply Kd.R_drew)); exact (Kd.R_mono (Kd.R_far (p := ⟨gb363, 2, none⟩) (Kd.R_far (p := ⟨gb363, 1, none⟩) (Kd.R_far (p := ⟨gb363, 0, none⟩) (Kd.R_types HO348.out BK363.out (by decide)) (fun _ hk => hk.2) (.int .i64 t356)) (fun _ hk => hk.2) (.slice Ao31 t357.length co31)) (fun _ hk => hk.2) (.slice Ao32 t360.length co32)) (fun _ h_ => h_.1))) hb) (Kd.R_below (by (with_reducible repeat (first | apply Kd.R_alloc | apply Kd.R_drewN | apply Kd.R_drew)); exact (Kd.R_mono (Kd.R_far (p := ⟨gb363, 2, none⟩) (Kd.R_far (p := ⟨gb363, 1, none⟩) (Kd.R_far (p := ⟨gb363, 0, none⟩) (Kd.R_types HO351.out BK363.out (by decide)) (fun _ hk => hk.2) (.int .i64 t356)) (fun _ hk => hk.2) (.slice Ao31 t357.length co31)) (fun _ hk => hk.2) (.slice Ao32 t360.length co32)) (fun _ h_ => h_.1))) hb) (Kd.R_below (by (with_reducible repeat (first | apply Kd.R_alloc | apply Kd.R_drewN | apply Kd.R_drew)); exact (Kd.R_mono (Kd.R_far (p := ⟨gb363, 2, none⟩) (Kd.R_far (p := ⟨gb363, 1, none⟩) (Kd.R_far (p := ⟨gb363, 0, none⟩) (Kd.R_types HO355.out BK363.out (by decide)) (fun _ hk => hk.2) (.int .i64 t356)) (fun _ hk => hk.2) (.slice Ao31 t357.length co31)) (fun _ hk => hk.2) (.slice Ao32 t360.length co32)) (fun _ h_ => h_.1))) hb) (Kd.R_below (by (with_reducible repeat (first | apply Kd.R_alloc | apply Kd.R_drewN | apply Kd.R_drew)); exact (Kd.R_mono (Kd.R_far (p := ⟨gb363, 2, none⟩) (Kd.R_far (p := ⟨gb363, 1, none⟩) (Kd.R_far (p := ⟨gb363, 0, none⟩) (Kd.R_types HO359.out BK363.out (by decide)) (fun _ hk => hk.2) (.int .i64 t356)) (fun _ hk => hk.2) (.slice Ao31 t357.length co31)) (fun _ hk => hk.2) (.slice Ao32 t360.length co32)) (fun _ h_ => h_.1))) hb) (Kd.R_below (by (with_reducible repeat (first | apply Kd.R_alloc | apply Kd.R_drewN | apply Kd.R_drew)); exact (Kd.R_mono (Kd.R_far (p := ⟨gb363, 2, none⟩) (Kd.R_far (p := ⟨gb363, 1, none⟩) (Kd.R_far (p := ⟨gb363, 0, none⟩) (Kd.R_types HO362.out BK363.out (by decide)) (fun _ hk => hk.2) (.int .i64 t356)) (fun _ hk => hk.2) (.slice Ao31 t357.length co31)) (fun _ hk => hk.2) (.slice Ao32 t360.length co32)) (fun _ h_ => h_.1))) hb) (blk_below (g := gb352) (o := .cells #[.int .i64 t345, .slice Ao23 t346.length co23, .slice Ao24 t349.length co24] 38 (0, 0)) (by (with_reducible repeat (first | refine blk_drewN ?_ _ | refine blk_drew ?_ | refine blk_alloc ?_ _)); refine blk_far ?_ NB352_363.out _; (with_reducible repeat (first | refine blk_drewN ?_ _ | refine blk_drew ?_ | refine blk_alloc ?_ _)); refine blk_far ?_ NB352_363.out _; (with_reducible repeat (first | refine blk_drewN ?_ _ | refine blk_drew ?_ | refine blk_alloc ?_ _)); refine blk_far ?_ NB352_363.out _; (with_reducible repeat (first | refine blk_drewN ?_ _ | refine blk_drew ?_ | refine blk_alloc ?_ _)); exact BK352.out) hb) (blk_below (g := gb363) (o := .cells #[.int .i64 t356, .slice Ao31 t357.length co31, .slice Ao32 t360.length co32] 38 (0, 0)) (by (with_reducible repeat (first | refine blk_drewN ?_ _ | refine blk_drew ?_ | refine blk_alloc ?_ _)); refine blk_put (cs := #[.int .i64 t356, .slice Ao31 t357.length co31, .slice none 0 0]) ?_ 2 _ rfl; (with_reducible repeat (first | refine blk_drewN ?_ _ | refine blk_drew ?_ | refine blk_alloc ?_ _)); refine blk_put (cs := #[.int .i64 t356, .slice none 0 0, .slice none 0 0]) ?_ 1 _ rfl; (with_reducible repeat (first | refine blk_drewN ?_ _ | refine blk_drew ?_ | refine blk_alloc ?_ _)); refine blk_put (cs := #[.int .i64 0, .slice none 0 0, .slice none 0 0]) ?_ 0 _ rfl; (with_reducible repeat (first | refine blk_drewN ?_ _ | refine blk_drew ?_ | refine blk_alloc ?_ _)); exact BK363.out) hb) (below_step (bl2_ HB GE352 GE363) hb) ?_⟩; clear HO344 HO348 HO351 HO355 HO359 HO362 BK352 BK363 HB hb; intro HO344 HO348 HO351 HO355 HO359 HO362 BK352 BK363 HB) | ((with_reducible refine gate_callee (f := 56) rfl ?_); refine gl_ 41 Try.func56 (laws_toLinkS.calls k _ _ l0 t365 _ (ck_ HR0 HB) HC0.out A13.out) ?_; rintro e w35 ⟨v366, rfl, ho0, hb⟩; refine ⟨_, rfl, sh10_ (Kd.R_elder' (ra_ HO344) (Kd.R_base ho0) hb) (Kd.R_below (ra_ HO348) hb) (Kd.R_below (ra_ HO351) hb) (Kd.R_elder' (ra_ HO355) (Kd.R_base ho0) hb) (Kd.R_below (ra_ HO359) hb) (Kd.R_below (ra_ HO362) hb) (Kd.R_lower (Kd.R_new' (Kd.R_new' ho0 (Kd.R_lt (ra_ HO344))) (Kd.R_lt (ra_ HO355))) (below_size (bl2_ HB GE352 GE363))) (blk_below (bk_ BK352) hb) (blk_below (bk_ BK363) hb) (below_step (bl2_ HB GE352 GE363) hb) ?_⟩; clear HO344 HO348 HO351 HO355 HO359 HO362 BK352 BK363 HB hb ho0; intro HO344 HO348 HO351 HO355 HO359 HO362 HO367 BK352 BK363 HB; obtain ⟨Ao36, co36, eo36⟩ := Kd.R_slice HO367.out; subst eo36) | ((with_reducible refine gate_callee (f := 35) rfl ?_); refine gl_ 42 Try.func35 (laws_eqLinkS.calls k _ _ t353 _ _ t365 true _ (cr_ HO355) (rl_ HO355) (cr_ HO367) (rl_ HO367) A14.out) ?_; rintro e w37 ⟨rfl, hb⟩; refine ⟨_, rfl, sh10_ (Kd.R_below (ra_ HO344) hb) (Kd.R_below (ra_ HO348) hb) (Kd.R_below (ra_ HO351) hb) (Kd.R_below (ra_ HO355) hb) (Kd.R_below (ra_ HO359) hb) (Kd.R_below (ra_ HO362) hb) (Kd.R_below (ra_ HO367) hb) (blk_below (bk_ BK352) hb) (blk_below (bk_ BK363) hb) (below_step (bl2_ HB GE352 GE363) hb) ?_⟩; clear HO344 HO348 HO351 HO355 HO359 HO362 HO367 BK352 BK363 HB hb; intro HO344 HO348 HO351 HO355 HO359 HO362 HO367 BK352 BK363 HB) | ((with_reducible refine gate_callee (f := 37) rfl ?_); refine goesL_ (some 46) rfl rfl Try.func37 (by kernel_rfl) rfl #[.slice Ao26 t353.length co26, .int .i64 1] rfl mp_ ?_; (with_reducible refine (laws_markLinkS.calls k (fun k_ => some k_ = (.slice Ao26 t353.length co26 : Value).ownBlock) (.slice Ao26 t353.length co26) t353 1 t369 t370 w _ ?side1 ?side2 A16.out).mono ?_); (case side1 => repeat (first | (with_reducible first | exact HB.out | apply below_alloc | apply pw_below_drewN | apply below_drew1 | refine below_set ?_ GE352.out | refine below_set ?_ GE363.out) | exact HB.out)); (case side2 => exact Kd.R_tight rfl HO355.out); rintro e w38 ⟨rfl, hy0, hb, hkp⟩; refine ⟨_, rfl, sh10_ (Kd.R_mono (ok' := fun k_ => some k_ ≠ (.slice Ao26 t353.length co26 : Value).ownBlock ∧ some k_ ≠ (.slice Ao36 t365.length co36 : Value).ownBlock) (Kd.R_keptB (HO344.out) hkp (fun k_ hk_ hs_ => (hk_.1.2) hs_)) (fun k_ hk_ => ⟨hx_ hk_, hx_ hk_⟩)) (Kd.R_mono (ok' := fun k_ => some k_ ≠ (.slice Ao24 t349.length co24 : Value).ownBlock ∧ some k_ ≠ (.slice Ao31 t357.length co31 : Value).ownBlock ∧ some k_ ≠ (.slice Ao32 t360.length co32 : Value).ownBlock) (Kd.R_keptB ((Kd.R_apart' HO348.out (Kd.R_typed HO355.out) (by decide))) hkp (fun k_ hk_ hs_ => (hk_.2) hs_)) (fun k_ hk_ => ⟨hx_ hk_, hx_ hk_, hx_ hk_⟩)) (Kd.R_mono (ok' := fun k_ => some k_ ≠ (.slice Ao23 t346.length co23 : Value).ownBlock ∧ some k_ ≠ (.slice Ao31 t357.length co31 : Value).ownBlock ∧ some k_ ≠ (.slice Ao32 t360.length co32 : Value).ownBlock) (Kd.R_keptB ((Kd.R_apart' HO351.out (Kd.R_typed HO355.out) (by decide))) hkp (fun k_ hk_ hs_ => (hk_.2) hs_)) (fun k_ hk_ => ⟨hx_ hk_, hx_ hk_, hx_ hk_⟩)) (blk_kept (bk_ BK352) hkp (fun hs_ => (fun e_ => (Kd.R_ne HO355.out BK352.out (by decide)) e_) hs_)) (Kd.R_reok rfl hy0 (fun k_ e_ => HO355.out.1 k_ e_)) (Kd.R_mono (ok' := fun k_ => some k_ ≠ (.slice Ao23 t346.length co23 : Value).ownBlock ∧ some k_ ≠ (.slice Ao24 t349.length co24 : Value).ownBlock ∧ some k_ ≠ (.slice Ao32 t360.length co32 : Value).ownBlock) (Kd.R_keptB ((Kd.R_apart' HO359.out (Kd.R_typed HO355.out) (by decide))) hkp (fun k_ hk_ hs_ => (hk_.2) hs_)) (fun k_ hk_ => ⟨hx_ hk_, hx_ hk_, hx_ hk_⟩)) (Kd.R_mono (ok' := fun k_ => some k_ ≠ (.slice Ao23 t346.length co23 : Value).ownBlock ∧ some k_ ≠ (.slice Ao24 t349.length co24 : Value).ownBlock ∧ some k_ ≠ (.slice Ao31 t357.length co31 : Value).ownBlock) (Kd.R_keptB ((Kd.R_apart' HO362.out (Kd.R_typed HO355.out) (by decide))) hkp (fun k_ hk_ hs_ => (hk_.2) hs_)) (fun k_ hk_ => ⟨hx_ hk_, hx_ hk_, hx_ hk_⟩)) (blk_kept (bk_ BK363) hkp (fun hs_ => (fun e_ => (Kd.R_ne HO355.out BK363.out (by decide)) e_) hs_)) (Kd.R_mono (ok' := fun k_ => some k_ ≠ (.slice Ao19 t342.length co19 : Value).ownBlock ∧ some k_ ≠ (.slice Ao26 t353.length co26 : Value).ownBlock) (Kd.R_keptB (HO367.out) hkp (fun k_ hk_ hs_ => (hk_.2) hs_)) (fun k_ hk_ => ⟨hx_ hk_, hx_ hk_⟩)) hb ?_⟩; clear HO344 HO348 HO351 BK352 HO355 HO359 HO362 BK363 HO367 HB hb hkp hy0; intro HO344 HO348 HO351 BK352 HO355 HO359 HO362 BK363 HO367 HB))
    (try simp only [Act.put, List.setIfInBounds_toArray, List.set_cons_zero, List.set_cons_succ])
    go_cut [54] (fun v54 wc => ∃ (kq : Nat) (x54_16 : Bool), v54 = .bool x54_16 ∧ Aside0 (laws_FnExactTableOf.j0 kq l0 a1 a2 a3 x54_16 t345 t346 t349 t356 t357 t360 = some true) ∧ Aside0 (kq ≤ k) ∧ Aside0 (Kd.R (Kd.int .i64) 3 wc w.heap.size (fun k_ => some k_ ≠ ((.slice Ao24 t349.length co24) : Value).ownBlock ∧ some k_ ≠ ((.slice Ao31 t357.length co31) : Value).ownBlock ∧ some k_ ≠ ((.slice Ao32 t360.length co32) : Value).ownBlock) (.slice Ao23 t346.length co23) t346) ∧ Aside0 (Kd.R (Kd.int .i64) 3 wc w.heap.size (fun k_ => some k_ ≠ ((.slice Ao23 t346.length co23) : Value).ownBlock ∧ some k_ ≠ ((.slice Ao31 t357.length co31) : Value).ownBlock ∧ some k_ ≠ ((.slice Ao32 t360.length co32) : Value).ownBlock) (.slice Ao24 t349.length co24) t349) ∧ Aside0 (Kd.R (Kd.int .i64) 3 wc w.heap.size (fun k_ => some k_ ≠ ((.slice Ao23 t346.length co23) : Value).ownBlock ∧ some k_ ≠ ((.slice Ao24 t349.length co24) : Value).ownBlock ∧ some k_ ≠ ((.slice Ao32 t360.length co32) : Value).ownBlock) (.slice Ao31 t357.length co31) t357) ∧ Aside0 (Kd.R (Kd.int .i64) 3 wc w.heap.size (fun k_ => some k_ ≠ ((.slice Ao23 t346.length co23) : Value).ownBlock ∧ some k_ ≠ ((.slice Ao24 t349.length co24) : Value).ownBlock ∧ some k_ ≠ ((.slice Ao31 t357.length co31) : Value).ownBlock) (.slice Ao32 t360.length co32) t360) ∧ Aside0 (wc.heap[gb352]? = some (.cells #[.int .i64 t345, (.slice Ao23 t346.length co23), (.slice Ao24 t349.length co24)] 38 (0, 0))) ∧ Aside0 (wc.heap[gb363]? = some (.cells #[.int .i64 t356, (.slice Ao31 t357.length co31), (.slice Ao32 t360.length co32)] 38 (0, 0))) ∧ Aside0 (Below w.heap.size w wc))
    case first =>
     have H := HC17.out
     clear HC17
     by_cases c39 : t369 < 0
     ·rw [if_pos c39] at H
      have c39b0 := decide_eq_true c39
      clear c39
      (first | rw [c39b0] | (simp only [i64_w, i32_w]; rw [c39b0]) | skip)
      have H' := Aside0.mk H
      clear H
      go_wp2
      go_meet
      case rel => exact ⟨_, (true), (by first | rfl | (simp; done) | (simp [*]; done)), H', ⟨by first | omega | exact Nat.le_refl _⟩, ⟨ra_ HO348⟩, ⟨ra_ HO351⟩, ⟨ra_ HO359⟩, ⟨ra_ HO362⟩, ⟨by (with_reducible repeat (first | refine blk_drewN ?_ _ | refine blk_drew ?_ | refine blk_alloc ?_ _)); exact BK352.out⟩, ⟨by (with_reducible repeat (first | refine blk_drewN ?_ _ | refine blk_drew ?_ | refine blk_alloc ?_ _)); exact BK363.out⟩, ⟨bl2_ HB GE352 GE363⟩⟩
     ·rw [if_neg c39] at H
      have c39b0 := decide_eq_false c39
      clear c39
      (first | rw [c39b0] | (simp only [i64_w, i32_w]; rw [c39b0]) | skip)
      replace H := bs_ H
      obtain ⟨t371, A40, H⟩ := H
      have H' := Aside0.mk H
      clear H
      have hnb41 := NB363_352.out
      have hnc41 := NB352_363.out
      have hcz42 := cf3_ BK363
      have hcz43 := cf3_ BK352
      go_wp2_with (first | (go_at_call 27; (with_reducible refine (laws_eqTable.calls k t356 _ _ t357 _ _ t360 t345 _ _ t346 _ _ t349 t371 _ ?side1 ?side2 ?side3 ?side4 ?side5 ?side6 ?side7 ?side8 A40.out).mono ?_); (case side1 => repeat (first | exact (Kd.R_reads' HO359.out).2.2 | (with_reducible refine Kd.C_alloc ?_ _) | (with_reducible refine Kd.C_drewN ?_ _) | (with_reducible refine Kd.C_drew ?_))); (case side2 => exact (Kd.R_reads' HO359.out).2.1); (case side3 => repeat (first | exact (Kd.R_reads' HO362.out).2.2 | (with_reducible refine Kd.C_alloc ?_ _) | (with_reducible refine Kd.C_drewN ?_ _) | (with_reducible refine Kd.C_drew ?_))); (case side4 => exact (Kd.R_reads' HO362.out).2.1); (case side5 => repeat (first | exact (Kd.R_reads' HO348.out).2.2 | (with_reducible refine Kd.C_alloc ?_ _) | (with_reducible refine Kd.C_drewN ?_ _) | (with_reducible refine Kd.C_drew ?_))); (case side6 => exact (Kd.R_reads' HO348.out).2.1); (case side7 => repeat (first | exact (Kd.R_reads' HO351.out).2.2 | (with_reducible refine Kd.C_alloc ?_ _) | (with_reducible refine Kd.C_drewN ?_ _) | (with_reducible refine Kd.C_drew ?_))); (case side8 => exact (Kd.R_reads' HO351.out).2.1); rintro e w44 ⟨rfl, hb⟩; refine sh10_ (Kd.R_below (ra_ HO344) hb) (Kd.R_below (ra_ HO348) hb) (Kd.R_below (ra_ HO351) hb) (Kd.R_below (ra_ HO355) hb) (Kd.R_below (ra_ HO359) hb) (Kd.R_below (ra_ HO362) hb) (Kd.R_below (ra_ HO367) hb) (blk_below (bk_ BK352) hb) (blk_below (bk_ BK363) hb) (below_step (bl2_ HB GE352 GE363) hb) ?_; clear HO344 HO348 HO351 HO355 HO359 HO362 HO367 BK352 BK363 HB hb; intro HO344 HO348 HO351 HO355 HO359 HO362 HO367 BK352 BK363 HB))
      go_meet
      case rel => exact ⟨_, (!t371), (by first | rfl | (simp; done) | (simp [*]; done)), H', ⟨by first | omega | exact Nat.le_refl _⟩, ⟨ra_ HO348⟩, ⟨ra_ HO351⟩, ⟨ra_ HO359⟩, ⟨ra_ HO362⟩, ⟨by (with_reducible repeat (first | refine blk_drewN ?_ _ | refine blk_drew ?_ | refine blk_alloc ?_ _)); exact BK352.out⟩, ⟨by (with_reducible repeat (first | refine blk_drewN ?_ _ | refine blk_drew ?_ | refine blk_alloc ?_ _)); exact BK363.out⟩, ⟨bl2_ HB GE352 GE363⟩⟩
    case rest =>
     clear HC17
     try clear c1
     try clear c2
     try clear p2
     try clear c3
     try clear c4
     try clear c5
     try clear c6
     try clear c6b0
     try clear c12
     try clear c14
     try clear c15
     try clear c27
     try clear c29
     try clear c35
     try clear c37
     try clear c39
     try clear c39b0
     try clear c41
     try clear hcz22
     try clear hcz30
     try clear hcz33
     try clear hcz42
     try clear hcz43
     obtain ⟨kq, x54_16, rfl, HA, HJ16, HO_353001, HO_353002, HO_364001, HO_364002, BK352, BK363, HB⟩ := hcut
     cases kq with
     | zero => exact absurd HA.out (by simp [laws_FnExactTableOf.j0])
     | succ kj16 =>
      have H := HA.out
      clear HA
      simp only [laws_FnExactTableOf.j0] at H
      by_cases c45 : x54_16 = true
      ·subst c45
       try rw [if_pos rfl] at H
       exact absurd H (by simp)
      ·replace c45 := Bool.eq_false_iff.mpr c45
       subst c45
       have H1 : ((laws_markTable.f kj16 t356 t357 t360 1).bind fun bt372 => ((laws_heldTable.f kj16 t356 bt372.2.1 bt372.2.2 1).bind fun t375 => (if t375 < 0 then (some false) else (if t375 = bt372.1 then ((laws_toLinkS.f kj16 l0).bind fun t376 => ((impl_TableOf.f kj16 t376 a1 a2 a3).bind fun bt379 => ((laws_eqTable.f kj16 bt379.1 bt379.2.1 bt379.2.2 t345 t346 t349).bind fun t387 => (if t387 = true then ((laws_heldTable.f kj16 t356 bt372.2.1 bt372.2.2 1).bind fun t388 => (if t388 < 0 then (some false) else (if t388 = bt372.1 then (some true) else (some false)))) else (some false))))) else (some false))))) = some true := by first | (rw [if_neg (show ¬ (false = true) by decide)] at H; exact H) | rfl
       clear H
       have H := H1
       clear H1
       replace H := bs_ H
       obtain ⟨⟨t372, t373, t374⟩, A46, H⟩ := H
       dsimp only at H
       replace H := bs_ H
       obtain ⟨t375, A47, H⟩ := H
       by_cases c48 : t375 < 0
       ·rw [if_pos c48] at H
        have c48b0 := decide_eq_true c48
        clear c48
        exact absurd H (by simp)
       ·rw [if_neg c48] at H
        have c48b0 := decide_eq_false c48
        clear c48
        by_cases c49 : t375 = t372
        ·rw [if_pos c49] at H
         obtain ⟨c49b0, c49b1⟩ := bt_ c49
         clear c49
         replace H := bs_ H
         obtain ⟨t376, A50, H⟩ := H
         replace H := bs_ H
         obtain ⟨⟨t379, t380, t383⟩, A51, H⟩ := H
         dsimp only at H
         replace H := bs_ H
         obtain ⟨t387, A52, H⟩ := H
         by_cases c53 : t387 = true
         ·subst c53
          try rw [if_pos rfl] at H
          replace H := bs_ H
          obtain ⟨t388, A54, H⟩ := H
          by_cases c55 : t388 < 0
          ·rw [if_pos c55] at H
           have c55b0 := decide_eq_true c55
           clear c55
           exact absurd H (by simp)
          ·rw [if_neg c55] at H
           have c55b0 := decide_eq_false c55
           clear c55
           by_cases c56 : t388 = t372
           ·rw [if_pos c56] at H
            obtain ⟨c56b0, c56b1⟩ := bt_ c56
            clear c56
            clear H
            have hnb57 := NB363_352.out
            have hnc57 := NB352_363.out
            have hcz58 := cf3_ BK363
            go_wp2_with (first | ((with_reducible refine gate_callee (f := 69) rfl ?_); refine goesL_ (some 57) rfl rfl Try.func69 (by kernel_rfl) rfl #[.agg #[.int .i64 t356, .slice Ao31 t357.length co31, .slice Ao32 t360.length co32], .int .i64 1] rfl mp_ ?_; (with_reducible refine (laws_markTable.calls kj16 t356 (fun k_ => some k_ = (.slice Ao31 t357.length co31 : Value).ownBlock) (.slice Ao31 t357.length co31) t357 (fun k_ => some k_ = (.slice Ao32 t360.length co32 : Value).ownBlock) (.slice Ao32 t360.length co32) t360 1 t372 t373 t374 w _ ?side1 ?side2 ?side3 ?side4 ?side5 A46.out).mono ?_); (case side1 => repeat (first | (with_reducible first | exact HB.out | apply below_alloc | apply pw_below_drewN | apply below_drew1 | refine below_set ?_ GE352.out | refine below_set ?_ GE363.out) | exact HB.out)); (case side2 => exact Kd.R_tight rfl HO_364001.out); (case side3 => exact fun k_ e_ => (HO_364001.out.1 k_ e_.symm).2.2); (case side4 => exact Kd.R_tight rfl HO_364002.out); (case side5 => exact fun k_ e_ => (HO_364002.out.1 k_ e_.symm).2.2); rintro e w59 ⟨rfl, hy0, hy1, hb, hkp⟩; refine ⟨_, rfl, sh7_ (Kd.R_mono (ok' := fun k_ => some k_ ≠ (.slice Ao24 t349.length co24 : Value).ownBlock ∧ some k_ ≠ (.slice Ao31 t357.length co31 : Value).ownBlock ∧ some k_ ≠ (.slice Ao32 t360.length co32 : Value).ownBlock) (Kd.R_keptB (HO_353001.out) hkp (fun k_ hk_ hs_ => Or.elim hs_ (fun e_ => absurd e_ (hx_ hk_)) (fun e_ => absurd e_ (hx_ hk_)))) (fun k_ hk_ => ⟨hx_ hk_, hx_ hk_, hx_ hk_⟩)) (Kd.R_mono (ok' := fun k_ => some k_ ≠ (.slice Ao23 t346.length co23 : Value).ownBlock ∧ some k_ ≠ (.slice Ao31 t357.length co31 : Value).ownBlock ∧ some k_ ≠ (.slice Ao32 t360.length co32 : Value).ownBlock) (Kd.R_keptB (HO_353002.out) hkp (fun k_ hk_ hs_ => Or.elim hs_ (fun e_ => absurd e_ (hx_ hk_)) (fun e_ => absurd e_ (hx_ hk_)))) (fun k_ hk_ => ⟨hx_ hk_, hx_ hk_, hx_ hk_⟩)) (Kd.R_reok rfl hy0 (fun k_ e_ => HO_364001.out.1 k_ e_)) (Kd.R_reok rfl hy1 (fun k_ e_ => HO_364002.out.1 k_ e_)) (blk_kept (bk_ BK352) hkp (fun hs_ => Or.elim hs_ (fun e_ => (fun e_ => (Kd.R_ne HO_364001.out BK352.out (by decide)) e_) e_) (fun e_ => (fun e_ => (Kd.R_ne HO_364002.out BK352.out (by decide)) e_) e_))) (blk_kept (bk_ BK363) hkp (fun hs_ => Or.elim hs_ (fun e_ => (fun e_ => (Kd.R_ne HO_364001.out BK363.out (by decide)) e_) e_) (fun e_ => (fun e_ => (Kd.R_ne HO_364002.out BK363.out (by decide)) e_) e_))) hb ?_⟩; clear HO_353001 HO_353002 HO_364001 HO_364002 BK352 BK363 HB hb hkp hy0 hy1; intro HO_353001 HO_353002 HO_364001 HO_364002 BK352 BK363 HB; have hcz60 := cf3_ BK363) | ((with_reducible refine gate_callee (f := 70) rfl ?_); refine goesL_ (some 60) rfl rfl Try.func70 (by kernel_rfl) rfl #[.agg #[.int .i64 t356, .slice Ao31 t373.length co31, .slice Ao32 t374.length co32], .int .i64 1] rfl (by (try simp only [List.map_toArray, List.map_cons, List.map_nil]); first | done | (rw [show t373.length = t357.length from (Kd.R_reads' HO_364001.out).1.symm, show t374.length = t360.length from (Kd.R_reads' HO_364002.out).1.symm] <;> rfl) | rfl | (simp only [List.length_drop, List.length_take]; rfl)) ?_; (with_reducible refine (laws_heldTable.calls kj16 t356 _ _ t373 _ _ t374 1 t375 _ ?side1 ?side2 ?side3 ?side4 A47.out).mono ?_); (case side1 => repeat (first | exact (Kd.R_reads' HO_364001.out).2.2 | (with_reducible refine Kd.C_alloc ?_ _) | (with_reducible refine Kd.C_drewN ?_ _) | (with_reducible refine Kd.C_drew ?_))); (case side2 => rw [show t373.length = t357.length from (Kd.R_reads' HO_364001.out).1.symm]; exact (Kd.R_reads' HO_364001.out).2.1); (case side3 => repeat (first | exact (Kd.R_reads' HO_364002.out).2.2 | (with_reducible refine Kd.C_alloc ?_ _) | (with_reducible refine Kd.C_drewN ?_ _) | (with_reducible refine Kd.C_drew ?_))); (case side4 => rw [show t374.length = t360.length from (Kd.R_reads' HO_364002.out).1.symm]; exact (Kd.R_reads' HO_364002.out).2.1); rintro e w61 ⟨rfl, hb⟩; refine ⟨_, rfl, sh7_ (Kd.R_below (ra_ HO_353001) hb) (Kd.R_below (ra_ HO_353002) hb) (Kd.R_below (ra_ HO_364001) hb) (Kd.R_below (ra_ HO_364002) hb) (blk_below (bk_ BK352) hb) (blk_below (bk_ BK363) hb) (below_step (bl2_ HB GE352 GE363) hb) ?_⟩; clear HO_353001 HO_353002 HO_364001 HO_364002 BK352 BK363 HB hb; intro HO_353001 HO_353002 HO_364001 HO_364002 BK352 BK363 HB) | ((with_reducible refine gate_callee (f := 56) rfl ?_); refine gl_ 67 Try.func56 (laws_toLinkS.calls kj16 _ _ l0 t376 _ (ck_ HR0 HB) HC0.out A50.out) ?_; rintro e w62 ⟨v377, rfl, ho0, hb⟩; refine ⟨_, rfl, sh8_ (Kd.R_below (ra_ HO_353001) hb) (Kd.R_below (ra_ HO_353002) hb) (Kd.R_below (ra_ HO_364001) hb) (Kd.R_below (ra_ HO_364002) hb) (Kd.R_lower ho0 (below_size (bl2_ HB GE352 GE363))) (blk_below (bk_ BK352) hb) (blk_below (bk_ BK363) hb) (below_step (bl2_ HB GE352 GE363) hb) ?_⟩; clear HO_353001 HO_353002 HO_364001 HO_364002 BK352 BK363 HB hb ho0; intro HO_353001 HO_353002 HO_364001 HO_364002 HO378 BK352 BK363 HB; obtain ⟨Ao63, co63, eo63⟩ := Kd.R_slice HO378.out; subst eo63) | ((with_reducible refine gate_callee (f := 68) rfl ?_); refine gl_ 71 Try.func68 (impl_TableOf.calls kj16 _ _ t376 a1 a2 a3 t379 t380 t383 _ (cr_ HO378) (rl_ HO378) A51.out) ?_; rintro e w64 ⟨v381, v384, rfl, ho0, ho1, hb⟩; refine ⟨_, rfl, sh10_ (Kd.R_mono (Kd.R_told (Kd.R_told (Kd.R_old (ra_ HO_353001) hb) (Kd.R_base ho0)) (Kd.R_base ho1)) (fun _ h_ => h_.1)) (Kd.R_mono (Kd.R_told (Kd.R_told (Kd.R_old (ra_ HO_353002) hb) (Kd.R_base ho0)) (Kd.R_base ho1)) (fun _ h_ => h_.1)) (Kd.R_mono (Kd.R_told (Kd.R_told (Kd.R_old (ra_ HO_364001) hb) (Kd.R_base ho0)) (Kd.R_base ho1)) (fun _ h_ => h_.1)) (Kd.R_mono (Kd.R_told (Kd.R_told (Kd.R_old (ra_ HO_364002) hb) (Kd.R_base ho0)) (Kd.R_base ho1)) (fun _ h_ => h_.1)) (Kd.R_below (ra_ HO378) hb) (Kd.R_lower (Kd.R_new' (Kd.R_new' (Kd.R_new' (Kd.R_new' ho0 (Kd.R_lt (ra_ HO_353001))) (Kd.R_lt (ra_ HO_353002))) (Kd.R_lt (ra_ HO_364001))) (Kd.R_lt (ra_ HO_364002))) (below_size (bl2_ HB GE352 GE363))) (Kd.R_lower (Kd.R_new' (Kd.R_new' (Kd.R_new' (Kd.R_new' ho1 (Kd.R_lt (ra_ HO_353001))) (Kd.R_lt (ra_ HO_353002))) (Kd.R_lt (ra_ HO_364001))) (Kd.R_lt (ra_ HO_364002))) (below_size (bl2_ HB GE352 GE363))) (blk_below (bk_ BK352) hb) (blk_below (bk_ BK363) hb) (below_step (bl2_ HB GE352 GE363) hb) ?_⟩; clear HO_353001 HO_353002 HO_364001 HO_364002 HO378 BK352 BK363 HB hb ho0 ho1; intro HO_353001 HO_353002 HO_364001 HO_364002 HO378 HO382 HO385 BK352 BK363 HB) | ((with_reducible refine gd_ 16 ?_); refine bx_ 16 38 #[.int .i64 0, .slice none 0 0, .slice none 0 0] ?_; intro gb386 hg w65 hbox hb; refine sh17_ (Kd.R_below (ra_ HO_353001) hb) (Kd.R_below (ra_ HO_353002) hb) (Kd.R_below (ra_ HO_364001) hb) (Kd.R_below (ra_ HO_364002) hb) (Kd.R_below (ra_ HO378) hb) (Kd.R_below (ra_ HO382) hb) (Kd.R_below (ra_ HO385) hb) (blk_below (bk_ BK352) hb) (blk_below (bk_ BK363) hb) (below_step (bl2_ HB GE352 GE363) hb) hbox (ge_ hg (bl2_ HB GE352 GE363)) (ge_ hg (bl2_ HB GE352 GE363)) (nl_ hg (bk_ BK352)) (ng_ hg (bk_ BK352)) (nl_ hg (bk_ BK363)) (ng_ hg (bk_ BK363)) ?_; clear HO_353001 HO_353002 HO_364001 HO_364002 HO378 HO382 HO385 BK352 BK363 HB hb hbox hg; intro HO_353001 HO_353002 HO_364001 HO_364002 HO378 HO382 HO385 BK352 BK363 HB BK386 GW386 GE386 NB352_386 NB386_352 NB363_386 NB386_363; have hnb66 := NB386_352.out; have hnc66 := NB352_386.out; have hnb67 := NB386_363.out; have hnc67 := NB363_386.out; have hcz68 := cf3_ BK386; obtain ⟨Ao69, co69, eo69⟩ := Kd.R_slice HO382.out; subst eo69; obtain ⟨Ao70, co70, eo70⟩ := Kd.R_slice HO385.out; subst eo70; have hcz71 := cf3_ BK352) | ((with_reducible refine gate_callee (f := 27) rfl ?_); refine goesL_ (some 74) rfl rfl Try.func27 (by kernel_rfl) rfl #[.agg #[.int .i64 t379, .slice Ao69 t380.length co69, .slice Ao70 t383.length co70], .agg #[.int .i64 t345, .slice Ao23 t346.length co23, .slice Ao24 t349.length co24]] rfl mp_ ?_; (with_reducible refine (laws_eqTable.calls kj16 t379 _ _ t380 _ _ t383 t345 _ _ t346 _ _ t349 true _ ?side1 ?side2 ?side3 ?side4 ?side5 ?side6 ?side7 ?side8 A52.out).mono ?_); (case side1 => refine (Kd.R_reads' (e := 3) (base := w.heap.size) (ok := fun k_ => ((((some k_ ≠ (.slice Ao70 t383.length co70 : Value).ownBlock ∧ some k_ ≠ (.slice Ao23 t346.length co23 : Value).ownBlock) ∧ some k_ ≠ (.slice Ao24 t349.length co24 : Value).ownBlock) ∧ some k_ ≠ (.slice Ao31 t357.length co31 : Value).ownBlock) ∧ some k_ ≠ (.slice Ao32 t360.length co32 : Value).ownBlock)) (n := t380.length) (c := co69) ?_).2.2; exact (by (with_reducible repeat (first | apply Kd.R_alloc | apply Kd.R_drewN | apply Kd.R_drew)); exact (Kd.R_mono (Kd.R_far (p := ⟨gb386, 2, none⟩) (Kd.R_far (p := ⟨gb386, 1, none⟩) (Kd.R_far (p := ⟨gb386, 0, none⟩) (Kd.R_types HO382.out BK386.out (by decide)) (fun _ hk => hk.2) (.int .i64 t379)) (fun _ hk => hk.2) (.slice Ao69 t380.length co69)) (fun _ hk => hk.2) (.slice Ao70 t383.length co70)) (fun _ h_ => h_.1)))); (case side2 => exact (Kd.R_reads' HO382.out).2.1); (case side3 => refine (Kd.R_reads' (e := 3) (base := w.heap.size) (ok := fun k_ => ((((some k_ ≠ (.slice Ao69 t380.length co69 : Value).ownBlock ∧ some k_ ≠ (.slice Ao23 t346.length co23 : Value).ownBlock) ∧ some k_ ≠ (.slice Ao24 t349.length co24 : Value).ownBlock) ∧ some k_ ≠ (.slice Ao31 t357.length co31 : Value).ownBlock) ∧ some k_ ≠ (.slice Ao32 t360.length co32 : Value).ownBlock)) (n := t383.length) (c := co70) ?_).2.2; exact (by (with_reducible repeat (first | apply Kd.R_alloc | apply Kd.R_drewN | apply Kd.R_drew)); exact (Kd.R_mono (Kd.R_far (p := ⟨gb386, 2, none⟩) (Kd.R_far (p := ⟨gb386, 1, none⟩) (Kd.R_far (p := ⟨gb386, 0, none⟩) (Kd.R_types HO385.out BK386.out (by decide)) (fun _ hk => hk.2) (.int .i64 t379)) (fun _ hk => hk.2) (.slice Ao69 t380.length co69)) (fun _ hk => hk.2) (.slice Ao70 t383.length co70)) (fun _ h_ => h_.1)))); (case side4 => exact (Kd.R_reads' HO385.out).2.1); (case side5 => refine (Kd.R_reads' (e := 3) (base := w.heap.size) (ok := fun k_ => (((some k_ ≠ (.slice Ao24 t349.length co24 : Value).ownBlock ∧ (some k_ ≠ (.slice Ao31 t357.length co31 : Value).ownBlock ∧ some k_ ≠ (.slice Ao32 t360.length co32 : Value).ownBlock)) ∧ some k_ ≠ (.slice Ao69 t380.length co69 : Value).ownBlock) ∧ some k_ ≠ (.slice Ao70 t383.length co70 : Value).ownBlock)) (n := t346.length) (c := co23) ?_).2.2; exact (by (with_reducible repeat (first | apply Kd.R_alloc | apply Kd.R_drewN | apply Kd.R_drew)); exact (Kd.R_mono (Kd.R_far (p := ⟨gb386, 2, none⟩) (Kd.R_far (p := ⟨gb386, 1, none⟩) (Kd.R_far (p := ⟨gb386, 0, none⟩) (Kd.R_types HO_353001.out BK386.out (by decide)) (fun _ hk => hk.2) (.int .i64 t379)) (fun _ hk => hk.2) (.slice Ao69 t380.length co69)) (fun _ hk => hk.2) (.slice Ao70 t383.length co70)) (fun _ h_ => h_.1)))); (case side6 => exact (Kd.R_reads' HO_353001.out).2.1); (case side7 => refine (Kd.R_reads' (e := 3) (base := w.heap.size) (ok := fun k_ => (((some k_ ≠ (.slice Ao23 t346.length co23 : Value).ownBlock ∧ (some k_ ≠ (.slice Ao31 t357.length co31 : Value).ownBlock ∧ some k_ ≠ (.slice Ao32 t360.length co32 : Value).ownBlock)) ∧ some k_ ≠ (.slice Ao69 t380.length co69 : Value).ownBlock) ∧ some k_ ≠ (.slice Ao70 t383.length co70 : Value).ownBlock)) (n := t349.length) (c := co24) ?_).2.2; exact (by (with_reducible repeat (first | apply Kd.R_alloc | apply Kd.R_drewN | apply Kd.R_drew)); exact (Kd.R_mono (Kd.R_far (p := ⟨gb386, 2, none⟩) (Kd.R_far (p := ⟨gb386, 1, none⟩) (Kd.R_far (p := ⟨gb386, 0, none⟩) (Kd.R_types HO_353002.out BK386.out (by decide)) (fun _ hk => hk.2) (.int .i64 t379)) (fun _ hk => hk.2) (.slice Ao69 t380.length co69)) (fun _ hk => hk.2) (.slice Ao70 t383.length co70)) (fun _ h_ => h_.1)))); (case side8 => exact (Kd.R_reads' HO_353002.out).2.1); rintro e w72 ⟨rfl, hb⟩; refine ⟨_, rfl, sh11_ (Kd.R_below (by (with_reducible repeat (first | apply Kd.R_alloc | apply Kd.R_drewN | apply Kd.R_drew)); exact (Kd.R_mono (Kd.R_far (p := ⟨gb386, 2, none⟩) (Kd.R_far (p := ⟨gb386, 1, none⟩) (Kd.R_far (p := ⟨gb386, 0, none⟩) (Kd.R_types HO_353001.out BK386.out (by decide)) (fun _ hk => hk.2) (.int .i64 t379)) (fun _ hk => hk.2) (.slice Ao69 t380.length co69)) (fun _ hk => hk.2) (.slice Ao70 t383.length co70)) (fun _ h_ => h_.1))) hb) (Kd.R_below (by (with_reducible repeat (first | apply Kd.R_alloc | apply Kd.R_drewN | apply Kd.R_drew)); exact (Kd.R_mono (Kd.R_far (p := ⟨gb386, 2, none⟩) (Kd.R_far (p := ⟨gb386, 1, none⟩) (Kd.R_far (p := ⟨gb386, 0, none⟩) (Kd.R_types HO_353002.out BK386.out (by decide)) (fun _ hk => hk.2) (.int .i64 t379)) (fun _ hk => hk.2) (.slice Ao69 t380.length co69)) (fun _ hk => hk.2) (.slice Ao70 t383.length co70)) (fun _ h_ => h_.1))) hb) (Kd.R_below (by (with_reducible repeat (first | apply Kd.R_alloc | apply Kd.R_drewN | apply Kd.R_drew)); exact (Kd.R_mono (Kd.R_far (p := ⟨gb386, 2, none⟩) (Kd.R_far (p := ⟨gb386, 1, none⟩) (Kd.R_far (p := ⟨gb386, 0, none⟩) (Kd.R_types HO_364001.out BK386.out (by decide)) (fun _ hk => hk.2) (.int .i64 t379)) (fun _ hk => hk.2) (.slice Ao69 t380.length co69)) (fun _ hk => hk.2) (.slice Ao70 t383.length co70)) (fun _ h_ => h_.1))) hb) (Kd.R_below (by (with_reducible repeat (first | apply Kd.R_alloc | apply Kd.R_drewN | apply Kd.R_drew)); exact (Kd.R_mono (Kd.R_far (p := ⟨gb386, 2, none⟩) (Kd.R_far (p := ⟨gb386, 1, none⟩) (Kd.R_far (p := ⟨gb386, 0, none⟩) (Kd.R_types HO_364002.out BK386.out (by decide)) (fun _ hk => hk.2) (.int .i64 t379)) (fun _ hk => hk.2) (.slice Ao69 t380.length co69)) (fun _ hk => hk.2) (.slice Ao70 t383.length co70)) (fun _ h_ => h_.1))) hb) (Kd.R_below (by (with_reducible repeat (first | apply Kd.R_alloc | apply Kd.R_drewN | apply Kd.R_drew)); exact (Kd.R_mono (Kd.R_far (p := ⟨gb386, 2, none⟩) (Kd.R_far (p := ⟨gb386, 1, none⟩) (Kd.R_far (p := ⟨gb386, 0, none⟩) (Kd.R_types HO378.out BK386.out (by decide)) (fun _ hk => hk.2) (.int .i64 t379)) (fun _ hk => hk.2) (.slice Ao69 t380.length co69)) (fun _ hk => hk.2) (.slice Ao70 t383.length co70)) (fun _ h_ => h_.1))) hb) (Kd.R_below (by (with_reducible repeat (first | apply Kd.R_alloc | apply Kd.R_drewN | apply Kd.R_drew)); exact (Kd.R_mono (Kd.R_far (p := ⟨gb386, 2, none⟩) (Kd.R_far (p := ⟨gb386, 1, none⟩) (Kd.R_far (p := ⟨gb386, 0, none⟩) (Kd.R_types HO382.out BK386.out (by decide)) (fun _ hk => hk.2) (.int .i64 t379)) (fun _ hk => hk.2) (.slice Ao69 t380.length co69)) (fun _ hk => hk.2) (.slice Ao70 t383.length co70)) (fun _ h_ => h_.1))) hb) (Kd.R_below (by (with_reducible repeat (first | apply Kd.R_alloc | apply Kd.R_drewN | apply Kd.R_drew)); exact (Kd.R_mono (Kd.R_far (p := ⟨gb386, 2, none⟩) (Kd.R_far (p := ⟨gb386, 1, none⟩) (Kd.R_far (p := ⟨gb386, 0, none⟩) (Kd.R_types HO385.out BK386.out (by decide)) (fun _ hk => hk.2) (.int .i64 t379)) (fun _ hk => hk.2) (.slice Ao69 t380.length co69)) (fun _ hk => hk.2) (.slice Ao70 t383.length co70)) (fun _ h_ => h_.1))) hb) (blk_below (g := gb352) (o := .cells #[.int .i64 t345, .slice Ao23 t346.length co23, .slice Ao24 t349.length co24] 38 (0, 0)) (by (with_reducible repeat (first | refine blk_drewN ?_ _ | refine blk_drew ?_ | refine blk_alloc ?_ _)); refine blk_far ?_ NB352_386.out _; (with_reducible repeat (first | refine blk_drewN ?_ _ | refine blk_drew ?_ | refine blk_alloc ?_ _)); refine blk_far ?_ NB352_386.out _; (with_reducible repeat (first | refine blk_drewN ?_ _ | refine blk_drew ?_ | refine blk_alloc ?_ _)); refine blk_far ?_ NB352_386.out _; (with_reducible repeat (first | refine blk_drewN ?_ _ | refine blk_drew ?_ | refine blk_alloc ?_ _)); exact BK352.out) hb) (blk_below (g := gb363) (o := .cells #[.int .i64 t356, .slice Ao31 t357.length co31, .slice Ao32 t360.length co32] 38 (0, 0)) (by (with_reducible repeat (first | refine blk_drewN ?_ _ | refine blk_drew ?_ | refine blk_alloc ?_ _)); refine blk_far ?_ NB363_386.out _; (with_reducible repeat (first | refine blk_drewN ?_ _ | refine blk_drew ?_ | refine blk_alloc ?_ _)); refine blk_far ?_ NB363_386.out _; (with_reducible repeat (first | refine blk_drewN ?_ _ | refine blk_drew ?_ | refine blk_alloc ?_ _)); refine blk_far ?_ NB363_386.out _; (with_reducible repeat (first | refine blk_drewN ?_ _ | refine blk_drew ?_ | refine blk_alloc ?_ _)); exact BK363.out) hb) (blk_below (g := gb386) (o := .cells #[.int .i64 t379, .slice Ao69 t380.length co69, .slice Ao70 t383.length co70] 38 (0, 0)) (by (with_reducible repeat (first | refine blk_drewN ?_ _ | refine blk_drew ?_ | refine blk_alloc ?_ _)); refine blk_put (cs := #[.int .i64 t379, .slice Ao69 t380.length co69, .slice none 0 0]) ?_ 2 _ rfl; (with_reducible repeat (first | refine blk_drewN ?_ _ | refine blk_drew ?_ | refine blk_alloc ?_ _)); refine blk_put (cs := #[.int .i64 t379, .slice none 0 0, .slice none 0 0]) ?_ 1 _ rfl; (with_reducible repeat (first | refine blk_drewN ?_ _ | refine blk_drew ?_ | refine blk_alloc ?_ _)); refine blk_put (cs := #[.int .i64 0, .slice none 0 0, .slice none 0 0]) ?_ 0 _ rfl; (with_reducible repeat (first | refine blk_drewN ?_ _ | refine blk_drew ?_ | refine blk_alloc ?_ _)); exact BK386.out) hb) (below_step (bl3_ HB GE352 GE363 GE386) hb) ?_⟩; clear HO_353001 HO_353002 HO_364001 HO_364002 HO378 HO382 HO385 BK352 BK363 BK386 HB hb; intro HO_353001 HO_353002 HO_364001 HO_364002 HO378 HO382 HO385 BK352 BK363 BK386 HB; have hcz73 := cf3_ BK363) | ((with_reducible refine gate_callee (f := 70) rfl ?_); refine goesL_ (some 78) rfl rfl Try.func70 (by kernel_rfl) rfl #[.agg #[.int .i64 t356, .slice Ao31 t373.length co31, .slice Ao32 t374.length co32], .int .i64 1] rfl (by (try simp only [List.map_toArray, List.map_cons, List.map_nil]); first | done | (rw [show t373.length = t357.length from (Kd.R_reads' HO_364001.out).1.symm, show t374.length = t360.length from (Kd.R_reads' HO_364002.out).1.symm] <;> rfl) | rfl | (simp only [List.length_drop, List.length_take]; rfl)) ?_; (with_reducible refine (laws_heldTable.calls kj16 t356 _ _ t373 _ _ t374 1 t388 _ ?side1 ?side2 ?side3 ?side4 A54.out).mono ?_); (case side1 => repeat (first | exact (Kd.R_reads' HO_364001.out).2.2 | (with_reducible refine Kd.C_alloc ?_ _) | (with_reducible refine Kd.C_drewN ?_ _) | (with_reducible refine Kd.C_drew ?_))); (case side2 => rw [show t373.length = t357.length from (Kd.R_reads' HO_364001.out).1.symm]; exact (Kd.R_reads' HO_364001.out).2.1); (case side3 => repeat (first | exact (Kd.R_reads' HO_364002.out).2.2 | (with_reducible refine Kd.C_alloc ?_ _) | (with_reducible refine Kd.C_drewN ?_ _) | (with_reducible refine Kd.C_drew ?_))); (case side4 => rw [show t374.length = t360.length from (Kd.R_reads' HO_364002.out).1.symm]; exact (Kd.R_reads' HO_364002.out).2.1); rintro e w74 ⟨rfl, hb⟩; refine ⟨_, rfl, sh11_ (Kd.R_below (ra_ HO_353001) hb) (Kd.R_below (ra_ HO_353002) hb) (Kd.R_below (ra_ HO_364001) hb) (Kd.R_below (ra_ HO_364002) hb) (Kd.R_below (ra_ HO378) hb) (Kd.R_below (ra_ HO382) hb) (Kd.R_below (ra_ HO385) hb) (blk_below (bk_ BK352) hb) (blk_below (bk_ BK363) hb) (blk_below (bk_ BK386) hb) (below_step (bl3_ HB GE352 GE363 GE386) hb) ?_⟩; clear HO_353001 HO_353002 HO_364001 HO_364002 HO378 HO382 HO385 BK352 BK363 BK386 HB hb; intro HO_353001 HO_353002 HO_364001 HO_364002 HO378 HO382 HO385 BK352 BK363 BK386 HB))
            go_ret
            exact ⟨er_, bl3_ HB GE352 GE363 GE386⟩
           ·rw [if_neg c56] at H
            obtain ⟨c56b0, c56b1⟩ := bn_ c56
            exact absurd H (by simp)
         ·replace c53 := Bool.eq_false_iff.mpr c53
          subst c53
          have H1 : (some false) = some true := by first | (rw [if_neg (show ¬ (false = true) by decide)] at H; exact H) | rfl
          clear H
          have H := H1
          clear H1
          exact absurd H (by simp)
        ·rw [if_neg c49] at H
         obtain ⟨c49b0, c49b1⟩ := bn_ c49
         exact absurd H (by simp)
   ·replace c15 := Bool.eq_false_iff.mpr c15
    subst c15
    have H1 : (some false) = some true := by first | (rw [if_neg (show ¬ (false = true) by decide)] at H; exact H) | rfl
    clear H
    have H := H1
    clear H1
    exact absurd H (by simp)
  ·replace c12 := Bool.eq_false_iff.mpr c12
   subst c12
   have H1 : (some false) = some true := by first | (rw [if_neg (show ¬ (false = true) by decide)] at H; exact H) | rfl
   clear H
   have H := H1
   clear H1
   exact absurd H (by simp)

end Go.Proofs.Ytlljhblilicnfaa.PFnExactTableOf
