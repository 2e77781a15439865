-- Written by a program of this session for this claim (the kit's printer with changes).
import Derived.Test.YtlljhblilicnfaaQFnExactNextTox0
import Derived.Test.YtlljhblilicnfaaQFnExactNextTox1
import Derived.Test.YtlljhblilicnfaaQFnExactNextTox3
import Derived.Test.YtlljhblilicnfaaQFnExactNextTox4
namespace Go.Proofs.Ytlljhblilicnfaa.PFnExactNextTo
open Go.RowKit Go.Proofs.YtlljhblilicnfaaW.PrintWords Go.Proofs.YtlljhblilicnfaaW.PrintLast Go.Proofs.YtlljhblilicnfaaW.PrintMore
attribute [local go_sem] max2_int min2_int max_two min_two max_three min_three max_four min_four   -- for this text's walks alone
set_option linter.unusedVariables false
set_option linter.unusedSimpArgs false

/-! ### impl_NextTo: function 66 -/
mutual
def impl_NextTo.l0 : Nat → List (S103) → Int → Int → Int → List Int → List Int → List Int → Int → Int → Option (List Int)
 | 0, _, _, _, _, _, _, _, _, _ => none
 | k + 1, x0, x1, x2, x3, x9, x10, x22, x23, x24 => if x24 < x23 then (if 0 ≤ x24 then (if x24 < (x22.length : Int) then ((impl_NeighborsIn.f k x0 x24).bind fun t305 => (impl_NextTo.l1 k x0 x1 x2 x3 x9 x10 (rd x22 x24) (-1) x22 x23 x24 t305 (t305.length : Int) 0)) else (none)) else (none)) else (some x9)
def impl_NextTo.l1 : Nat → List (S103) → Int → Int → Int → List Int → List Int → Int → Int → List Int → Int → Int → List Int → Int → Int → Option (List Int)
 | 0, _, _, _, _, _, _, _, _, _, _, _, _, _, _ => none
 | k + 1, x0, x1, x2, x3, x9, x10, x12, x13, x22, x23, x24, x31, x32, x33 => if x33 < x32 then (if 0 ≤ x33 then (if x33 < (x31.length : Int) then (if x13 < 0 then (if x12 > 0 then ((impl_isIndex.f (rd x31 x33) x1).bind fun t309 => (if t309 = true then (if (rd x31 x33) < x2 then (if 0 ≤ (rd x31 x33) then (if (rd x31 x33) < (x10.length : Int) then (if (rd x10 (rd x31 x33)) = (wrap64 (x12 - 1)) then (impl_NextTo.l1 k x0 x1 x2 x3 x9 x10 x12 (rd x31 x33) x22 x23 x24 x31 x32 (wrap64 (x33 + 1))) else (impl_NextTo.l1 k x0 x1 x2 x3 x9 x10 x12 x13 x22 x23 x24 x31 x32 (wrap64 (x33 + 1)))) else (none)) else (none)) else (if (rd x31 x33) = x3 then (if 0 ≤ (rd x31 x33) then (if (rd x31 x33) < (x10.length : Int) then (if (rd x10 (rd x31 x33)) = (wrap64 (x12 - 1)) then (impl_NextTo.l1 k x0 x1 x2 x3 x9 x10 x12 (rd x31 x33) x22 x23 x24 x31 x32 (wrap64 (x33 + 1))) else (impl_NextTo.l1 k x0 x1 x2 x3 x9 x10 x12 x13 x22 x23 x24 x31 x32 (wrap64 (x33 + 1)))) else (none)) else (none)) else (impl_NextTo.l1 k x0 x1 x2 x3 x9 x10 x12 x13 x22 x23 x24 x31 x32 (wrap64 (x33 + 1))))) else (impl_NextTo.l1 k x0 x1 x2 x3 x9 x10 x12 x13 x22 x23 x24 x31 x32 (wrap64 (x33 + 1))))) else (impl_NextTo.l1 k x0 x1 x2 x3 x9 x10 x12 x13 x22 x23 x24 x31 x32 (wrap64 (x33 + 1)))) else (impl_NextTo.l1 k x0 x1 x2 x3 x9 x10 x12 x13 x22 x23 x24 x31 x32 (wrap64 (x33 + 1)))) else (none)) else (none)) else (if x9.length < 17592186044416 then (impl_NextTo.l0 k x0 x1 x2 x3 (x9 ++ [x13]) x10 x22 x23 (wrap64 (x24 + 1))) else (none))
end
def impl_NextTo.f (k : Nat) (l0 : List (S103)) (a1 : Int) (a2 : Int) (a3 : Int) : Option (List Int) := (impl_DistancesTo.f k l0 a1 a2 a3).bind fun t301 => (impl_NextTo.l0 k l0 a1 a2 a3 (([] : List Int)) t301 t301 (t301.length : Int) 0)
theorem impl_NextTo.mono_l : ∀ k, (∀ y0 y1 y2 y3 y4 y5 y6 y7 y8, LeO (impl_NextTo.l0 k y0 y1 y2 y3 y4 y5 y6 y7 y8) (impl_NextTo.l0 (k + 1) y0 y1 y2 y3 y4 y5 y6 y7 y8)) ∧ (∀ y0 y1 y2 y3 y4 y5 y6 y7 y8 y9 y10 y11 y12 y13, LeO (impl_NextTo.l1 k y0 y1 y2 y3 y4 y5 y6 y7 y8 y9 y10 y11 y12 y13) (impl_NextTo.l1 (k + 1) y0 y1 y2 y3 y4 y5 y6 y7 y8 y9 y10 y11 y12 y13))
 | 0 => ⟨fun _ _ _ _ _ _ _ _ _ r h => by simp [impl_NextTo.l0] at h, fun _ _ _ _ _ _ _ _ _ _ _ _ _ _ r h => by simp [impl_NextTo.l1] at h⟩
 | k + 1 => by
  obtain ⟨ih0, ih1⟩ := impl_NextTo.mono_l k
  refine ⟨?_, ?_⟩
  ·intro y0 y1 y2 y3 y4 y5 y6 y7 y8
   unfold impl_NextTo.l0
   repeat' first | (with_reducible first | exact ih0 _ _ _ _ _ _ _ _ _ | exact ih1 _ _ _ _ _ _ _ _ _ _ _ _ _ _ | exact impl_DistancesTo.mono _ _ _ _ _ | exact impl_NeighborsIn.mono _ _ _ | exact LeO.refl _ | exact LeO.none _ | refine LeO.ite ?_ ?_ | refine LeO.bind ?_ (fun _ => ?_)) | exact LeO.none _ | refine LeO.ite ?_ ?_ | refine LeO.bind ?_ (fun _ => ?_)
  ·intro y0 y1 y2 y3 y4 y5 y6 y7 y8 y9 y10 y11 y12 y13
   unfold impl_NextTo.l1
   repeat' first | (with_reducible first | exact ih0 _ _ _ _ _ _ _ _ _ | exact ih1 _ _ _ _ _ _ _ _ _ _ _ _ _ _ | exact impl_DistancesTo.mono _ _ _ _ _ | exact impl_NeighborsIn.mono _ _ _ | exact LeO.refl _ | exact LeO.none _ | refine LeO.ite ?_ ?_ | refine LeO.bind ?_ (fun _ => ?_)) | exact LeO.none _ | refine LeO.ite ?_ ?_ | refine LeO.bind ?_ (fun _ => ?_)
theorem impl_NextTo.mono : ∀ a0 a1 a2 a3 k, LeO (impl_NextTo.f k a0 a1 a2 a3) (impl_NextTo.f (k + 1) a0 a1 a2 a3) := by
 intro a0 a1 a2 a3 k
 obtain ⟨ih0, ih1⟩ := impl_NextTo.mono_l k
 unfold impl_NextTo.f
 repeat' first | (with_reducible first | exact ih0 _ _ _ _ _ _ _ _ _ | exact ih1 _ _ _ _ _ _ _ _ _ _ _ _ _ _ | exact impl_DistancesTo.mono _ _ _ _ _ | exact impl_NeighborsIn.mono _ _ _ | exact LeO.refl _ | exact LeO.none _ | refine LeO.ite ?_ ?_ | refine LeO.bind ?_ (fun _ => ?_)) | exact LeO.none _ | refine LeO.ite ?_ ?_ | refine LeO.bind ?_ (fun _ => ?_)
set_option maxHeartbeats 8000000 in
set_option maxRecDepth 100000 in
theorem impl_NextTo.calls (k : Nat) (A0 : Option Addr) (c0 : Nat) (l0 : List (S103)) (a1 : Int) (a2 : Int) (a3 : Int) (r : List Int) (w : World) (hr0 : Kd.C k103 w A0 l0.length l0) (hc0 : l0.length ≤ c0) (h : impl_NextTo.f k l0 a1 a2 a3 = some r) :
  Calls Try.prog 66 #[.slice A0 l0.length c0, .int .i64 a1, .int .i64 a2, .int .i64 a3] w fun e w' => ∃ v0_ : Value, e = .returned (v0_) ∧ Kd.R (Kd.int .i64) 3 w' w.heap.size (fun _ => True) v0_ r ∧ Below w.heap.size w w' := by
 have HR0 := Aside0.mk hr0
 have HC0 := Aside0.mk hc0
 clear hr0 hc0
 have HB := Aside0.mk (Below.refl w.heap.size w)
 have H := h
 clear h
 unfold impl_NextTo.f at H
 replace H : ∃ y_ : List Int, Aside0 (y_ = (([] : List Int))) ∧ ((impl_DistancesTo.f k l0 a1 a2 a3).bind fun t301 => (impl_NextTo.l0 k l0 a1 a2 a3 y_ t301 t301 (t301.length : Int) 0)) = some r := ⟨_, ⟨rfl⟩, yh_ H⟩
 obtain ⟨y298, Ny298, H⟩ := H
 replace H := bs_ H
 obtain ⟨t301, A5, H⟩ := H
 have H' := Aside0.mk H
 clear H
 go_enter Try.func66, Try.ntmps66
 go_wp2_with (first | ((with_reducible refine gate_dst (N := 16) rfl ?_); refine Kd.R_lit (Kd.int .i64) _ 3 ?hg (N := 16) ?hd (xs := ([] : List Int)) (inner := []) (ok := fun _ => True) (okp := fun _ => True) ?hr ?hp (fun _ hk => hk) trivial (Below.refl _ _) (Nat.le_refl _) (by simp) ?_; (case hd => rfl); (case hg => rfl); (case hr => first | (go_simp; done) | (go_simp; rfl)); (case hp => exact (Reps.none _ _)); intro v299 w6 ho7 hb hg_ hnew_; clear hg_ hnew_; (first | rw [← Ny298.out] at ho7 | (simp only [Int.reduceToNat] at ho7; rw [← Ny298.out] at ho7)); refine sh2_ (Kd.R_lower ho7 (below_size (bl_ HB))) (below_step (bl_ HB) hb) ?_; clear HB hb ho7; intro HO300 HB) | ((with_reducible refine gate_callee (f := 59) rfl ?_); refine gl_ 21 Try.func59 (impl_DistancesTo.calls k _ _ l0 a1 a2 a3 t301 _ (ck_ HR0 HB) HC0.out A5.out) ?_; rintro e w8 ⟨v302, rfl, ho0, hb⟩; refine ⟨_, rfl, sh3_ (Kd.R_elder' (ra_ HO300) (Kd.R_base ho0) hb) (Kd.R_lower (Kd.R_new' ho0 (Kd.R_lt (ra_ HO300))) (below_size (bl_ HB))) (below_step (bl_ HB) hb) ?_⟩; clear HO300 HB hb ho0; intro HO300 HO303 HB; obtain ⟨Ao9, co9, eo9⟩ := Kd.R_slice HO303.out; subst eo9))
 go_loopg [9, 24] k (fun kq v9 v24 w' => ∃ (x9_1 : List Int) (x24_1 : Int), v24 = .int .i64 x24_1 ∧ Aside0 (impl_NextTo.l0 kq l0 a1 a2 a3 x9_1 t301 t301 (t301.length : Int) x24_1 = some r) ∧ Aside0 (kq ≤ k) ∧ Aside0 (Kd.R (Kd.int .i64) 3 w' w.heap.size (fun k_ => some k_ ≠ ((.slice Ao9 t301.length co9) : Value).ownBlock ∧ some k_ ≠ ((.slice Ao9 t301.length co9) : Value).ownBlock) v9 x9_1) ∧ Aside0 (Kd.R (Kd.int .i64) 3 w' w.heap.size (fun k_ => some k_ ≠ (v9 : Value).ownBlock) (.slice Ao9 t301.length co9) t301) ∧ Aside0 (Kd.R (Kd.int .i64) 3 w' w.heap.size (fun k_ => some k_ ≠ (v9 : Value).ownBlock) (.slice Ao9 t301.length co9) t301) ∧ Aside0 (Below w.heap.size w w'))
 case atStart => exact ⟨(y298), (0), (by first | rfl | (simp; done) | (simp [*]; done)), H', ⟨Nat.le_refl _⟩, ⟨by (with_reducible repeat (first | apply Kd.R_alloc | apply Kd.R_drewN | apply Kd.R_drew)); exact Kd.R_mono HO300.out (fun _ hk => ⟨hk.2, hk.2⟩)⟩, ⟨by (with_reducible repeat (first | apply Kd.R_alloc | apply Kd.R_drewN | apply Kd.R_drew)); exact Kd.R_mono HO303.out (fun _ hk => hk.2)⟩, ⟨by (with_reducible repeat (first | apply Kd.R_alloc | apply Kd.R_drewN | apply Kd.R_drew)); exact Kd.R_mono HO303.out (fun _ hk => hk.2)⟩, ⟨bl_ HB⟩⟩
 case round =>
  clear H'
  try clear p2
  try clear c5
  try clear c6
  obtain ⟨x9_1, x24_1, rfl, HA, HK1, HO_9, HO_10, HO_22, HB⟩ := hrel
  cases gk with
  | zero => exact absurd HA.out (by simp [impl_NextTo.l0])
  | succ k1 =>
   have H := HA.out
   clear HA
   simp only [impl_NextTo.l0] at H
   by_cases c10 : x24_1 < (t301.length : Int)
   ·rw [if_pos c10] at H
    have c10b0 := decide_eq_true c10
    clear c10
    replace H := ifn_ H
    obtain ⟨c11, H⟩ := H
    have c11b0 := decide_eq_true c11
    clear c11
    replace H := ifn_ H
    obtain ⟨c12, H⟩ := H
    have c12b0 := decide_eq_true c12
    clear c12
    replace H := bs_ H
    obtain ⟨t305, A13, H⟩ := H
    have H' := Aside0.mk H
    clear H
    have p304 : 0 ≤ (x24_1 : Int) := od_
    have q304 : x24_1 < (t301.length : Int) := od_
    obtain ⟨ad304, e304, hx304_0⟩ := Kd.at_int (Kd.R_reads' HO_22.out).2.2 x24_1 p304 q304
    cases e304
    replace p304 := eq_true p304
    replace q304 := eq_true q304
    go_wp2_with (first | ((with_reducible refine gate_callee (f := 57) rfl ?_); refine gl_ 31 Try.func57 (impl_NeighborsIn.calls k1 _ _ l0 x24_1 t305 _ (ck_ HR0 HB) HC0.out A13.out) ?_; rintro e w14 ⟨v306, rfl, ho0, hb⟩; refine ⟨_, rfl, sh5_ (Kd.R_elder' (ra_ HO_9) (Kd.R_base ho0) hb) (Kd.R_elder' (ra_ HO_10) (Kd.R_base ho0) hb) (Kd.R_elder' (ra_ HO_22) (Kd.R_base ho0) hb) (Kd.R_lower (Kd.R_new' (Kd.R_new' (Kd.R_new' ho0 (Kd.R_lt (ra_ HO_9))) (Kd.R_lt (ra_ HO_10))) (Kd.R_lt (ra_ HO_22))) (below_size (bl_ HB))) (below_step (bl_ HB) hb) ?_⟩; clear HO_9 HO_10 HO_22 HB hb ho0; intro HO_9 HO_10 HO_22 HO307 HB; obtain ⟨Ao15, co15, eo15⟩ := Kd.R_slice HO307.out; subst eo15))
    go_loopg [13, 33] k1 (fun kq v13 v33 w' => ∃ (x13_2 : Int) (x33_2 : Int), v13 = .int .i64 x13_2 ∧ v33 = .int .i64 x33_2 ∧ Aside0 (impl_NextTo.l1 kq l0 a1 a2 a3 x9_1 t301 (rd t301 x24_1) x13_2 t301 (t301.length : Int) x24_1 t305 (t305.length : Int) x33_2 = some r) ∧ Aside0 (kq ≤ k1) ∧ Aside0 (Kd.R (Kd.int .i64) 3 w' w.heap.size (fun k_ => some k_ ≠ ((.slice (some ad304) t301.length co9) : Value).ownBlock ∧ some k_ ≠ ((.slice (some ad304) t301.length co9) : Value).ownBlock ∧ some k_ ≠ ((.slice Ao15 t305.length co15) : Value).ownBlock) u9 x9_1) ∧ Aside0 (Kd.R (Kd.int .i64) 3 w' w.heap.size (fun k_ => some k_ ≠ (u9 : Value).ownBlock ∧ some k_ ≠ ((.slice Ao15 t305.length co15) : Value).ownBlock) (.slice (some ad304) t301.length co9) t301) ∧ Aside0 (Kd.R (Kd.int .i64) 3 w' w.heap.size (fun k_ => some k_ ≠ (u9 : Value).ownBlock ∧ some k_ ≠ ((.slice Ao15 t305.length co15) : Value).ownBlock) (.slice (some ad304) t301.length co9) t301) ∧ Aside0 (Kd.R (Kd.int .i64) 3 w' w.heap.size (fun k_ => some k_ ≠ (u9 : Value).ownBlock ∧ some k_ ≠ ((.slice (some ad304) t301.length co9) : Value).ownBlock ∧ some k_ ≠ ((.slice (some ad304) t301.length co9) : Value).ownBlock) (.slice Ao15 t305.length co15) t305) ∧ Aside0 (Below w.heap.size w w'))
    case atStart => exact ⟨((-1)), (0), (by first | rfl | (simp; done) | (simp [*]; done)), (by first | rfl | (simp; done) | (simp [*]; done)), H', ⟨Nat.le_refl _⟩, ⟨by (with_reducible repeat (first | apply Kd.R_alloc | apply Kd.R_drewN | apply Kd.R_drew)); exact Kd.R_mono HO_9.out (fun _ hk => ⟨hk.1.1, ⟨hk.1.2, hk.2⟩⟩)⟩, ⟨ra_ HO_10⟩, ⟨ra_ HO_22⟩, ⟨by (with_reducible repeat (first | apply Kd.R_alloc | apply Kd.R_drewN | apply Kd.R_drew)); exact Kd.R_mono HO307.out (fun _ hk => ⟨hk.1.1.2, ⟨hk.1.2, hk.2⟩⟩)⟩, ⟨bl_ HB⟩⟩
    case round =>
     clear H'
     try clear c1
     try clear p2
     try clear p3
     try clear q3
     try clear hx3
     try clear c5
     try clear c6
     try clear c10
     try clear c10b0
     try clear c11
     try clear c11b0
     try clear c12
     try clear c12b0
     try clear hx304_0
     try clear p2
     try clear p304
     try clear q304
     obtain ⟨x13_2, x33_2, rfl, rfl, HA, HK2, HO_9, HO_10, HO_22, HO_31, HB⟩ := hrel
     cases gk with
     | zero => exact absurd HA.out (by simp [impl_NextTo.l1])
     | succ k2 =>
      have H := HA.out
      clear HA
      simp only [impl_NextTo.l1] at H
      by_cases c16 : x33_2 < (t305.length : Int)
      ·rw [if_pos c16] at H
       have c16b0 := decide_eq_true c16
       clear c16
       replace H := ifn_ H
       obtain ⟨c17, H⟩ := H
       have c17b0 := decide_eq_true c17
       clear c17
       replace H := ifn_ H
       obtain ⟨c18, H⟩ := H
       have c18b0 := decide_eq_true c18
       clear c18
       by_cases c19 : x13_2 < 0
       ·rw [if_pos c19] at H
        have c19b0 := decide_eq_true c19
        clear c19
        by_cases c20 : (rd t301 x24_1) > 0
        ·rw [if_pos c20] at H
         have c20b0 : decide (0 < (rd t301 x24_1)) = true := decide_eq_true c20
         clear c20
         replace H := bs_ H
         obtain ⟨t309, A21, H⟩ := H
         by_cases c22 : t309 = true
         ·subst c22
          rw [if_pos rfl] at H
          by_cases c23 : (rd t305 x33_2) < a2
          ·rw [if_pos c23] at H
           have c23b0 := decide_eq_true c23
           clear c23
           replace H := ifn_ H
           obtain ⟨c24, H⟩ := H
           have c24b0 := decide_eq_true c24
           clear c24
           replace H := ifn_ H
           obtain ⟨c25, H⟩ := H
           have c25b0 := decide_eq_true c25
           clear c25
           by_cases c26 : (rd t301 (rd t305 x33_2)) = (wrap64 ((rd t301 x24_1) - 1))
           ·rw [if_pos c26] at H
            obtain ⟨c26b0, c26b1⟩ := bt_ c26
            clear c26
            have H' := Aside0.mk H
            clear H
            have p308 : 0 ≤ (x33_2 : Int) := od_
            have q308 : x33_2 < (t305.length : Int) := od_
            obtain ⟨ad308, e308, hx308_0⟩ := Kd.at_int (Kd.R_reads' HO_31.out).2.2 x33_2 p308 q308
            cases e308
            replace p308 := eq_true p308
            replace q308 := eq_true q308
            go_wp2_with (first | (go_at_call 73; (with_reducible refine (impl_isIndex.calls (rd t305 x33_2) a1 true _ A21.out).mono ?_); rintro e w' ⟨rfl, ⟨nd, rfl⟩⟩; have p310 : 0 ≤ ((rd t305 x33_2) : Int) := od_; have q310 : (rd t305 x33_2) < (t301.length : Int) := od_; obtain ⟨ad310, e310, hx310_0⟩ := Kd.at_int (Kd.R_reads' HO_10.out).2.2 (rd t305 x33_2) p310 q310; obtain rfl : ad304 = ad310 := (by injection e310); replace p310 := eq_true p310; replace q310 := eq_true q310))
            go_roundg k2
            case measure => have := HK1.out; have := HK2.out; omega
            case rel => exact ⟨(rd t305 x33_2), (wrap64 (x33_2 + 1)), (by first | rfl | (simp; done) | (simp [*]; done)), (by first | rfl | (simp; done) | (simp [*]; done)), H', ⟨by have := HK1.out; have := HK2.out; omega⟩, ⟨ra_ HO_9⟩, ⟨ra_ HO_10⟩, ⟨ra_ HO_22⟩, ⟨ra_ HO_31⟩, ⟨bl_ HB⟩⟩
           ·rw [if_neg c26] at H
            obtain ⟨c26b0, c26b1⟩ := bn_ c26
            have H' := Aside0.mk H
            clear H
            have p308 : 0 ≤ (x33_2 : Int) := od_
            have q308 : x33_2 < (t305.length : Int) := od_
            obtain ⟨ad308, e308, hx308_0⟩ := Kd.at_int (Kd.R_reads' HO_31.out).2.2 x33_2 p308 q308
            cases e308
            replace p308 := eq_true p308
            replace q308 := eq_true q308
            go_wp2_with (first | (go_at_call 73; (with_reducible refine (impl_isIndex.calls (rd t305 x33_2) a1 true _ A21.out).mono ?_); rintro e w' ⟨rfl, ⟨nd, rfl⟩⟩; have p310 : 0 ≤ ((rd t305 x33_2) : Int) := od_; have q310 : (rd t305 x33_2) < (t301.length : Int) := od_; obtain ⟨ad310, e310, hx310_0⟩ := Kd.at_int (Kd.R_reads' HO_10.out).2.2 (rd t305 x33_2) p310 q310; obtain rfl : ad304 = ad310 := (by injection e310); replace p310 := eq_true p310; replace q310 := eq_true q310))
            go_roundg k2
            case measure => have := HK1.out; have := HK2.out; omega
            case rel => exact ⟨(x13_2), (wrap64 (x33_2 + 1)), (by first | rfl | (simp; done) | (simp [*]; done)), (by first | rfl | (simp; done) | (simp [*]; done)), H', ⟨by have := HK1.out; have := HK2.out; omega⟩, ⟨ra_ HO_9⟩, ⟨ra_ HO_10⟩, ⟨ra_ HO_22⟩, ⟨ra_ HO_31⟩, ⟨bl_ HB⟩⟩
          ·rw [if_neg c23] at H
           have c23b0 := decide_eq_false c23
           clear c23
           by_cases c27 : (rd t305 x33_2) = a3
           ·rw [if_pos c27] at H
            obtain ⟨c27b0, c27b1⟩ := bt_ c27
            clear c27
            replace H := ifn_ H
            obtain ⟨c28, H⟩ := H
            have c28b0 := decide_eq_true c28
            clear c28
            replace H := ifn_ H
            obtain ⟨c29, H⟩ := H
            have c29b0 := decide_eq_true c29
            clear c29
            by_cases c30 : (rd t301 (rd t305 x33_2)) = (wrap64 ((rd t301 x24_1) - 1))
            ·rw [if_pos c30] at H
             obtain ⟨c30b0, c30b1⟩ := bt_ c30
             clear c30
             have H' := Aside0.mk H
             clear H
             have p308 : 0 ≤ (x33_2 : Int) := od_
             have q308 : x33_2 < (t305.length : Int) := od_
             obtain ⟨ad308, e308, hx308_0⟩ := Kd.at_int (Kd.R_reads' HO_31.out).2.2 x33_2 p308 q308
             cases e308
             replace p308 := eq_true p308
             replace q308 := eq_true q308
             go_wp2_with (first | (go_at_call 73; (with_reducible refine (impl_isIndex.calls (rd t305 x33_2) a1 true _ A21.out).mono ?_); rintro e w' ⟨rfl, ⟨nd, rfl⟩⟩; have p311 : 0 ≤ ((rd t305 x33_2) : Int) := od_; have q311 : (rd t305 x33_2) < (t301.length : Int) := od_; obtain ⟨ad311, e311, hx311_0⟩ := Kd.at_int (Kd.R_reads' HO_10.out).2.2 (rd t305 x33_2) p311 q311; obtain rfl : ad304 = ad311 := (by injection e311); replace p311 := eq_true p311; replace q311 := eq_true q311))
             go_roundg k2
             case measure => have := HK1.out; have := HK2.out; omega
             case rel => exact ⟨(rd t305 x33_2), (wrap64 (x33_2 + 1)), (by first | rfl | (simp; done) | (simp [*]; done)), (by first | rfl | (simp; done) | (simp [*]; done)), H', ⟨by have := HK1.out; have := HK2.out; omega⟩, ⟨ra_ HO_9⟩, ⟨ra_ HO_10⟩, ⟨ra_ HO_22⟩, ⟨ra_ HO_31⟩, ⟨bl_ HB⟩⟩
            ·rw [if_neg c30] at H
             obtain ⟨c30b0, c30b1⟩ := bn_ c30
             have H' := Aside0.mk H
             clear H
             have p308 : 0 ≤ (x33_2 : Int) := od_
             have q308 : x33_2 < (t305.length : Int) := od_
             obtain ⟨ad308, e308, hx308_0⟩ := Kd.at_int (Kd.R_reads' HO_31.out).2.2 x33_2 p308 q308
             cases e308
             replace p308 := eq_true p308
             replace q308 := eq_true q308
             go_wp2_with (first | (go_at_call 73; (with_reducible refine (impl_isIndex.calls (rd t305 x33_2) a1 true _ A21.out).mono ?_); rintro e w' ⟨rfl, ⟨nd, rfl⟩⟩; have p311 : 0 ≤ ((rd t305 x33_2) : Int) := od_; have q311 : (rd t305 x33_2) < (t301.length : Int) := od_; obtain ⟨ad311, e311, hx311_0⟩ := Kd.at_int (Kd.R_reads' HO_10.out).2.2 (rd t305 x33_2) p311 q311; obtain rfl : ad304 = ad311 := (by injection e311); replace p311 := eq_true p311; replace q311 := eq_true q311))
             go_roundg k2
             case measure => have := HK1.out; have := HK2.out; omega
             case rel => exact ⟨(x13_2), (wrap64 (x33_2 + 1)), (by first | rfl | (simp; done) | (simp [*]; done)), (by first | rfl | (simp; done) | (simp [*]; done)), H', ⟨by have := HK1.out; have := HK2.out; omega⟩, ⟨ra_ HO_9⟩, ⟨ra_ HO_10⟩, ⟨ra_ HO_22⟩, ⟨ra_ HO_31⟩, ⟨bl_ HB⟩⟩
           ·rw [if_neg c27] at H
            obtain ⟨c27b0, c27b1⟩ := bn_ c27
            have H' := Aside0.mk H
            clear H
            have p308 : 0 ≤ (x33_2 : Int) := od_
            have q308 : x33_2 < (t305.length : Int) := od_
            obtain ⟨ad308, e308, hx308_0⟩ := Kd.at_int (Kd.R_reads' HO_31.out).2.2 x33_2 p308 q308
            cases e308
            replace p308 := eq_true p308
            replace q308 := eq_true q308
            go_wp2_with (first | (go_at_call 73; (with_reducible refine (impl_isIndex.calls (rd t305 x33_2) a1 true _ A21.out).mono ?_); rintro e w' ⟨rfl, ⟨nd, rfl⟩⟩))
            go_roundg k2
            case measure => have := HK1.out; have := HK2.out; omega
            case rel => exact ⟨(x13_2), (wrap64 (x33_2 + 1)), (by first | rfl | (simp; done) | (simp [*]; done)), (by first | rfl | (simp; done) | (simp [*]; done)), H', ⟨by have := HK1.out; have := HK2.out; omega⟩, ⟨ra_ HO_9⟩, ⟨ra_ HO_10⟩, ⟨ra_ HO_22⟩, ⟨ra_ HO_31⟩, ⟨bl_ HB⟩⟩
         ·replace c22 := Bool.eq_false_iff.mpr c22
          subst c22
          have H1 : (impl_NextTo.l1 k2 l0 a1 a2 a3 x9_1 t301 (rd t301 x24_1) x13_2 t301 (t301.length : Int) x24_1 t305 (t305.length : Int) (wrap64 (x33_2 + 1))) = some r := by rw [if_neg (show ¬ (false = true) by decide)] at H; exact H
          clear H
          have H := H1
          clear H1
          have H' := Aside0.mk H
          clear H
          have p308 : 0 ≤ (x33_2 : Int) := od_
          have q308 : x33_2 < (t305.length : Int) := od_
          obtain ⟨ad308, e308, hx308_0⟩ := Kd.at_int (Kd.R_reads' HO_31.out).2.2 x33_2 p308 q308
          cases e308
          replace p308 := eq_true p308
          replace q308 := eq_true q308
          go_wp2_with (first | (go_at_call 73; (with_reducible refine (impl_isIndex.calls (rd t305 x33_2) a1 false _ A21.out).mono ?_); rintro e w' ⟨rfl, ⟨nd, rfl⟩⟩))
          go_roundg k2
          case measure => have := HK1.out; have := HK2.out; omega
          case rel => exact ⟨(x13_2), (wrap64 (x33_2 + 1)), (by first | rfl | (simp; done) | (simp [*]; done)), (by first | rfl | (simp; done) | (simp [*]; done)), H', ⟨by have := HK1.out; have := HK2.out; omega⟩, ⟨ra_ HO_9⟩, ⟨ra_ HO_10⟩, ⟨ra_ HO_22⟩, ⟨ra_ HO_31⟩, ⟨bl_ HB⟩⟩
        ·rw [if_neg c20] at H
         have c20b0 : decide (0 < (rd t301 x24_1)) = false := decide_eq_false c20
         clear c20
         have H' := Aside0.mk H
         clear H
         have p308 : 0 ≤ (x33_2 : Int) := od_
         have q308 : x33_2 < (t305.length : Int) := od_
         obtain ⟨ad308, e308, hx308_0⟩ := Kd.at_int (Kd.R_reads' HO_31.out).2.2 x33_2 p308 q308
         cases e308
         replace p308 := eq_true p308
         replace q308 := eq_true q308
         go_wp2
         go_roundg k2
         case measure => have := HK1.out; have := HK2.out; omega
         case rel => exact ⟨(x13_2), (wrap64 (x33_2 + 1)), (by first | rfl | (simp; done) | (simp [*]; done)), (by first | rfl | (simp; done) | (simp [*]; done)), H', ⟨by have := HK1.out; have := HK2.out; omega⟩, ⟨ra_ HO_9⟩, ⟨ra_ HO_10⟩, ⟨ra_ HO_22⟩, ⟨ra_ HO_31⟩, ⟨bl_ HB⟩⟩
       ·rw [if_neg c19] at H
        have c19b0 : decide (x13_2 < 0) = false := decide_eq_false c19
        clear c19
        have H' := Aside0.mk H
        clear H
        have p308 : 0 ≤ (x33_2 : Int) := od_
        have q308 : x33_2 < (t305.length : Int) := od_
        obtain ⟨ad308, e308, hx308_0⟩ := Kd.at_int (Kd.R_reads' HO_31.out).2.2 x33_2 p308 q308
        cases e308
        replace p308 := eq_true p308
        replace q308 := eq_true q308
        go_wp2
        go_roundg k2
        case measure => have := HK1.out; have := HK2.out; omega
        case rel => exact ⟨(x13_2), (wrap64 (x33_2 + 1)), (by first | rfl | (simp; done) | (simp [*]; done)), (by first | rfl | (simp; done) | (simp [*]; done)), H', ⟨by have := HK1.out; have := HK2.out; omega⟩, ⟨ra_ HO_9⟩, ⟨ra_ HO_10⟩, ⟨ra_ HO_22⟩, ⟨ra_ HO_31⟩, ⟨bl_ HB⟩⟩
      ·rw [if_neg c16] at H
       have c16b0 : decide (x33_2 < (t305.length : Int)) = false := decide_eq_false c16
       clear c16
       replace H := ifn_ H
       obtain ⟨c31, H⟩ := H
       have LMc31 := Aside0.mk c31
       clear c31
       replace H : ∃ y_ : List Int, Aside0 (y_ = (x9_1 ++ [x13_2])) ∧ (impl_NextTo.l0 k2 l0 a1 a2 a3 y_ t301 t301 (t301.length : Int) (wrap64 (x24_1 + 1))) = some r := ⟨_, ⟨rfl⟩, yh_ H⟩
       obtain ⟨y312, Ny312, H⟩ := H
       have H' := Aside0.mk H
       clear H
       go_wp2_with (first | ((with_reducible refine gate_builtin (b := .append) (xs := #[.tmp 69, .tmp 71]) rfl ?_); at_builtin; refine Kd.R_append (Kd.int .i64) (w0 := w) w.heap.size rfl (.tmp 69) (.tmp 71) 24 3 (.int .i64 0) 8 rfl Try.underlying24 info3 rfl (by decide) (by omega) u9 x9_1 x13_2 [.int .i64 x13_2] (fun k_ => some k_ ≠ (.slice (some ad304) t301.length co9 : Value).ownBlock ∧ some k_ ≠ (.slice (some ad304) t301.length co9 : Value).ownBlock ∧ some k_ ≠ (.slice Ao15 t305.length co15 : Value).ownBlock) (fun _ => False) rfl rfl ?aP (fun _ hk => hk.elim) ?aF ?aO ?aB ?aS ?aL ?_; (case aP => exact rfl); (case aB => exact (bl_ HB)); (case aF => exact (fun k_ hk => ⟨Kd.fresh' (Kd.R_lt (ra_ HO_10)) k_ hk, Kd.fresh' (Kd.R_lt (ra_ HO_22)) k_ hk, Kd.fresh' (Kd.R_lt (ra_ HO_31)) k_ hk⟩)); (case aO => exact (ra_ HO_9)); (case aS => exact (below_size (bl_ HB))); (case aL => have := LMc31.out; omega); intro v313 w32 ho hb hg hat; rw [← Ny312.out] at ho; refine sh5_ (Kd.R_after (ok := (fun k_ => some k_ ≠ (.slice Ao15 t305.length co15 : Value).ownBlock)) (by (with_reducible repeat (first | apply Kd.R_alloc | apply Kd.R_drewN | apply Kd.R_drew)); exact Kd.R_mono HO_10.out (fun _ hk => ⟨hk.2, hk.1⟩)) hg hat) (Kd.R_after (ok := (fun k_ => some k_ ≠ (.slice Ao15 t305.length co15 : Value).ownBlock)) (by (with_reducible repeat (first | apply Kd.R_alloc | apply Kd.R_drewN | apply Kd.R_drew)); exact Kd.R_mono HO_22.out (fun _ hk => ⟨hk.2, hk.1⟩)) hg hat) (Kd.R_after (ok := (fun k_ => some k_ ≠ (.slice (some ad304) t301.length co9 : Value).ownBlock ∧ some k_ ≠ (.slice (some ad304) t301.length co9 : Value).ownBlock)) (by (with_reducible repeat (first | apply Kd.R_alloc | apply Kd.R_drewN | apply Kd.R_drew)); exact Kd.R_mono HO_31.out (fun _ hk => ⟨⟨hk.2.1, hk.2.2⟩, hk.1⟩)) hg hat) hb ho ?_; clear HO_10 HO_22 HO_31 HB HO_9 ho hb hg hat; intro HO_10 HO_22 HO_31 HB HO314))
       go_roundg k2
       case measure => have := HK1.out; have := HK2.out; omega
       case rel => exact ⟨(y312), (wrap64 (x24_1 + 1)), (by first | rfl | (simp; done) | (simp [*]; done)), H', ⟨by have := HK1.out; have := HK2.out; omega⟩, ⟨by (with_reducible repeat (first | apply Kd.R_alloc | apply Kd.R_drewN | apply Kd.R_drew)); exact Kd.R_mono HO314.out (fun _ hk => ⟨hk.1, hk.2.1⟩)⟩, ⟨by (with_reducible repeat (first | apply Kd.R_alloc | apply Kd.R_drewN | apply Kd.R_drew)); exact Kd.R_mono HO_10.out (fun _ hk => hk.2)⟩, ⟨by (with_reducible repeat (first | apply Kd.R_alloc | apply Kd.R_drewN | apply Kd.R_drew)); exact Kd.R_mono HO_22.out (fun _ hk => hk.2)⟩, ⟨bl_ HB⟩⟩
   ·rw [if_neg c10] at H
    have c10b0 : decide (x24_1 < (t301.length : Int)) = false := decide_eq_false c10
    clear c10
    obtain rfl := Option.some.inj H
    go_wp2
    go_ret
    exact ⟨_, er_, by (with_reducible repeat (first | apply Kd.R_alloc | apply Kd.R_drewN | apply Kd.R_drew)); exact Kd.R_mono HO_9.out (fun _ hk => trivial), bl_ HB⟩

/-! ### laws_FnExactNextTo: function 13 -/
def laws_FnExactNextTo.j0 : Nat → List (S117) → Int → Int → Int → List Int → List Int → Bool → Option (Bool)
 | 0, _, _, _, _, _, _, _ => none
 | k + 1, x0, x1, x2, x3, x10, x12, x54 => if x54 = true then (some false) else ((laws_markIntS.f k x12 1).bind fun bt336 => ((laws_heldIntS.f k bt336.2 1).bind fun t338 => (if t338 < 0 then (some false) else (if t338 = bt336.1 then ((laws_toLinkS.f k x0).bind fun t339 => ((impl_NextTo.f k t339 x1 x2 x3).bind fun t342 => ((laws_eqIntS.f k t342 x10).bind fun t345 => (if t345 = true then ((laws_heldIntS.f k bt336.2 1).bind fun t346 => (if t346 < 0 then (some false) else (if t346 = bt336.1 then (some true) else (some false)))) else (some false))))) else (some false)))))
def laws_FnExactNextTo.f (k : Nat) (l0 : List (S117)) (a1 : Int) (a2 : Int) (a3 : Int) : Option (Bool) := (laws_szLinkS.f l0 1048576).bind fun t315 => (if t315 < 0 then (some true) else ((laws_toLinkS.f k l0).bind fun t316 => ((spec_NextTo.f k t316 a1 a2 a3).bind fun t319 => ((laws_toLinkS.f k l0).bind fun t322 => ((impl_NextTo.f k t322 a1 a2 a3).bind fun t325 => ((laws_eqIntS.f k t325 t319).bind fun t328 => (if t328 = true then ((laws_toLinkS.f k l0).bind fun t329 => ((laws_eqLinkS.f k t322 t329).bind fun t332 => (if t332 = true then ((laws_markLinkS.f k t322 1).bind fun bt333 => (if bt333.1 < 0 then (laws_FnExactNextTo.j0 k l0 a1 a2 a3 t319 t325 true) else ((laws_eqIntS.f k t325 t319).bind fun t335 => (laws_FnExactNextTo.j0 k l0 a1 a2 a3 t319 t325 (!t335))))) else (some false)))) else (some false))))))))
theorem laws_FnExactNextTo.mono_l : ∀ k, (∀ y0 y1 y2 y3 y4 y5 y6, LeO (laws_FnExactNextTo.j0 k y0 y1 y2 y3 y4 y5 y6) (laws_FnExactNextTo.j0 (k + 1) y0 y1 y2 y3 y4 y5 y6))
 | 0 => fun _ _ _ _ _ _ _ r h => by simp [laws_FnExactNextTo.j0] at h
 | k + 1 => by
  have ih0 := laws_FnExactNextTo.mono_l k
  ·intro y0 y1 y2 y3 y4 y5 y6
   unfold laws_FnExactNextTo.j0
   repeat' first | (with_reducible first | exact ih0 _ _ _ _ _ _ _ | exact impl_NextTo.mono _ _ _ _ _ | exact laws_eqIntS.mono _ _ _ | exact laws_eqLinkS.mono _ _ _ | exact laws_heldIntS.mono _ _ _ | exact laws_markIntS.mono _ _ _ | exact laws_markLinkS.mono _ _ _ | exact laws_toLinkS.mono _ _ | exact spec_NextTo.mono _ _ _ _ _ | exact LeO.refl _ | exact LeO.none _ | refine LeO.ite ?_ ?_ | refine LeO.bind ?_ (fun _ => ?_)) | exact LeO.none _ | refine LeO.ite ?_ ?_ | refine LeO.bind ?_ (fun _ => ?_)
theorem laws_FnExactNextTo.mono : ∀ a0 a1 a2 a3 k, LeO (laws_FnExactNextTo.f k a0 a1 a2 a3) (laws_FnExactNextTo.f (k + 1) a0 a1 a2 a3) := by
 intro a0 a1 a2 a3 k
 have ih0 := laws_FnExactNextTo.mono_l k
 unfold laws_FnExactNextTo.f
 repeat' first | (with_reducible first | exact ih0 _ _ _ _ _ _ _ | exact impl_NextTo.mono _ _ _ _ _ | exact laws_eqIntS.mono _ _ _ | exact laws_eqLinkS.mono _ _ _ | exact laws_heldIntS.mono _ _ _ | exact laws_markIntS.mono _ _ _ | exact laws_markLinkS.mono _ _ _ | exact laws_toLinkS.mono _ _ | exact spec_NextTo.mono _ _ _ _ _ | exact LeO.refl _ | exact LeO.none _ | refine LeO.ite ?_ ?_ | refine LeO.bind ?_ (fun _ => ?_)) | exact LeO.none _ | refine LeO.ite ?_ ?_ | refine LeO.bind ?_ (fun _ => ?_)
set_option maxHeartbeats 8000000 in
set_option maxRecDepth 100000 in
theorem laws_FnExactNextTo.calls (k : Nat) (A0 : Option Addr) (c0 : Nat) (l0 : List (S117)) (a1 : Int) (a2 : Int) (a3 : Int) (r : Bool) (w : World) (hr0 : Kd.C k117 w A0 l0.length l0) (hc0 : l0.length ≤ c0) (h : laws_FnExactNextTo.f k l0 a1 a2 a3 = some r) (hT_ : r = true := by rfl) :
  Calls Try.prog 13 #[.slice A0 l0.length c0, .int .i64 a1, .int .i64 a2, .int .i64 a3] w fun e w' => e = .returned (.bool r) ∧ Below w.heap.size w w' := by
 have HR0 := Aside0.mk hr0
 have HC0 := Aside0.mk hc0
 clear hr0 hc0
 have HB := Aside0.mk (Below.refl w.heap.size w)
 subst hT_
 have H := h
 clear h
 unfold laws_FnExactNextTo.f at H
 replace H := bs_ H
 obtain ⟨t315, A5, H⟩ := H
 by_cases c6 : t315 < 0
 ·rw [if_pos c6] at H
  have c6b0 := decide_eq_true c6
  clear c6
  clear H
  go_enter Try.func13, Try.ntmps13
  go_wp2_with (first | ((with_reducible refine gate_callee (f := 54) rfl ?_); refine gl_ 19 Try.func54 (laws_szLinkS.calls _ _ l0 1048576 t315 _ (cq_ HR0) HC0.out A5.out) ?_; rintro e w' ⟨rfl, ⟨nd, rfl⟩⟩; refine ⟨_, rfl, ?_⟩))
  go_ret
  exact ⟨er_, bl_ HB⟩
 ·rw [if_neg c6] at H
  have c6b0 := decide_eq_false c6
  clear c6
  replace H := bs_ H
  obtain ⟨t316, A7, H⟩ := H
  replace H := bs_ H
  obtain ⟨t319, A8, H⟩ := H
  replace H := bs_ H
  obtain ⟨t322, A9, H⟩ := H
  replace H := bs_ H
  obtain ⟨t325, A10, H⟩ := H
  replace H := bs_ H
  obtain ⟨t328, A11, H⟩ := H
  by_cases c12 : t328 = true
  ·subst c12
   try rw [if_pos rfl] at H
   replace H := bs_ H
   obtain ⟨t329, A13, H⟩ := H
   replace H := bs_ H
   obtain ⟨t332, A14, H⟩ := H
   by_cases c15 : t332 = true
   ·subst c15
    try rw [if_pos rfl] at H
    replace H := bs_ H
    obtain ⟨⟨t333, t334⟩, A16, H⟩ := H
    dsimp only at H
    have HC17 := Aside0.mk H
    clear H
    go_enter Try.func13, Try.ntmps13
    go_upto_region 14 with (first | ((with_reducible refine gate_callee (f := 54) rfl ?_); refine gl_ 19 Try.func54 (laws_szLinkS.calls _ _ l0 1048576 t315 _ (cq_ HR0) HC0.out A5.out) ?_; rintro e w' ⟨rfl, ⟨nd, rfl⟩⟩; refine ⟨_, rfl, ?_⟩) | ((with_reducible refine gate_callee (f := 56) rfl ?_); refine gl_ 23 Try.func56 (laws_toLinkS.calls k _ _ l0 t316 _ (cq_ HR0) HC0.out A7.out) ?_; rintro e w18 ⟨v317, rfl, ho0, hb⟩; refine ⟨_, rfl, sh2_ (Kd.R_lower ho0 (below_size (bl_ HB))) (below_step (bl_ HB) hb) ?_⟩; clear HB hb ho0; intro HO318 HB; obtain ⟨Ao19, co19, eo19⟩ := Kd.R_slice HO318.out; subst eo19) | ((with_reducible refine gate_callee (f := 65) rfl ?_); refine gl_ 27 Try.func65 (spec_NextTo.calls k _ _ t316 a1 a2 a3 t319 _ (cr_ HO318) (rl_ HO318) A8.out) ?_; rintro e w20 ⟨v320, rfl, ho0, hb⟩; refine ⟨_, rfl, sh3_ (Kd.R_below (ra_ HO318) hb) (Kd.R_lower ho0 (below_size (bl_ HB))) (below_step (bl_ HB) hb) ?_⟩; clear HO318 HB hb ho0; intro HO318 HO321 HB) | ((with_reducible refine gate_callee (f := 56) rfl ?_); refine gl_ 29 Try.func56 (laws_toLinkS.calls k _ _ l0 t322 _ (ck_ HR0 HB) HC0.out A9.out) ?_; rintro e w21 ⟨v323, rfl, ho0, hb⟩; refine ⟨_, rfl, sh4_ (Kd.R_elder' (ra_ HO318) (Kd.R_base ho0) hb) (Kd.R_below (ra_ HO321) hb) (Kd.R_lower (Kd.R_new' ho0 (Kd.R_lt (ra_ HO318))) (below_size (bl_ HB))) (below_step (bl_ HB) hb) ?_⟩; clear HO318 HO321 HB hb ho0; intro HO318 HO321 HO324 HB; obtain ⟨Ao22, co22, eo22⟩ := Kd.R_slice HO324.out; subst eo22) | ((with_reducible refine gate_callee (f := 66) rfl ?_); refine gl_ 34 Try.func66 (impl_NextTo.calls k _ _ t322 a1 a2 a3 t325 _ (cr_ HO324) (rl_ HO324) A10.out) ?_; rintro e w23 ⟨v326, rfl, ho0, hb⟩; refine ⟨_, rfl, sh5_ (Kd.R_below (ra_ HO318) hb) (Kd.R_elder' (ra_ HO321) (Kd.R_base ho0) hb) (Kd.R_below (ra_ HO324) hb) (Kd.R_lower (Kd.R_new' ho0 (Kd.R_lt (ra_ HO321))) (below_size (bl_ HB))) (below_step (bl_ HB) hb) ?_⟩; clear HO318 HO321 HO324 HB hb ho0; intro HO318 HO321 HO324 HO327 HB; obtain ⟨Ao24, co24, eo24⟩ := Kd.R_slice HO327.out; subst eo24; obtain ⟨Ao25, co25, eo25⟩ := Kd.R_slice HO321.out; subst eo25) | ((with_reducible refine gate_callee (f := 46) rfl ?_); refine gl_ 37 Try.func46 (laws_eqIntS.calls k _ _ t325 _ _ t319 true _ (cr_ HO327) (rl_ HO327) (cr_ HO321) (rl_ HO321) A11.out) ?_; rintro e w' ⟨rfl, ⟨nd, rfl⟩⟩; refine ⟨_, rfl, ?_⟩) | ((with_reducible refine gate_callee (f := 56) rfl ?_); refine goesL_ (some 41) rfl rfl Try.func56 (by kernel_rfl) rfl #[.slice A0 l0.length c0] rfl mp_ ?_; (with_reducible refine (laws_toLinkS.calls k _ _ l0 t329 _ ?side1 ?side2 A13.out).mono ?_); (case side1 => repeat (first | exact (Kd.C_below HR0.out (bl_ HB)) | (with_reducible refine Kd.C_alloc ?_ _) | (with_reducible refine Kd.C_drewN ?_ _) | (with_reducible refine Kd.C_drew ?_))); (case side2 => exact HC0.out); rintro e w26 ⟨v330, rfl, ho0, hb⟩; refine ⟨_, rfl, sh6_ (Kd.R_elder' (ra_ HO318) (Kd.R_base ho0) hb) (Kd.R_below (ra_ HO321) hb) (Kd.R_elder' (ra_ HO324) (Kd.R_base ho0) hb) (Kd.R_below (ra_ HO327) hb) (Kd.R_lower (Kd.R_new' (Kd.R_new' ho0 (Kd.R_lt (ra_ HO318))) (Kd.R_lt (ra_ HO324))) (below_size (bl_ HB))) (below_step (bl_ HB) hb) ?_⟩; clear HO318 HO321 HO324 HO327 HB hb ho0; intro HO318 HO321 HO324 HO327 HO331 HB; obtain ⟨Ao27, co27, eo27⟩ := Kd.R_slice HO331.out; subst eo27) | ((with_reducible refine gate_callee (f := 35) rfl ?_); refine gl_ 42 Try.func35 (laws_eqLinkS.calls k _ _ t322 _ _ t329 true _ (cr_ HO324) (rl_ HO324) (cr_ HO331) (rl_ HO331) A14.out) ?_; rintro e w28 ⟨rfl, hb⟩; refine ⟨_, rfl, sh6_ (Kd.R_below (ra_ HO318) hb) (Kd.R_below (ra_ HO321) hb) (Kd.R_below (ra_ HO324) hb) (Kd.R_below (ra_ HO327) hb) (Kd.R_below (ra_ HO331) hb) (below_step (bl_ HB) hb) ?_⟩; clear HO318 HO321 HO324 HO327 HO331 HB hb; intro HO318 HO321 HO324 HO327 HO331 HB) | ((with_reducible refine gate_callee (f := 37) rfl ?_); refine goesL_ (some 46) rfl rfl Try.func37 (by kernel_rfl) rfl #[.slice Ao22 t322.length co22, .int .i64 1] rfl mp_ ?_; (with_reducible refine (laws_markLinkS.calls k (fun k_ => some k_ = (.slice Ao22 t322.length co22 : Value).ownBlock) (.slice Ao22 t322.length co22) t322 1 t333 t334 w _ ?side1 ?side2 A16.out).mono ?_); (case side1 => repeat (first | (with_reducible first | exact HB.out | apply below_alloc | apply pw_below_drewN | apply below_drew1) | exact HB.out)); (case side2 => exact Kd.R_tight rfl HO324.out); rintro e w29 ⟨rfl, hy0, hb, hkp⟩; refine ⟨_, rfl, sh6_ (Kd.R_mono (ok' := fun k_ => some k_ ≠ (.slice Ao22 t322.length co22 : Value).ownBlock ∧ some k_ ≠ (.slice Ao27 t329.length co27 : Value).ownBlock) (Kd.R_keptB (HO318.out) hkp (fun k_ hk_ hs_ => (hk_.1.2) hs_)) (fun k_ hk_ => ⟨hx_ hk_, hx_ hk_⟩)) (Kd.R_mono (ok' := fun k_ => some k_ ≠ (.slice Ao24 t325.length co24 : Value).ownBlock) (Kd.R_keptB ((Kd.R_apart' HO321.out (Kd.R_typed HO324.out) (by decide))) hkp (fun k_ hk_ hs_ => (hk_.2) hs_)) (fun k_ hk_ => hx_ hk_)) (Kd.R_reok rfl hy0 (fun k_ e_ => HO324.out.1 k_ e_)) (Kd.R_mono (ok' := fun k_ => some k_ ≠ (.slice Ao25 t319.length co25 : Value).ownBlock) (Kd.R_keptB ((Kd.R_apart' HO327.out (Kd.R_typed HO324.out) (by decide))) hkp (fun k_ hk_ hs_ => (hk_.2) hs_)) (fun k_ hk_ => hx_ hk_)) (Kd.R_mono (ok' := fun k_ => some k_ ≠ (.slice Ao19 t316.length co19 : Value).ownBlock ∧ some k_ ≠ (.slice Ao22 t322.length co22 : Value).ownBlock) (Kd.R_keptB (HO331.out) hkp (fun k_ hk_ hs_ => (hk_.2) hs_)) (fun k_ hk_ => ⟨hx_ hk_, hx_ hk_⟩)) hb ?_⟩; clear HO318 HO321 HO324 HO327 HO331 HB hb hkp hy0; intro HO318 HO321 HO324 HO327 HO331 HB))
    (try simp only [Act.put, List.setIfInBounds_toArray, List.set_cons_zero, List.set_cons_succ])
    go_cut [54] (fun v54 wc => ∃ (kq : Nat) (x54_16 : Bool), v54 = .bool x54_16 ∧ Aside0 (laws_FnExactNextTo.j0 kq l0 a1 a2 a3 t319 t325 x54_16 = some true) ∧ Aside0 (kq ≤ k) ∧ Aside0 (Kd.R (Kd.int .i64) 3 wc w.heap.size (fun k_ => some k_ ≠ ((.slice Ao24 t325.length co24) : Value).ownBlock) (.slice Ao25 t319.length co25) t319) ∧ Aside0 (Kd.R (Kd.int .i64) 3 wc w.heap.size (fun k_ => some k_ ≠ ((.slice Ao25 t319.length co25) : Value).ownBlock) (.slice Ao24 t325.length co24) t325) ∧ Aside0 (Below w.heap.size w wc))
    case first =>
     have H := HC17.out
     clear HC17
     by_cases c30 : t333 < 0
     ·rw [if_pos c30] at H
      have c30b0 := decide_eq_true c30
      clear c30
      (first | rw [c30b0] | (simp only [i64_w, i32_w]; rw [c30b0]) | skip)
      have H' := Aside0.mk H
      clear H
      go_wp2
      go_meet
      case rel => exact ⟨_, (true), (by first | rfl | (simp; done) | (simp [*]; done)), H', ⟨by first | omega | exact Nat.le_refl _⟩, ⟨ra_ HO321⟩, ⟨ra_ HO327⟩, ⟨bl_ HB⟩⟩
     ·rw [if_neg c30] at H
      have c30b0 := decide_eq_false c30
      clear c30
      (first | rw [c30b0] | (simp only [i64_w, i32_w]; rw [c30b0]) | skip)
      replace H := bs_ H
      obtain ⟨t335, A31, H⟩ := H
      have H' := Aside0.mk H
      clear H
      go_wp2_with (first | (go_at_call 46; (with_reducible refine (laws_eqIntS.calls k _ _ t325 _ _ t319 t335 _ ?side1 ?side2 ?side3 ?side4 A31.out).mono ?_); (case side1 => repeat (first | exact (Kd.R_reads' HO327.out).2.2 | (with_reducible refine Kd.C_alloc ?_ _) | (with_reducible refine Kd.C_drewN ?_ _) | (with_reducible refine Kd.C_drew ?_))); (case side2 => exact (Kd.R_reads' HO327.out).2.1); (case side3 => repeat (first | exact (Kd.R_reads' HO321.out).2.2 | (with_reducible refine Kd.C_alloc ?_ _) | (with_reducible refine Kd.C_drewN ?_ _) | (with_reducible refine Kd.C_drew ?_))); (case side4 => exact (Kd.R_reads' HO321.out).2.1); rintro e w' ⟨rfl, ⟨nd, rfl⟩⟩))
      go_meet
      case rel => exact ⟨_, (!t335), (by first | rfl | (simp; done) | (simp [*]; done)), H', ⟨by first | omega | exact Nat.le_refl _⟩, ⟨ra_ HO321⟩, ⟨ra_ HO327⟩, ⟨bl_ HB⟩⟩
    case rest =>
     clear HC17
     try clear c1
     try clear p2
     try clear c3
     try clear c4
     try clear c5
     try clear c6
     try clear c6b0
     try clear c12
     try clear c13
     try clear c15
     try clear c30
     try clear c30b0
     obtain ⟨kq, x54_16, rfl, HA, HJ16, HO_10, HO_12, HB⟩ := hcut
     cases kq with
     | zero => exact absurd HA.out (by simp [laws_FnExactNextTo.j0])
     | succ kj16 =>
      have H := HA.out
      clear HA
      simp only [laws_FnExactNextTo.j0] at H
      by_cases c32 : x54_16 = true
      ·subst c32
       try rw [if_pos rfl] at H
       exact absurd H (by simp)
      ·replace c32 := Bool.eq_false_iff.mpr c32
       subst c32
       have H1 : ((laws_markIntS.f kj16 t325 1).bind fun bt336 => ((laws_heldIntS.f kj16 bt336.2 1).bind fun t338 => (if t338 < 0 then (some false) else (if t338 = bt336.1 then ((laws_toLinkS.f kj16 l0).bind fun t339 => ((impl_NextTo.f kj16 t339 a1 a2 a3).bind fun t342 => ((laws_eqIntS.f kj16 t342 t319).bind fun t345 => (if t345 = true then ((laws_heldIntS.f kj16 bt336.2 1).bind fun t346 => (if t346 < 0 then (some false) else (if t346 = bt336.1 then (some true) else (some false)))) else (some false))))) else (some false))))) = some true := by first | (rw [if_neg (show ¬ (false = true) by decide)] at H; exact H) | rfl
       clear H
       have H := H1
       clear H1
       replace H := bs_ H
       obtain ⟨⟨t336, t337⟩, A33, H⟩ := H
       dsimp only at H
       replace H := bs_ H
       obtain ⟨t338, A34, H⟩ := H
       by_cases c35 : t338 < 0
       ·rw [if_pos c35] at H
        have c35b0 := decide_eq_true c35
        clear c35
        exact absurd H (by simp)
       ·rw [if_neg c35] at H
        have c35b0 := decide_eq_false c35
        clear c35
        by_cases c36 : t338 = t336
        ·rw [if_pos c36] at H
         obtain ⟨c36b0, c36b1⟩ := bt_ c36
         clear c36
         replace H := bs_ H
         obtain ⟨t339, A37, H⟩ := H
         replace H := bs_ H
         obtain ⟨t342, A38, H⟩ := H
         replace H := bs_ H
         obtain ⟨t345, A39, H⟩ := H
         by_cases c40 : t345 = true
         ·subst c40
          try rw [if_pos rfl] at H
          replace H := bs_ H
          obtain ⟨t346, A41, H⟩ := H
          by_cases c42 : t346 < 0
          ·rw [if_pos c42] at H
           have c42b0 := decide_eq_true c42
           clear c42
           exact absurd H (by simp)
          ·rw [if_neg c42] at H
           have c42b0 := decide_eq_false c42
           clear c42
           by_cases c43 : t346 = t336
           ·rw [if_pos c43] at H
            obtain ⟨c43b0, c43b1⟩ := bt_ c43
            clear c43
            clear H
            go_wp2_with (first | ((with_reducible refine gate_callee (f := 47) rfl ?_); refine goesL_ (some 57) rfl rfl Try.func47 (by kernel_rfl) rfl #[.slice Ao24 t325.length co24, .int .i64 1] rfl mp_ ?_; (with_reducible refine (laws_markIntS.calls kj16 (fun k_ => some k_ = (.slice Ao24 t325.length co24 : Value).ownBlock) (.slice Ao24 t325.length co24) t325 1 t336 t337 w _ ?side1 ?side2 A33.out).mono ?_); (case side1 => repeat (first | (with_reducible first | exact HB.out | apply below_alloc | apply pw_below_drewN | apply below_drew1) | exact HB.out)); (case side2 => exact Kd.R_tight rfl HO_12.out); rintro e w44 ⟨rfl, hy0, hb, hkp⟩; refine ⟨_, rfl, sh3_ (Kd.R_mono (ok' := fun k_ => some k_ ≠ (.slice Ao24 t325.length co24 : Value).ownBlock) (Kd.R_keptB (HO_10.out) hkp (fun k_ hk_ hs_ => (hk_) hs_)) (fun k_ hk_ => hx_ hk_)) (Kd.R_reok rfl hy0 (fun k_ e_ => HO_12.out.1 k_ e_)) hb ?_⟩; clear HO_10 HO_12 HB hb hkp hy0; intro HO_10 HO_12 HB) | ((with_reducible refine gate_callee (f := 48) rfl ?_); refine goesL_ (some 60) rfl rfl Try.func48 (by kernel_rfl) rfl #[.slice Ao24 t337.length co24, .int .i64 1] rfl (by (try simp only [List.map_toArray, List.map_cons, List.map_nil]); first | done | (rw [show t337.length = t325.length from (Kd.R_reads' HO_12.out).1.symm] <;> rfl) | rfl | (simp only [List.length_drop, List.length_take]; rfl)) ?_; (with_reducible refine (laws_heldIntS.calls kj16 _ _ t337 1 t338 _ ?side1 ?side2 A34.out).mono ?_); (case side1 => repeat (first | exact (Kd.R_reads' HO_12.out).2.2 | (with_reducible refine Kd.C_alloc ?_ _) | (with_reducible refine Kd.C_drewN ?_ _) | (with_reducible refine Kd.C_drew ?_))); (case side2 => rw [show t337.length = t325.length from (Kd.R_reads' HO_12.out).1.symm]; exact (Kd.R_reads' HO_12.out).2.1); rintro e w' ⟨rfl, ⟨nd, rfl⟩⟩; refine ⟨_, rfl, ?_⟩) | ((with_reducible refine gate_callee (f := 56) rfl ?_); refine goesL_ (some 67) rfl rfl Try.func56 (by kernel_rfl) rfl #[.slice A0 l0.length c0] rfl mp_ ?_; (with_reducible refine (laws_toLinkS.calls kj16 _ _ l0 t339 _ ?side1 ?side2 A37.out).mono ?_); (case side1 => repeat (first | exact (Kd.C_below HR0.out (bl_ HB)) | (with_reducible refine Kd.C_alloc ?_ _) | (with_reducible refine Kd.C_drewN ?_ _) | (with_reducible refine Kd.C_drew ?_))); (case side2 => exact HC0.out); rintro e w45 ⟨v340, rfl, ho0, hb⟩; refine ⟨_, rfl, sh4_ (Kd.R_below (ra_ HO_10) hb) (Kd.R_below (ra_ HO_12) hb) (Kd.R_lower ho0 (below_size (bl_ HB))) (below_step (bl_ HB) hb) ?_⟩; clear HO_10 HO_12 HB hb ho0; intro HO_10 HO_12 HO341 HB; obtain ⟨Ao46, co46, eo46⟩ := Kd.R_slice HO341.out; subst eo46) | ((with_reducible refine gate_callee (f := 66) rfl ?_); refine gl_ 71 Try.func66 (impl_NextTo.calls kj16 _ _ t339 a1 a2 a3 t342 _ (cr_ HO341) (rl_ HO341) A38.out) ?_; rintro e w47 ⟨v343, rfl, ho0, hb⟩; refine ⟨_, rfl, sh5_ (Kd.R_elder' (ra_ HO_10) (Kd.R_base ho0) hb) (Kd.R_elder' (ra_ HO_12) (Kd.R_base ho0) hb) (Kd.R_below (ra_ HO341) hb) (Kd.R_lower (Kd.R_new' (Kd.R_new' ho0 (Kd.R_lt (ra_ HO_10))) (Kd.R_lt (ra_ HO_12))) (below_size (bl_ HB))) (below_step (bl_ HB) hb) ?_⟩; clear HO_10 HO_12 HO341 HB hb ho0; intro HO_10 HO_12 HO341 HO344 HB; obtain ⟨Ao48, co48, eo48⟩ := Kd.R_slice HO344.out; subst eo48) | ((with_reducible refine gate_callee (f := 46) rfl ?_); refine gl_ 74 Try.func46 (laws_eqIntS.calls kj16 _ _ t342 _ _ t319 true _ (cr_ HO344) (rl_ HO344) (cr_ HO_10) (rl_ HO_10) A39.out) ?_; rintro e w' ⟨rfl, ⟨nd, rfl⟩⟩; refine ⟨_, rfl, ?_⟩) | ((with_reducible refine gate_callee (f := 48) rfl ?_); refine goesL_ (some 78) rfl rfl Try.func48 (by kernel_rfl) rfl #[.slice Ao24 t337.length co24, .int .i64 1] rfl (by (try simp only [List.map_toArray, List.map_cons, List.map_nil]); first | done | (rw [show t337.length = t325.length from (Kd.R_reads' HO_12.out).1.symm] <;> rfl) | rfl | (simp only [List.length_drop, List.length_take]; rfl)) ?_; (with_reducible refine (laws_heldIntS.calls kj16 _ _ t337 1 t346 _ ?side1 ?side2 A41.out).mono ?_); (case side1 => repeat (first | exact (Kd.R_reads' HO_12.out).2.2 | (with_reducible refine Kd.C_alloc ?_ _) | (with_reducible refine Kd.C_drewN ?_ _) | (with_reducible refine Kd.C_drew ?_))); (case side2 => rw [show t337.length = t325.length from (Kd.R_reads' HO_12.out).1.symm]; exact (Kd.R_reads' HO_12.out).2.1); rintro e w' ⟨rfl, ⟨nd, rfl⟩⟩; refine ⟨_, rfl, ?_⟩))
            go_ret
            exact ⟨er_, bl_ HB⟩
           ·rw [if_neg c43] at H
            obtain ⟨c43b0, c43b1⟩ := bn_ c43
            exact absurd H (by simp)
         ·replace c40 := Bool.eq_false_iff.mpr c40
          subst c40
          have H1 : (some false) = some true := by first | (rw [if_neg (show ¬ (false = true) by decide)] at H; exact H) | rfl
          clear H
          have H := H1
          clear H1
          exact absurd H (by simp)
        ·rw [if_neg c36] at H
         obtain ⟨c36b0, c36b1⟩ := bn_ c36
         exact absurd H (by simp)
   ·replace c15 := Bool.eq_false_iff.mpr c15
    subst c15
    have H1 : (some false) = some true := by first | (rw [if_neg (show ¬ (false = true) by decide)] at H; exact H) | rfl
    clear H
    have H := H1
    clear H1
    exact absurd H (by simp)
  ·replace c12 := Bool.eq_false_iff.mpr c12
   subst c12
   have H1 : (some false) = some true := by first | (rw [if_neg (show ¬ (false = true) by decide)] at H; exact H) | rfl
   clear H
   have H := H1
   clear H1
   exact absurd H (by simp)

end Go.Proofs.Ytlljhblilicnfaa.PFnExactNextTo
