-- Written by a program of this session for this claim (the kit's printer with changes).
import Derived.Test.YtlljhblilicnfaaQFnExactTableOfx0
namespace Go.Proofs.Ytlljhblilicnfaa.PFnExactTableOf
open Go.RowKit Go.Proofs.YtlljhblilicnfaaW.PrintWords Go.Proofs.YtlljhblilicnfaaW.PrintLast Go.Proofs.YtlljhblilicnfaaW.PrintMore
attribute [local go_sem] max2_int min2_int max_two min_two max_three min_three max_four min_four   -- for this text's walks alone
set_option linter.unusedVariables false
set_option linter.unusedSimpArgs false

/-! ### spec_NeighborsIn: function 55 -/
mutual
def spec_NeighborsIn.l0 : Nat → List (S103) → Int → List Int → Int → Option (List Int)
 | 0, _, _, _, _ => none
 | k + 1, x0, x1, x5, x6 => if x6 < (x0.length : Int) then (if 0 ≤ x6 then (if ((rd_T103 x0 x6).f0) = x1 then (spec_NeighborsIn.j1 k x0 x1 x5 x6 ((rd_T103 x0 x6).f1)) else (if ((rd_T103 x0 x6).f1) = x1 then (spec_NeighborsIn.j1 k x0 x1 x5 x6 ((rd_T103 x0 x6).f0)) else (spec_NeighborsIn.l0 k x0 x1 x5 (wrap64 (x6 + 1))))) else (none)) else (some x5)
def spec_NeighborsIn.j1 : Nat → List (S103) → Int → List Int → Int → Int → Option (List Int)
 | 0, _, _, _, _, _ => none
 | k + 1, x0, x1, x5, x6, x7 => spec_NeighborsIn.l1 k x0 x1 x5 x6 x7 0
def spec_NeighborsIn.l1 : Nat → List (S103) → Int → List Int → Int → Int → Int → Option (List Int)
 | 0, _, _, _, _, _, _ => none
 | k + 1, x0, x1, x5, x6, x7, x8 => if x8 < (x5.length : Int) then (if 0 ≤ x8 then (if (rd x5 x8) < x7 then (spec_NeighborsIn.l1 k x0 x1 x5 x6 x7 (wrap64 (x8 + 1))) else (if x8 = (x5.length : Int) then ((some (([] : List Int) : List Int)).bind fun y132 => (if x8 ≤ (x5.length : Int) then ((some (x5.take (x8 : Int).toNat : List Int)).bind fun y135 => (if y132.length + y135.length < 17592186044416 then ((some (y132 ++ y135 : List Int)).bind fun y139 => ((some (([x7] : List Int) : List Int)).bind fun y142 => (if y139.length + y142.length < 17592186044416 then ((some (y139 ++ y142 : List Int)).bind fun y145 => ((some (x5.drop (x8 : Int).toNat : List Int)).bind fun y148 => (if y145.length + y148.length < 17592186044416 then (spec_NeighborsIn.l0 k x0 x1 (y145 ++ y148) (wrap64 (x6 + 1))) else (none)))) else (none)))) else (none))) else (none))) else (if (rd x5 x8) = x7 then (spec_NeighborsIn.l0 k x0 x1 x5 (wrap64 (x6 + 1))) else ((some (([] : List Int) : List Int)).bind fun y156 => (if x8 ≤ (x5.length : Int) then ((some (x5.take (x8 : Int).toNat : List Int)).bind fun y159 => (if y156.length + y159.length < 17592186044416 then ((some (y156 ++ y159 : List Int)).bind fun y163 => ((some (([x7] : List Int) : List Int)).bind fun y166 => (if y163.length + y166.length < 17592186044416 then ((some (y163 ++ y166 : List Int)).bind fun y169 => ((some (x5.drop (x8 : Int).toNat : List Int)).bind fun y172 => (if y169.length + y172.length < 17592186044416 then (spec_NeighborsIn.l0 k x0 x1 (y169 ++ y172) (wrap64 (x6 + 1))) else (none)))) else (none)))) else (none))) else (none)))))) else (none)) else (if x8 = (x5.length : Int) then ((some (([] : List Int) : List Int)).bind fun y179 => (if 0 ≤ x8 then (if x8 ≤ (x5.length : Int) then ((some (x5.take (x8 : Int).toNat : List Int)).bind fun y182 => (if y179.length + y182.length < 17592186044416 then ((some (y179 ++ y182 : List Int)).bind fun y186 => ((some (([x7] : List Int) : List Int)).bind fun y189 => (if y186.length + y189.length < 17592186044416 then ((some (y186 ++ y189 : List Int)).bind fun y192 => ((some (x5.drop (x8 : Int).toNat : List Int)).bind fun y195 => (if y192.length + y195.length < 17592186044416 then (spec_NeighborsIn.l0 k x0 x1 (y192 ++ y195) (wrap64 (x6 + 1))) else (none)))) else (none)))) else (none))) else (none)) else (none))) else (if 0 ≤ x8 then (none) else (none)))
end
def spec_NeighborsIn.f (k : Nat) (l0 : List (S103)) (a1 : Int) : Option (List Int) := spec_NeighborsIn.l0 k l0 a1 (([] : List Int)) 0
theorem spec_NeighborsIn.mono_l : ∀ k, (∀ y0 y1 y2 y3, LeO (spec_NeighborsIn.l0 k y0 y1 y2 y3) (spec_NeighborsIn.l0 (k + 1) y0 y1 y2 y3)) ∧ (∀ y0 y1 y2 y3 y4, LeO (spec_NeighborsIn.j1 k y0 y1 y2 y3 y4) (spec_NeighborsIn.j1 (k + 1) y0 y1 y2 y3 y4)) ∧ (∀ y0 y1 y2 y3 y4 y5, LeO (spec_NeighborsIn.l1 k y0 y1 y2 y3 y4 y5) (spec_NeighborsIn.l1 (k + 1) y0 y1 y2 y3 y4 y5))
 | 0 => ⟨fun _ _ _ _ r h => by simp [spec_NeighborsIn.l0] at h, fun _ _ _ _ _ r h => by simp [spec_NeighborsIn.j1] at h, fun _ _ _ _ _ _ r h => by simp [spec_NeighborsIn.l1] at h⟩
 | k + 1 => by
  obtain ⟨ih0, ih1, ih2⟩ := spec_NeighborsIn.mono_l k
  refine ⟨?_, ?_, ?_⟩
  ·intro y0 y1 y2 y3
   unfold spec_NeighborsIn.l0
   repeat' first | (with_reducible first | exact ih0 _ _ _ _ | exact ih1 _ _ _ _ _ | exact ih2 _ _ _ _ _ _ | exact LeO.refl _ | exact LeO.none _ | refine LeO.ite ?_ ?_ | refine LeO.bind ?_ (fun _ => ?_)) | exact LeO.none _ | refine LeO.ite ?_ ?_ | refine LeO.bind ?_ (fun _ => ?_)
  ·intro y0 y1 y2 y3 y4
   unfold spec_NeighborsIn.j1
   repeat' first | (with_reducible first | exact ih0 _ _ _ _ | exact ih1 _ _ _ _ _ | exact ih2 _ _ _ _ _ _ | exact LeO.refl _ | exact LeO.none _ | refine LeO.ite ?_ ?_ | refine LeO.bind ?_ (fun _ => ?_)) | exact LeO.none _ | refine LeO.ite ?_ ?_ | refine LeO.bind ?_ (fun _ => ?_)
  ·intro y0 y1 y2 y3 y4 y5
   unfold spec_NeighborsIn.l1
   repeat' first | (with_reducible first | exact ih0 _ _ _ _ | exact ih1 _ _ _ _ _ | exact ih2 _ _ _ _ _ _ | exact LeO.refl _ | exact LeO.none _ | refine LeO.ite ?_ ?_ | refine LeO.bind ?_ (fun _ => ?_)) | exact LeO.none _ | refine LeO.ite ?_ ?_ | refine LeO.bind ?_ (fun _ => ?_)
theorem spec_NeighborsIn.mono : ∀ a0 a1 k, LeO (spec_NeighborsIn.f k a0 a1) (spec_NeighborsIn.f (k + 1) a0 a1) := by
 intro a0 a1 k
 obtain ⟨ih0, ih1, ih2⟩ := spec_NeighborsIn.mono_l k
 unfold spec_NeighborsIn.f
 repeat' first | (with_reducible first | exact ih0 _ _ _ _ | exact ih1 _ _ _ _ _ | exact ih2 _ _ _ _ _ _ | exact LeO.refl _ | exact LeO.none _ | refine LeO.ite ?_ ?_ | refine LeO.bind ?_ (fun _ => ?_)) | exact LeO.none _ | refine LeO.ite ?_ ?_ | refine LeO.bind ?_ (fun _ => ?_)
def spec_NeighborsIn.T14 : Bool × List (List Nat × List Nat) := (true, [([], []), ([], []), ([], []), ([1, 2], [1, 2]), ([0, 3], [0, 3]), ([], []), ([5], [5]), ([4, 6, 4], [4, 6]), ([], []), ([], []), ([8, 9], [8, 9]), ([7, 10, 7], [7, 10]), ([11, 11, 0, 1, 2, 3, 4, 5, 6, 7, 8, 9, 10, 11], [1, 8, 11])])
def spec_NeighborsIn.B14 : List Nat := [0, 0, 0, 6, 15, 0, 32, 127, 0, 0, 768, 2047, 4095]
theorem spec_NeighborsIn.tab14 : rtab .any (opsOf Try.f55 14) = spec_NeighborsIn.T14 := by kernel_rfl
theorem spec_NeighborsIn.bits14 : waitsOk spec_NeighborsIn.T14.2 spec_NeighborsIn.B14 = true := by kernel_rfl
set_option maxHeartbeats 8000000 in
set_option maxRecDepth 100000 in
theorem spec_NeighborsIn.calls (k : Nat) (A0 : Option Addr) (c0 : Nat) (l0 : List (S103)) (a1 : Int) (r : List Int) (w : World) (hr0 : Kd.C k103 w A0 l0.length l0) (hc0 : l0.length ≤ c0) (h : spec_NeighborsIn.f k l0 a1 = some r) :
  Calls Try.prog 55 #[.slice A0 l0.length c0, .int .i64 a1] w fun e w' => ∃ v0_ : Value, e = .returned (v0_) ∧ Kd.R (Kd.int .i64) 3 w' w.heap.size (fun _ => True) v0_ r ∧ Below w.heap.size w w' := by
 have HR0 := Aside0.mk hr0
 have HC0 := Aside0.mk hc0
 clear hr0 hc0
 have HB := Aside0.mk (Below.refl w.heap.size w)
 have H := h
 clear h
 unfold spec_NeighborsIn.f at H
 replace H : ∃ y_ : List Int, Aside0 (y_ = (([] : List Int))) ∧ (spec_NeighborsIn.l0 k l0 a1 y_ 0) = some r := ⟨_, ⟨rfl⟩, yh_ H⟩
 obtain ⟨y124, Ny124, H⟩ := H
 have H' := Aside0.mk H
 clear H
 go_enter Try.func55, Try.ntmps55
 go_wp2_with (first | ((with_reducible refine gate_dst (N := 9) rfl ?_); refine Kd.R_lit (Kd.int .i64) _ 3 ?hg (N := 9) ?hd (xs := ([] : List Int)) (inner := []) (ok := fun _ => True) (okp := fun _ => True) ?hr ?hp (fun _ hk => hk) trivial (Below.refl _ _) (Nat.le_refl _) (by simp) ?_; (case hd => rfl); (case hg => rfl); (case hr => first | (go_simp; done) | (go_simp; rfl)); (case hp => exact (Reps.none _ _)); intro v125 w3 ho4 hb hg_ hnew_; clear hg_ hnew_; (first | rw [← Ny124.out] at ho4 | (simp only [Int.reduceToNat] at ho4; rw [← Ny124.out] at ho4)); refine sh2_ (Kd.R_lower ho4 (below_size (bl_ HB))) (below_step (bl_ HB) hb) ?_; clear HB hb ho4; intro HO126 HB))
 go_loopg [5, 6] k (fun kq v5 v6 w' => ∃ (x5_1 : List Int) (x6_1 : Int), v6 = .int .i64 x6_1 ∧ Aside0 (spec_NeighborsIn.l0 kq l0 a1 x5_1 x6_1 = some r) ∧ Aside0 (kq ≤ k) ∧ Aside0 (Kd.R (Kd.int .i64) 3 w' w.heap.size (fun _ => True) v5 x5_1) ∧ Aside0 (Below w.heap.size w w'))
 case atStart => exact ⟨(y124), (0), (by first | rfl | (simp; done) | (simp [*]; done)), H', ⟨Nat.le_refl _⟩, ⟨ra_ HO126⟩, ⟨bl_ HB⟩⟩
 case round =>
  clear H'
  try clear p2
  obtain ⟨x5_1, x6_1, rfl, HA, HK1, HO_5, HB⟩ := hrel
  cases gk with
  | zero => exact absurd HA.out (by simp [spec_NeighborsIn.l0])
  | succ k1 =>
   have H := HA.out
   clear HA
   simp only [spec_NeighborsIn.l0] at H
   by_cases c5 : x6_1 < (l0.length : Int)
   ·rw [if_pos c5] at H
    have c5b0 := decide_eq_true c5
    clear c5
    replace H := ifn_ H
    obtain ⟨c6, H⟩ := H
    have c6b0 := decide_eq_true c6
    clear c6
    have HC7 := Aside0.mk H
    clear H
    have p127 : 0 ≤ (x6_1 : Int) := od_
    have q127 : x6_1 < (l0.length : Int) := od_
    obtain ⟨ad127, e127, hx127_0, hx127_1⟩ := at_T103 HR0.out x6_1 p127 q127
    cases e127
    replace hx127_0 := hbc_ HB hx127_0
    replace hx127_1 := hbc_ HB hx127_1
    replace p127 := eq_true p127
    replace q127 := eq_true q127
    go_upto_if 22 with (fail)
    go_cut [7] (fun v7 wc => ∃ (kq : Nat) (x7_6 : Int), v7 = .int .i64 x7_6 ∧ Aside0 (spec_NeighborsIn.j1 kq l0 a1 x5_1 x6_1 x7_6 = some r) ∧ Aside0 (kq ≤ k1) ∧ Aside0 (Kd.R (Kd.int .i64) 3 wc w.heap.size (fun _ => True) u5 x5_1) ∧ Aside0 (Below w.heap.size w wc))
    case first =>
     have H := HC7.out
     clear HC7
     by_cases c8 : ((rd_T103 l0 x6_1).f0) = a1
     ·rw [if_pos c8] at H
      obtain ⟨c8b0, c8b1⟩ := bt_ c8
      clear c8
      (first | rw [c8b0] | (simp only [i64_w, i32_w]; rw [c8b0]) | skip)
      have H' := Aside0.mk H
      clear H
      have p128 : 0 ≤ (x6_1 : Int) := od_
      have q128 : x6_1 < (l0.length : Int) := od_
      obtain ⟨ad128, e128, hx128_0, hx128_1⟩ := at_T103 HR0.out x6_1 p128 q128
      obtain rfl : ad127 = ad128 := (by injection e128)
      replace hx128_0 := hbc_ HB hx128_0
      replace hx128_1 := hbc_ HB hx128_1
      replace p128 := eq_true p128
      replace q128 := eq_true q128
      go_wp2
      go_meet
      case rel => exact ⟨_, ((rd_T103 l0 x6_1).f1), (by first | rfl | (simp; done) | (simp [*]; done)), H', ⟨by have := HK1.out; first | omega | exact Nat.le_refl _⟩, ⟨ra_ HO_5⟩, ⟨bl_ HB⟩⟩
     ·rw [if_neg c8] at H
      obtain ⟨c8b0, c8b1⟩ := bn_ c8
      (first | rw [c8b0] | (simp only [i64_w, i32_w]; rw [c8b0]) | skip)
      by_cases c9 : ((rd_T103 l0 x6_1).f1) = a1
      ·rw [if_pos c9] at H
       obtain ⟨c9b0, c9b1⟩ := bt_ c9
       clear c9
       have H' := Aside0.mk H
       clear H
       have p129 : 0 ≤ (x6_1 : Int) := od_
       have q129 : x6_1 < (l0.length : Int) := od_
       obtain ⟨ad129, e129, hx129_0, hx129_1⟩ := at_T103 HR0.out x6_1 p129 q129
       obtain rfl : ad127 = ad129 := (by injection e129)
       replace hx129_0 := hbc_ HB hx129_0
       replace hx129_1 := hbc_ HB hx129_1
       replace p129 := eq_true p129
       replace q129 := eq_true q129
       have p130 : 0 ≤ (x6_1 : Int) := od_
       have q130 : x6_1 < (l0.length : Int) := od_
       obtain ⟨ad130, e130, hx130_0, hx130_1⟩ := at_T103 HR0.out x6_1 p130 q130
       obtain rfl : ad127 = ad130 := (by injection e130)
       replace hx130_0 := hbc_ HB hx130_0
       replace hx130_1 := hbc_ HB hx130_1
       replace p130 := eq_true p130
       replace q130 := eq_true q130
       go_wp2
       go_meet
       case rel => exact ⟨_, ((rd_T103 l0 x6_1).f0), (by first | rfl | (simp; done) | (simp [*]; done)), H', ⟨by have := HK1.out; first | omega | exact Nat.le_refl _⟩, ⟨ra_ HO_5⟩, ⟨bl_ HB⟩⟩
      ·rw [if_neg c9] at H
       obtain ⟨c9b0, c9b1⟩ := bn_ c9
       have H' := Aside0.mk H
       clear H
       have p129 : 0 ≤ (x6_1 : Int) := od_
       have q129 : x6_1 < (l0.length : Int) := od_
       obtain ⟨ad129, e129, hx129_0, hx129_1⟩ := at_T103 HR0.out x6_1 p129 q129
       obtain rfl : ad127 = ad129 := (by injection e129)
       replace hx129_0 := hbc_ HB hx129_0
       replace hx129_1 := hbc_ HB hx129_1
       replace p129 := eq_true p129
       replace q129 := eq_true q129
       go_wp2
       go_roundg k1
       case measure => have := HK1.out; omega
       case rel => exact ⟨(x5_1), (wrap64 (x6_1 + 1)), (by first | rfl | (simp; done) | (simp [*]; done)), H', ⟨by have := HK1.out; omega⟩, ⟨ra_ HO_5⟩, ⟨bl_ HB⟩⟩
    case rest =>
     clear HC7
     try clear p1
     try clear q1
     try clear hx1
     try clear p2
     try clear c5
     try clear c5b0
     try clear c6
     try clear c6b0
     try clear p6
     try clear c8
     try clear c8b0
     try clear c8b1
     try clear c9
     try clear c9b0
     try clear c9b1
     try clear hx127_0
     try clear hx127_1
     try clear hx128_0
     try clear hx128_1
     try clear hx129_0
     try clear hx129_1
     try clear hx130_0
     try clear hx130_1
     try clear p127
     try clear p128
     try clear p129
     try clear p130
     try clear p2
     try clear q127
     try clear q128
     try clear q129
     try clear q130
     obtain ⟨kq, x7_6, rfl, HA, HJ6, HO_5, HB⟩ := hcut
     cases kq with
     | zero => exact absurd HA.out (by simp [spec_NeighborsIn.j1])
     | succ kj6 =>
      have H := HA.out
      clear HA
      simp only [spec_NeighborsIn.j1] at H
      have H' := Aside0.mk H
      clear H
      go_wp2
      go_loopg [8] kj6 (fun kq v8 w' => ∃ (x8_3 : Int), v8 = .int .i64 x8_3 ∧ Aside0 (spec_NeighborsIn.l1 kq l0 a1 x5_1 x6_1 x7_6 x8_3 = some r) ∧ Aside0 (kq ≤ kj6) ∧ Aside0 (Kd.R (Kd.int .i64) 3 w' w.heap.size (fun _ => True) u5 x5_1) ∧ Aside0 (Below w.heap.size w w'))
      case atStart => exact ⟨(0), (by first | rfl | (simp; done) | (simp [*]; done)), H', ⟨Nat.le_refl _⟩, ⟨ra_ HO_5⟩, ⟨bl_ HB⟩⟩
      case round =>
       clear H'
       try clear p1
       try clear q1
       try clear hx1
       try clear p2
       try clear c5
       try clear c5b0
       try clear c6
       try clear c6b0
       try clear p6
       try clear c8
       try clear c8b0
       try clear c8b1
       try clear c9
       try clear c9b0
       try clear c9b1
       try clear hx127_0
       try clear hx127_1
       try clear hx128_0
       try clear hx128_1
       try clear hx129_0
       try clear hx129_1
       try clear hx130_0
       try clear hx130_1
       try clear p1
       try clear p127
       try clear p128
       try clear p129
       try clear p130
       try clear p2
       try clear p6
       try clear q1
       try clear q127
       try clear q128
       try clear q129
       try clear q130
       obtain ⟨x8_3, rfl, HA, HK3, HO_5, HB⟩ := hrel
       cases gk with
       | zero => exact absurd HA.out (by simp [spec_NeighborsIn.l1])
       | succ k3 =>
        have H := HA.out
        clear HA
        simp only [spec_NeighborsIn.l1] at H
        by_cases c10 : x8_3 < (x5_1.length : Int)
        ·rw [if_pos c10] at H
         have c10b0 := decide_eq_true c10
         clear c10
         replace H := ifn_ H
         obtain ⟨c11, H⟩ := H
         have c11b0 := decide_eq_true c11
         clear c11
         by_cases c12 : (rd x5_1 x8_3) < x7_6
         ·rw [if_pos c12] at H
          have c12b0 := decide_eq_true c12
          clear c12
          have H' := Aside0.mk H
          clear H
          obtain ⟨Ao13, co13, eo13⟩ := Kd.R_slice HO_5.out
          subst eo13
          have p131 : 0 ≤ (x8_3 : Int) := od_
          have q131 : x8_3 < (x5_1.length : Int) := od_
          obtain ⟨ad131, e131, hx131_0⟩ := Kd.at_int (Kd.R_reads' HO_5.out).2.2 x8_3 p131 q131
          cases e131
          replace p131 := eq_true p131
          replace q131 := eq_true q131
          go_wp2
          go_roundg k3
          case measure => have := HK1.out; have := HJ6.out; have := HK3.out; omega
          case rel => exact ⟨(wrap64 (x8_3 + 1)), (by first | rfl | (simp; done) | (simp [*]; done)), H', ⟨by have := HK1.out; have := HJ6.out; have := HK3.out; omega⟩, ⟨ra_ HO_5⟩, ⟨bl_ HB⟩⟩
         ·rw [if_neg c12] at H
          have c12b0 := decide_eq_false c12
          clear c12
          by_cases c14 : x8_3 = (x5_1.length : Int)
          ·rw [if_pos c14] at H
           obtain ⟨c14b0, c14b1⟩ := bt_ c14
           clear c14
           replace H : ∃ y_ : List Int, Aside0 (y_ = (([] : List Int))) ∧ (if x8_3 ≤ (x5_1.length : Int) then ((some (x5_1.take (x8_3 : Int).toNat : List Int)).bind fun y135 => (if y_.length + y135.length < 17592186044416 then ((some (y_ ++ y135 : List Int)).bind fun y139 => ((some (([x7_6] : List Int) : List Int)).bind fun y142 => (if y139.length + y142.length < 17592186044416 then ((some (y139 ++ y142 : List Int)).bind fun y145 => ((some (x5_1.drop (x8_3 : Int).toNat : List Int)).bind fun y148 => (if y145.length + y148.length < 17592186044416 then (spec_NeighborsIn.l0 k3 l0 a1 (y145 ++ y148) (wrap64 (x6_1 + 1))) else (none)))) else (none)))) else (none))) else (none)) = some r := ⟨_, ⟨rfl⟩, yh_ H⟩
           obtain ⟨y132, Ny132, H⟩ := H
           have c15b0 := eq_true (od_ : 0 ≤ x8_3)
           replace H := ifn_ H
           obtain ⟨c16, H⟩ := H
           have c16b0 := eq_true c16
           have c16b1 := decide_eq_true c16
           clear c16
           replace H : ∃ y_ : List Int, Aside0 (y_ = (x5_1.take (x8_3 : Int).toNat)) ∧ (if y132.length + y_.length < 17592186044416 then ((some (y132 ++ y_ : List Int)).bind fun y139 => ((some (([x7_6] : List Int) : List Int)).bind fun y142 => (if y139.length + y142.length < 17592186044416 then ((some (y139 ++ y142 : List Int)).bind fun y145 => ((some (x5_1.drop (x8_3 : Int).toNat : List Int)).bind fun y148 => (if y145.length + y148.length < 17592186044416 then (spec_NeighborsIn.l0 k3 l0 a1 (y145 ++ y148) (wrap64 (x6_1 + 1))) else (none)))) else (none)))) else (none)) = some r := ⟨_, ⟨rfl⟩, yh_ H⟩
           obtain ⟨y135, Ny135, H⟩ := H
           replace H := ifn_ H
           obtain ⟨c17, H⟩ := H
           have LMc17 := Aside0.mk c17
           clear c17
           replace H : ∃ y_ : List Int, Aside0 (y_ = (y132 ++ y135)) ∧ ((some (([x7_6] : List Int) : List Int)).bind fun y142 => (if y_.length + y142.length < 17592186044416 then ((some (y_ ++ y142 : List Int)).bind fun y145 => ((some (x5_1.drop (x8_3 : Int).toNat : List Int)).bind fun y148 => (if y145.length + y148.length < 17592186044416 then (spec_NeighborsIn.l0 k3 l0 a1 (y145 ++ y148) (wrap64 (x6_1 + 1))) else (none)))) else (none))) = some r := ⟨_, ⟨rfl⟩, yh_ H⟩
           obtain ⟨y139, Ny139, H⟩ := H
           replace H : ∃ y_ : List Int, Aside0 (y_ = (([x7_6] : List Int))) ∧ (if y139.length + y_.length < 17592186044416 then ((some (y139 ++ y_ : List Int)).bind fun y145 => ((some (x5_1.drop (x8_3 : Int).toNat : List Int)).bind fun y148 => (if y145.length + y148.length < 17592186044416 then (spec_NeighborsIn.l0 k3 l0 a1 (y145 ++ y148) (wrap64 (x6_1 + 1))) else (none)))) else (none)) = some r := ⟨_, ⟨rfl⟩, yh_ H⟩
           obtain ⟨y142, Ny142, H⟩ := H
           replace H := ifn_ H
           obtain ⟨c18, H⟩ := H
           have LMc18 := Aside0.mk c18
           clear c18
           replace H : ∃ y_ : List Int, Aside0 (y_ = (y139 ++ y142)) ∧ ((some (x5_1.drop (x8_3 : Int).toNat : List Int)).bind fun y148 => (if y_.length + y148.length < 17592186044416 then (spec_NeighborsIn.l0 k3 l0 a1 (y_ ++ y148) (wrap64 (x6_1 + 1))) else (none))) = some r := ⟨_, ⟨rfl⟩, yh_ H⟩
           obtain ⟨y145, Ny145, H⟩ := H
           have c19b0 := eq_true (od_ : 0 ≤ x8_3)
           have c20b0 := eq_true (od_ : x8_3 ≤ (x5_1.length : Int))
           replace H : ∃ y_ : List Int, Aside0 (y_ = (x5_1.drop (x8_3 : Int).toNat)) ∧ (if y145.length + y_.length < 17592186044416 then (spec_NeighborsIn.l0 k3 l0 a1 (y145 ++ y_) (wrap64 (x6_1 + 1))) else (none)) = some r := ⟨_, ⟨rfl⟩, yh_ H⟩
           obtain ⟨y148, Ny148, H⟩ := H
           replace H := ifn_ H
           obtain ⟨c21, H⟩ := H
           have LMc21 := Aside0.mk c21
           clear c21
           replace H : ∃ y_ : List Int, Aside0 (y_ = (y145 ++ y148)) ∧ (spec_NeighborsIn.l0 k3 l0 a1 y_ (wrap64 (x6_1 + 1))) = some r := ⟨_, ⟨rfl⟩, yh_ H⟩
           obtain ⟨y152, Ny152, H⟩ := H
           have H' := Aside0.mk H
           clear H
           obtain ⟨Ao22, co22, eo22⟩ := Kd.R_slice HO_5.out
           subst eo22
           have p131 : 0 ≤ (x8_3 : Int) := od_
           have q131 : x8_3 < (x5_1.length : Int) := od_
           obtain ⟨ad131, e131, hx131_0⟩ := Kd.at_int (Kd.R_reads' HO_5.out).2.2 x8_3 p131 q131
           cases e131
           replace p131 := eq_true p131
           replace q131 := eq_true q131
           try go_wp2
           refine sh2_ (Kd.R_drew HO_5.out) (below_drew1 HB.out) ?_
           clear HO_5 HB
           intro HO_5 HB
           have q24 : (x8_3 : Int) ≤ ((x5_1.length : Int) : Int) := od_
           obtain ⟨i024, hi024, _, hsz24, _⟩ := info_parts info3
           have hroom24 : x5_1.length ≤ co22 := (Kd.R_reads' HO_5.out).2.1
           have hC24 : Kd.C (Kd.int .i64) _ (some ad131) x5_1.length x5_1 := (Kd.R_reads' HO_5.out).2.2
           have hcut24 := cut_to (P := Try.prog) 24 3 .i64 Try.underlying24 hi024 (some ad131) x5_1.length co22 x8_3 od_ q24 hroom24
           have hr24 := Kd.C_take (m := (x8_3 : Int).toNat) hC24 (by omega)
           have hy24 : y135.length = (x8_3 : Int).toNat := (by rw [Ny135.out, List.length_take]; omega)
           rw [← Ny135.out] at hr24
           rw [← hy24] at hcut24
           have HR138 := Aside0.mk hr24
           have HC138 := Aside0.mk (show y135.length ≤ co22 from by omega)
           clear hr24 hC24 hroom24 hi024 hsz24
           have KY24 := Aside0.mk hy24
           clear hy24
           have KL24 := Aside0.mk (show (x8_3 : Int).toNat ≤ x5_1.length from by omega)
           replace q24 := eq_true q24
           have q25 : (x8_3 : Int) ≤ ((x5_1.length : Int) : Int) := od_
           obtain ⟨i025, hi025, _, hsz25, _⟩ := info_parts info3
           have hroom25 : x5_1.length ≤ co22 := (Kd.R_reads' HO_5.out).2.1
           have hC25 : Kd.C (Kd.int .i64) _ (some ad131) x5_1.length x5_1 := (Kd.R_reads' HO_5.out).2.2
           have q025 : (0 : Int) ≤ (x8_3 : Int) := od_
           have hcut25 := cut_from (P := Try.prog) 24 3 .i64 Try.underlying24 hi025 1 hsz25 (some ad131) x5_1.length co22 x8_3 q025 q25
           have hr25 := Kd.C_drop (m := (x8_3 : Int).toNat) (c := co22) hC25 (by omega) hroom25
           obtain ⟨A25, hA25⟩ : ∃ A1, A1 = (if co22 = (x8_3 : Int).toNat then (some ad131) else ((some ad131) : Option Addr).map (·.add ((x8_3 : Int).toNat * 1))) := ⟨_, rfl⟩
           obtain ⟨c25, hc25⟩ : ∃ c1, c1 = co22 - (x8_3 : Int).toNat := ⟨_, rfl⟩
           have hy25 : y148.length = x5_1.length - (x8_3 : Int).toNat := (by rw [Ny148.out, List.length_drop] <;> omega)
           rw [show (x5_1).drop (x8_3 : Int).toNat = y148 from Ny148.out.symm] at hr25
           replace hr25 : Kd.C (Kd.int .i64) _ A25 y148.length y148 := (by rw [hA25]; exact hr25)
           rw [← hy25, ← hA25, ← hc25] at hcut25
           have HR151 := Aside0.mk hr25
           have HC151 := Aside0.mk (show y148.length ≤ c25 from by rw [hy25, hc25]; exact Nat.sub_le_sub_right hroom25 _)
           clear hr25 hC25 hroom25 hi025 hsz25 hc25
           have KY25 := Aside0.mk hy25
           have KA25 := Aside0.mk hA25
           clear hy25 hA25
           have KL25 := Aside0.mk (show (x8_3 : Int).toNat ≤ x5_1.length from by omega)
           replace q25 := eq_true q25
           refine start_ (n := 13) (S := fun w' => True) (ds := []) #[false, false, false, false, false, false, false, false, false, false, false, false, false] (by kernel_rfl) rfl rfl trivial (fun hHeld => ?_); refine with_tabW spec_NeighborsIn.tab14 spec_NeighborsIn.bits14 (fun HT_ HW_ => ?_)
           generalize wr.drew = w23 at HO_5 HB HR138 HR151 hHeld ⊢
           refine pur_ 1 #[false, true, false, false, false, false, false, false, false, false, false, false, false] (some 67) HT_ ?_
           refine pur_ 2 #[false, true, true, false, false, false, false, false, false, false, false, false, false] (some 68) HT_ ?_
           refine pur_ 3 #[false, true, true, true, false, false, false, false, false, false, false, false, false] (some 69) HT_ ?_
           refine pur_ 5 #[false, true, true, true, false, true, false, false, false, false, false, false, false] (some 71) HT_ ?_
           refine pur_ 8 #[false, true, true, true, false, true, false, false, true, false, false, false, false] (some 74) HT_ ?_
           refine pur_ 9 #[false, true, true, true, false, true, false, false, true, true, false, false, false] (some 75) HT_ ?_
           refine pur_ 10 #[false, true, true, true, false, true, false, false, true, true, true, false, false] (some 76) HT_ ?_
           refine join_ (σ := Value × Value × Value) 3 #[true, true, true, true, true, true, true, false, true, true, true, false, false] (fun s_ => [(66, s_.1), (70, s_.2.1), (72, s_.2.2)]) (fun s_ w' => (Kd.R (Kd.int .i64) 3 w' w.heap.size (fun k_ => some k_ ≠ (s_.2.2 : Value).ownBlock ∧ some k_ ≠ (.slice (some ad131) x5_1.length co22 : Value).ownBlock) s_.2.1 y139) ∧ (Kd.R (Kd.int .i64) 3 w' w.heap.size (fun k_ => some k_ ≠ (s_.2.1 : Value).ownBlock ∧ some k_ ≠ (.slice (some ad131) x5_1.length co22 : Value).ownBlock) s_.2.2 y142) ∧ (Kd.R (Kd.int .i64) 3 w' w.heap.size (fun k_ => some k_ ≠ (s_.2.1 : Value).ownBlock ∧ some k_ ≠ (s_.2.2 : Value).ownBlock) (.slice (some ad131) x5_1.length co22) x5_1) ∧ (Below w.heap.size w w')) ?_ ?_
           rotate_left
           ·intro hCont
            refine two_ (i := 0) (j := 6) (Ni := some 66) (Nj := some 72) #[true, true, true, true, false, true, false, false, true, true, true, false, false] #[false, true, true, true, false, true, true, false, true, true, true, false, false] rfl rfl rfl rfl (two_of HT_.out (by kernel_rfl)) (by decide) (by decide) (fun K hK => ?_) (fun K hK => ?_)
            ·skip
             refine Kd.R_lit_step (Kd.int .i64) _ 3 ?hg (N := 66) ?hd (xs := ([] : List Int)) (inner := []) (ok := fun _ => True) (okp := fun _ => True) ?hr ?hp (fun _ hk => hk) trivial (Below.refl _ _) (Nat.le_refl _) (by simp) ?_; (case hd => rfl); (case hg => rfl); (case hr => first | (go_simp; done) | (go_simp; rfl)); (case hp => exact (Reps.none _ _))
             intro v133 w26 ho27 hb hg_ hnew_
             clear hg_ hnew_
             (first | rw [← Ny132.out] at ho27 | (simp only [Int.reduceToNat] at ho27; rw [← Ny132.out] at ho27))
             refine sh5_ (Kd.R_elder' (ra_ HO_5) (Kd.R_base ho27) hb) (Kd.R_lower (Kd.R_new' ho27 (Kd.R_lt (ra_ HO_5))) (below_size (bl_ HB))) (Kd.C_below (by repeat (first | (with_reducible exact HR138.out) | (with_reducible refine Kd.C_alloc ?_ _) | (with_reducible refine Kd.C_drewN ?_ _) | (with_reducible refine Kd.C_drew ?_) | exact HR138.out)) hb) (Kd.C_below (by repeat (first | (with_reducible exact HR151.out) | (with_reducible refine Kd.C_alloc ?_ _) | (with_reducible refine Kd.C_drewN ?_ _) | (with_reducible refine Kd.C_drew ?_) | exact HR151.out)) hb) (below_step (bl_ HB) hb) ?_
             clear HO_5 HR138 HR151 HB hb ho27
             intro HO_5 HO134 HR138 HR151 HB
             refine hK.out _ _ trivial (fun hHeld => ?_)
             clear hK K
             refine norm_ (a' := ?_) ?_ ?_
             rotate_left
             ·show Act.put _ (some 66) _ = _
              simp only [Act.put, List.setIfInBounds_toArray, List.set_cons_zero, List.set_cons_succ, i64_w, i32_w]
              rfl
             refine two_ (i := 4) (j := 6) (Ni := some 70) (Nj := some 72) #[true, true, true, true, true, true, false, false, true, true, true, false, false] #[true, true, true, true, false, true, true, false, true, true, true, false, false] rfl rfl rfl rfl (two_of HT_.out (by kernel_rfl)) (by decide) (by decide) (fun K hK => ?_) (fun K hK => ?_)
             ·skip
              refine Kd.R_append_rows_step (Kd.int .i64) (w0 := w) w.heap.size (by rfl) (.tmp 66) (.tmp 69) 24 3 (.int .i64 0) 8 rfl Try.underlying24 info3 rfl (by decide) (by omega) v133 y132 y135 _ _ _ (fun k_ => some k_ ≠ (.slice (some ad131) x5_1.length co22 : Value).ownBlock) (fun _ => False) rfl rfl ?aO ?aR (fun _ _ h => h) (fun _ h => h.elim) ?aF ?aB ?aS ?aL ?_
              (case aR => repeat (first | exact (by repeat (first | (with_reducible exact HR138.out) | (with_reducible refine Kd.C_alloc ?_ _) | (with_reducible refine Kd.C_drewN ?_ _) | (with_reducible refine Kd.C_drew ?_) | exact HR138.out)) | (with_reducible refine Kd.C_alloc ?_ _) | (with_reducible refine Kd.C_drewN ?_ _) | (with_reducible refine Kd.C_drew ?_)))
              (case aB => exact (bl_ HB))
              (case aF => exact (fun k_ hk => Kd.fresh' (Kd.R_lt (ra_ HO_5)) k_ hk))
              (case aO => exact (by (with_reducible repeat (first | apply Kd.R_alloc | apply Kd.R_drewN | apply Kd.R_drew)); exact Kd.R_mono HO134.out (fun _ hk => hk.2)))
              (case aS => exact (below_size (bl_ HB)))
              (case aL => have := LMc17.out; omega)
              intro v140 w28 ho hb hg hat
              rw [← Ny139.out] at ho
              refine sh5_ (Kd.R_after (ok := (fun _ => True)) (ra_ HO_5) hg hat) hb ((show Kd.C (Kd.int .i64) w28 (some ad131) y135.length y135 from by rw [Ny135.out]; exact Kd.C_take (m := (x8_3 : Int).toNat) ((Kd.R_reads' (Kd.R_after (ok := (fun _ => True)) (ra_ HO_5) hg hat)).2.2) KL24.out)) ((show Kd.C (Kd.int .i64) w28 A25 y148.length y148 from by rw [Ny148.out, KA25.out]; exact Kd.C_drop (m := (x8_3 : Int).toNat) (c := co22) ((Kd.R_reads' (Kd.R_after (ok := (fun _ => True)) (ra_ HO_5) hg hat)).2.2) KL25.out ((Kd.R_reads' (Kd.R_after (ok := (fun _ => True)) (ra_ HO_5) hg hat)).2.1))) ho ?_
              clear HO_5 HB HR138 HR151 HO134 ho hb hg hat
              intro HO_5 HB HR138 HR151 HO141
              refine hK.out _ _ trivial (fun hHeld => ?_)
              clear hK K
              refine norm_ (a' := ?_) ?_ ?_
              rotate_left
              ·show Act.put _ (some 70) _ = _
               simp only [Act.put, List.setIfInBounds_toArray, List.set_cons_zero, List.set_cons_succ, i64_w, i32_w]
               rfl
              refine one_ (i := 6) (N := some 72) #[true, true, true, true, true, true, true, false, true, true, true, false, false] rfl rfl (one_of HT_.out (by kernel_rfl)) (by decide) (fun K hK => ?_)
              refine Kd.R_lit_step (Kd.int .i64) _ 3 ?hg (N := 72) ?hd (xs := ([x7_6] : List Int)) (inner := [.int .i64 x7_6]) (ok := fun _ => True) (okp := fun _ => True) ?hr ?hp (fun _ hk => hk) trivial (Below.refl _ _) (Nat.le_refl _) (by simp) ?_; (case hd => rfl); (case hg => rfl); (case hr => first | (go_simp; done) | (go_simp; rfl)); (case hp => exact (Reps.one (show Kd.M (Kd.int .i64) _ _ _ x7_6 [.int .i64 x7_6] from rfl) (Reps.none _ _)))
              intro v143 w29 ho30 hb hg_ hnew_
              clear hg_ hnew_
              (first | rw [← Ny142.out] at ho30 | (simp only [Int.reduceToNat] at ho30; rw [← Ny142.out] at ho30))
              refine sh6_ (Kd.R_elder' (ra_ HO_5) (Kd.R_base ho30) hb) (Kd.R_elder' (ra_ HO141) (Kd.R_base ho30) hb) (Kd.R_lower (Kd.R_new' (Kd.R_new' ho30 (Kd.R_lt (ra_ HO_5))) (Kd.R_lt (ra_ HO141))) (below_size (bl_ HB))) (Kd.C_below (by repeat (first | (with_reducible exact HR138.out) | (with_reducible refine Kd.C_alloc ?_ _) | (with_reducible refine Kd.C_drewN ?_ _) | (with_reducible refine Kd.C_drew ?_) | exact HR138.out)) hb) (Kd.C_below (by repeat (first | (with_reducible exact HR151.out) | (with_reducible refine Kd.C_alloc ?_ _) | (with_reducible refine Kd.C_drewN ?_ _) | (with_reducible refine Kd.C_drew ?_) | exact HR151.out)) hb) (below_step (bl_ HB) hb) ?_
              clear HO_5 HO141 HR138 HR151 HB hb ho30
              intro HO_5 HO141 HO144 HR138 HR151 HB
              refine hK.out _ _ trivial (fun hHeld => ?_)
              clear hK K
              refine norm_ (a' := ?_) ?_ ?_
              rotate_left
              ·show Act.put _ (some 72) _ = _
               simp only [Act.put, List.setIfInBounds_toArray, List.set_cons_zero, List.set_cons_succ, i64_w, i32_w]
               rfl
              exact norm_ (by simp only [putAll, Act.put, List.setIfInBounds_toArray, List.set_cons_zero, List.set_cons_succ]) (hCont (v133, v140, v143) _ ⟨(by (with_reducible repeat (first | apply Kd.R_alloc | apply Kd.R_drewN | apply Kd.R_drew)); exact Kd.R_mono HO141.out (fun _ hk => ⟨hk.2, hk.1⟩)), (by (with_reducible repeat (first | apply Kd.R_alloc | apply Kd.R_drewN | apply Kd.R_drew)); exact Kd.R_mono HO144.out (fun _ hk => ⟨hk.2, hk.1.2⟩)), (by (with_reducible repeat (first | apply Kd.R_alloc | apply Kd.R_drewN | apply Kd.R_drew)); exact Kd.R_mono HO_5.out (fun _ hk => ⟨hk.1.2, hk.2⟩)), (bl_ HB)⟩)
             ·skip
              refine Kd.R_lit_step (Kd.int .i64) _ 3 ?hg (N := 72) ?hd (xs := ([x7_6] : List Int)) (inner := [.int .i64 x7_6]) (ok := fun _ => True) (okp := fun _ => True) ?hr ?hp (fun _ hk => hk) trivial (Below.refl _ _) (Nat.le_refl _) (by simp) ?_; (case hd => rfl); (case hg => rfl); (case hr => first | (go_simp; done) | (go_simp; rfl)); (case hp => exact (Reps.one (show Kd.M (Kd.int .i64) _ _ _ x7_6 [.int .i64 x7_6] from rfl) (Reps.none _ _)))
              intro v143 w28 ho29 hb hg_ hnew_
              clear hg_ hnew_
              (first | rw [← Ny142.out] at ho29 | (simp only [Int.reduceToNat] at ho29; rw [← Ny142.out] at ho29))
              refine sh6_ (Kd.R_elder' (ra_ HO_5) (Kd.R_base ho29) hb) (Kd.R_elder' (ra_ HO134) (Kd.R_base ho29) hb) (Kd.R_lower (Kd.R_new' (Kd.R_new' ho29 (Kd.R_lt (ra_ HO_5))) (Kd.R_lt (ra_ HO134))) (below_size (bl_ HB))) (Kd.C_below (by repeat (first | (with_reducible exact HR138.out) | (with_reducible refine Kd.C_alloc ?_ _) | (with_reducible refine Kd.C_drewN ?_ _) | (with_reducible refine Kd.C_drew ?_) | exact HR138.out)) hb) (Kd.C_below (by repeat (first | (with_reducible exact HR151.out) | (with_reducible refine Kd.C_alloc ?_ _) | (with_reducible refine Kd.C_drewN ?_ _) | (with_reducible refine Kd.C_drew ?_) | exact HR151.out)) hb) (below_step (bl_ HB) hb) ?_
              clear HO_5 HO134 HR138 HR151 HB hb ho29
              intro HO_5 HO134 HO144 HR138 HR151 HB
              refine hK.out _ _ trivial (fun hHeld => ?_)
              clear hK K
              refine norm_ (a' := ?_) ?_ ?_
              rotate_left
              ·show Act.put _ (some 72) _ = _
               simp only [Act.put, List.setIfInBounds_toArray, List.set_cons_zero, List.set_cons_succ, i64_w, i32_w]
               rfl
              refine one_ (i := 4) (N := some 70) #[true, true, true, true, true, true, true, false, true, true, true, false, false] rfl rfl (one_of HT_.out (by kernel_rfl)) (by decide) (fun K hK => ?_)
              refine Kd.R_append_rows_step (Kd.int .i64) (w0 := w) w.heap.size (by rfl) (.tmp 66) (.tmp 69) 24 3 (.int .i64 0) 8 rfl Try.underlying24 info3 rfl (by decide) (by omega) v133 y132 y135 _ _ _ (fun k_ => some k_ ≠ (.slice (some ad131) x5_1.length co22 : Value).ownBlock ∧ some k_ ≠ (v143 : Value).ownBlock) (fun _ => False) rfl rfl ?aO ?aR (fun _ _ h => h) (fun _ h => h.elim) ?aF ?aB ?aS ?aL ?_
              (case aR => repeat (first | exact (by repeat (first | (with_reducible exact HR138.out) | (with_reducible refine Kd.C_alloc ?_ _) | (with_reducible refine Kd.C_drewN ?_ _) | (with_reducible refine Kd.C_drew ?_) | exact HR138.out)) | (with_reducible refine Kd.C_alloc ?_ _) | (with_reducible refine Kd.C_drewN ?_ _) | (with_reducible refine Kd.C_drew ?_)))
              (case aB => exact (bl_ HB))
              (case aF => exact (fun k_ hk => ⟨Kd.fresh' (Kd.R_lt (ra_ HO_5)) k_ hk, Kd.fresh' (Kd.R_lt (ra_ HO144)) k_ hk⟩))
              (case aO => exact (by (with_reducible repeat (first | apply Kd.R_alloc | apply Kd.R_drewN | apply Kd.R_drew)); exact Kd.R_mono HO134.out (fun _ hk => ⟨hk.1.2, hk.2⟩)))
              (case aS => exact (below_size (bl_ HB)))
              (case aL => have := LMc17.out; omega)
              intro v140 w30 ho hb hg hat
              rw [← Ny139.out] at ho
              refine sh6_ (Kd.R_after (ok := (fun k_ => some k_ ≠ (v143 : Value).ownBlock)) (by (with_reducible repeat (first | apply Kd.R_alloc | apply Kd.R_drewN | apply Kd.R_drew)); exact Kd.R_mono HO_5.out (fun _ hk => ⟨hk.2, hk.1.2⟩)) hg hat) (Kd.R_after (ok := (fun k_ => some k_ ≠ (.slice (some ad131) x5_1.length co22 : Value).ownBlock)) (by (with_reducible repeat (first | apply Kd.R_alloc | apply Kd.R_drewN | apply Kd.R_drew)); exact Kd.R_mono HO144.out (fun _ hk => ⟨hk.1.2, hk.2⟩)) hg hat) hb ((show Kd.C (Kd.int .i64) w30 (some ad131) y135.length y135 from by rw [Ny135.out]; exact Kd.C_take (m := (x8_3 : Int).toNat) ((Kd.R_reads' (Kd.R_after (ok := (fun k_ => some k_ ≠ (v143 : Value).ownBlock)) (by (with_reducible repeat (first | apply Kd.R_alloc | apply Kd.R_drewN | apply Kd.R_drew)); exact Kd.R_mono HO_5.out (fun _ hk => ⟨hk.2, hk.1.2⟩)) hg hat)).2.2) KL24.out)) ((show Kd.C (Kd.int .i64) w30 A25 y148.length y148 from by rw [Ny148.out, KA25.out]; exact Kd.C_drop (m := (x8_3 : Int).toNat) (c := co22) ((Kd.R_reads' (Kd.R_after (ok := (fun k_ => some k_ ≠ (v143 : Value).ownBlock)) (by (with_reducible repeat (first | apply Kd.R_alloc | apply Kd.R_drewN | apply Kd.R_drew)); exact Kd.R_mono HO_5.out (fun _ hk => ⟨hk.2, hk.1.2⟩)) hg hat)).2.2) KL25.out ((Kd.R_reads' (Kd.R_after (ok := (fun k_ => some k_ ≠ (v143 : Value).ownBlock)) (by (with_reducible repeat (first | apply Kd.R_alloc | apply Kd.R_drewN | apply Kd.R_drew)); exact Kd.R_mono HO_5.out (fun _ hk => ⟨hk.2, hk.1.2⟩)) hg hat)).2.1))) ho ?_
              clear HO_5 HO144 HB HR138 HR151 HO134 ho hb hg hat
              intro HO_5 HO144 HB HR138 HR151 HO141
              refine hK.out _ _ trivial (fun hHeld => ?_)
              clear hK K
              refine norm_ (a' := ?_) ?_ ?_
              rotate_left
              ·show Act.put _ (some 70) _ = _
               simp only [Act.put, List.setIfInBounds_toArray, List.set_cons_zero, List.set_cons_succ, i64_w, i32_w]
               rfl
              exact norm_ (by simp only [putAll, Act.put, List.setIfInBounds_toArray, List.set_cons_zero, List.set_cons_succ]) (hCont (v133, v140, v143) _ ⟨(by (with_reducible repeat (first | apply Kd.R_alloc | apply Kd.R_drewN | apply Kd.R_drew)); exact Kd.R_mono HO141.out (fun _ hk => ⟨hk.2, hk.1⟩)), (by (with_reducible repeat (first | apply Kd.R_alloc | apply Kd.R_drewN | apply Kd.R_drew)); exact Kd.R_mono HO144.out (fun _ hk => ⟨hk.2, hk.1⟩)), (by (with_reducible repeat (first | apply Kd.R_alloc | apply Kd.R_drewN | apply Kd.R_drew)); exact Kd.R_mono HO_5.out (fun _ hk => ⟨hk.2, hk.1⟩)), (bl_ HB)⟩)
            ·skip
             refine Kd.R_lit_step (Kd.int .i64) _ 3 ?hg (N := 72) ?hd (xs := ([x7_6] : List Int)) (inner := [.int .i64 x7_6]) (ok := fun _ => True) (okp := fun _ => True) ?hr ?hp (fun _ hk => hk) trivial (Below.refl _ _) (Nat.le_refl _) (by simp) ?_; (case hd => rfl); (case hg => rfl); (case hr => first | (go_simp; done) | (go_simp; rfl)); (case hp => exact (Reps.one (show Kd.M (Kd.int .i64) _ _ _ x7_6 [.int .i64 x7_6] from rfl) (Reps.none _ _)))
             intro v143 w26 ho27 hb hg_ hnew_
             clear hg_ hnew_
             (first | rw [← Ny142.out] at ho27 | (simp only [Int.reduceToNat] at ho27; rw [← Ny142.out] at ho27))
             refine sh5_ (Kd.R_elder' (ra_ HO_5) (Kd.R_base ho27) hb) (Kd.R_lower (Kd.R_new' ho27 (Kd.R_lt (ra_ HO_5))) (below_size (bl_ HB))) (Kd.C_below (by repeat (first | (with_reducible exact HR138.out) | (with_reducible refine Kd.C_alloc ?_ _) | (with_reducible refine Kd.C_drewN ?_ _) | (with_reducible refine Kd.C_drew ?_) | exact HR138.out)) hb) (Kd.C_below (by repeat (first | (with_reducible exact HR151.out) | (with_reducible refine Kd.C_alloc ?_ _) | (with_reducible refine Kd.C_drewN ?_ _) | (with_reducible refine Kd.C_drew ?_) | exact HR151.out)) hb) (below_step (bl_ HB) hb) ?_
             clear HO_5 HR138 HR151 HB hb ho27
             intro HO_5 HO144 HR138 HR151 HB
             refine hK.out _ _ trivial (fun hHeld => ?_)
             clear hK K
             refine norm_ (a' := ?_) ?_ ?_
             rotate_left
             ·show Act.put _ (some 72) _ = _
              simp only [Act.put, List.setIfInBounds_toArray, List.set_cons_zero, List.set_cons_succ, i64_w, i32_w]
              rfl
             refine one_ (i := 0) (N := some 66) #[true, true, true, true, false, true, true, false, true, true, true, false, false] rfl rfl (one_of HT_.out (by kernel_rfl)) (by decide) (fun K hK => ?_)
             refine Kd.R_lit_step (Kd.int .i64) _ 3 ?hg (N := 66) ?hd (xs := ([] : List Int)) (inner := []) (ok := fun _ => True) (okp := fun _ => True) ?hr ?hp (fun _ hk => hk) trivial (Below.refl _ _) (Nat.le_refl _) (by simp) ?_; (case hd => rfl); (case hg => rfl); (case hr => first | (go_simp; done) | (go_simp; rfl)); (case hp => exact (Reps.none _ _))
             intro v133 w28 ho29 hb hg_ hnew_
             clear hg_ hnew_
             (first | rw [← Ny132.out] at ho29 | (simp only [Int.reduceToNat] at ho29; rw [← Ny132.out] at ho29))
             refine sh6_ (Kd.R_elder' (ra_ HO_5) (Kd.R_base ho29) hb) (Kd.R_elder' (ra_ HO144) (Kd.R_base ho29) hb) (Kd.R_lower (Kd.R_new' (Kd.R_new' ho29 (Kd.R_lt (ra_ HO_5))) (Kd.R_lt (ra_ HO144))) (below_size (bl_ HB))) (Kd.C_below (by repeat (first | (with_reducible exact HR138.out) | (with_reducible refine Kd.C_alloc ?_ _) | (with_reducible refine Kd.C_drewN ?_ _) | (with_reducible refine Kd.C_drew ?_) | exact HR138.out)) hb) (Kd.C_below (by repeat (first | (with_reducible exact HR151.out) | (with_reducible refine Kd.C_alloc ?_ _) | (with_reducible refine Kd.C_drewN ?_ _) | (with_reducible refine Kd.C_drew ?_) | exact HR151.out)) hb) (below_step (bl_ HB) hb) ?_
             clear HO_5 HO144 HR138 HR151 HB hb ho29
             intro HO_5 HO144 HO134 HR138 HR151 HB
             refine hK.out _ _ trivial (fun hHeld => ?_)
             clear hK K
             refine norm_ (a' := ?_) ?_ ?_
             rotate_left
             ·show Act.put _ (some 66) _ = _
              simp only [Act.put, List.setIfInBounds_toArray, List.set_cons_zero, List.set_cons_succ, i64_w, i32_w]
              rfl
             refine one_ (i := 4) (N := some 70) #[true, true, true, true, true, true, true, false, true, true, true, false, false] rfl rfl (one_of HT_.out (by kernel_rfl)) (by decide) (fun K hK => ?_)
             refine Kd.R_append_rows_step (Kd.int .i64) (w0 := w) w.heap.size (by rfl) (.tmp 66) (.tmp 69) 24 3 (.int .i64 0) 8 rfl Try.underlying24 info3 rfl (by decide) (by omega) v133 y132 y135 _ _ _ (fun k_ => some k_ ≠ (.slice (some ad131) x5_1.length co22 : Value).ownBlock ∧ some k_ ≠ (v143 : Value).ownBlock) (fun _ => False) rfl rfl ?aO ?aR (fun _ _ h => h) (fun _ h => h.elim) ?aF ?aB ?aS ?aL ?_
             (case aR => repeat (first | exact (by repeat (first | (with_reducible exact HR138.out) | (with_reducible refine Kd.C_alloc ?_ _) | (with_reducible refine Kd.C_drewN ?_ _) | (with_reducible refine Kd.C_drew ?_) | exact HR138.out)) | (with_reducible refine Kd.C_alloc ?_ _) | (with_reducible refine Kd.C_drewN ?_ _) | (with_reducible refine Kd.C_drew ?_)))
             (case aB => exact (bl_ HB))
             (case aF => exact (fun k_ hk => ⟨Kd.fresh' (Kd.R_lt (ra_ HO_5)) k_ hk, Kd.fresh' (Kd.R_lt (ra_ HO144)) k_ hk⟩))
             (case aO => exact (by (with_reducible repeat (first | apply Kd.R_alloc | apply Kd.R_drewN | apply Kd.R_drew)); exact Kd.R_mono HO134.out (fun _ hk => ⟨hk.1.2, hk.2⟩)))
             (case aS => exact (below_size (bl_ HB)))
             (case aL => have := LMc17.out; omega)
             intro v140 w30 ho hb hg hat
             rw [← Ny139.out] at ho
             refine sh6_ (Kd.R_after (ok := (fun k_ => some k_ ≠ (v143 : Value).ownBlock)) (by (with_reducible repeat (first | apply Kd.R_alloc | apply Kd.R_drewN | apply Kd.R_drew)); exact Kd.R_mono HO_5.out (fun _ hk => ⟨hk.1.2, hk.2⟩)) hg hat) (Kd.R_after (ok := (fun k_ => some k_ ≠ (.slice (some ad131) x5_1.length co22 : Value).ownBlock)) (by (with_reducible repeat (first | apply Kd.R_alloc | apply Kd.R_drewN | apply Kd.R_drew)); exact Kd.R_mono HO144.out (fun _ hk => ⟨hk.1.2, hk.2⟩)) hg hat) hb ((show Kd.C (Kd.int .i64) w30 (some ad131) y135.length y135 from by rw [Ny135.out]; exact Kd.C_take (m := (x8_3 : Int).toNat) ((Kd.R_reads' (Kd.R_after (ok := (fun k_ => some k_ ≠ (v143 : Value).ownBlock)) (by (with_reducible repeat (first | apply Kd.R_alloc | apply Kd.R_drewN | apply Kd.R_drew)); exact Kd.R_mono HO_5.out (fun _ hk => ⟨hk.1.2, hk.2⟩)) hg hat)).2.2) KL24.out)) ((show Kd.C (Kd.int .i64) w30 A25 y148.length y148 from by rw [Ny148.out, KA25.out]; exact Kd.C_drop (m := (x8_3 : Int).toNat) (c := co22) ((Kd.R_reads' (Kd.R_after (ok := (fun k_ => some k_ ≠ (v143 : Value).ownBlock)) (by (with_reducible repeat (first | apply Kd.R_alloc | apply Kd.R_drewN | apply Kd.R_drew)); exact Kd.R_mono HO_5.out (fun _ hk => ⟨hk.1.2, hk.2⟩)) hg hat)).2.2) KL25.out ((Kd.R_reads' (Kd.R_after (ok := (fun k_ => some k_ ≠ (v143 : Value).ownBlock)) (by (with_reducible repeat (first | apply Kd.R_alloc | apply Kd.R_drewN | apply Kd.R_drew)); exact Kd.R_mono HO_5.out (fun _ hk => ⟨hk.1.2, hk.2⟩)) hg hat)).2.1))) ho ?_
             clear HO_5 HO144 HB HR138 HR151 HO134 ho hb hg hat
             intro HO_5 HO144 HB HR138 HR151 HO141
             refine hK.out _ _ trivial (fun hHeld => ?_)
             clear hK K
             refine norm_ (a' := ?_) ?_ ?_
             rotate_left
             ·show Act.put _ (some 70) _ = _
              simp only [Act.put, List.setIfInBounds_toArray, List.set_cons_zero, List.set_cons_succ, i64_w, i32_w]
              rfl
             exact norm_ (by simp only [putAll, Act.put, List.setIfInBounds_toArray, List.set_cons_zero, List.set_cons_succ]) (hCont (v133, v140, v143) _ ⟨(by (with_reducible repeat (first | apply Kd.R_alloc | apply Kd.R_drewN | apply Kd.R_drew)); exact Kd.R_mono HO141.out (fun _ hk => ⟨hk.2, hk.1⟩)), (by (with_reducible repeat (first | apply Kd.R_alloc | apply Kd.R_drewN | apply Kd.R_drew)); exact Kd.R_mono HO144.out (fun _ hk => ⟨hk.2, hk.1⟩)), (by (with_reducible repeat (first | apply Kd.R_alloc | apply Kd.R_drewN | apply Kd.R_drew)); exact Kd.R_mono HO_5.out (fun _ hk => ⟨hk.2, hk.1⟩)), (bl_ HB)⟩)
           rintro ⟨v133, v140, v143⟩ w31 ⟨h0_, h1_, h2_, h3_⟩
           have n0_ : Aside0 (Kd.R (Kd.int .i64) 3 w31 w.heap.size (fun k_ => some k_ ≠ (v143 : Value).ownBlock ∧ some k_ ≠ (.slice (some ad131) x5_1.length co22 : Value).ownBlock) v140 y139) := ⟨h0_⟩
           have n1_ : Aside0 (Kd.R (Kd.int .i64) 3 w31 w.heap.size (fun k_ => some k_ ≠ (v140 : Value).ownBlock ∧ some k_ ≠ (.slice (some ad131) x5_1.length co22 : Value).ownBlock) v143 y142) := ⟨h1_⟩
           have n2_ : Aside0 (Kd.R (Kd.int .i64) 3 w31 w.heap.size (fun k_ => some k_ ≠ (v140 : Value).ownBlock ∧ some k_ ≠ (v143 : Value).ownBlock) (.slice (some ad131) x5_1.length co22) x5_1) := ⟨h2_⟩
           have n3_ : Aside0 (Below w.heap.size w w31) := ⟨h3_⟩
           clear HO_5
           clear HB
           clear h0_ h1_ h2_ h3_
           have HO141 := n0_
           have HO144 := n1_
           have HO_5 := n2_
           have HB := n3_
           clear n0_ n1_ n2_ n3_
           have hHeld := trivial
           obtain ⟨Ao33, co33, eo33⟩ := Kd.R_slice HO144.out
           (first | subst eo33 | (injection eo33 with f1_ f2_ f3_; have f4_ := f1_.symm; have f5_ := f3_.symm; clear f1_ f2_ f3_; subst f4_; subst f5_))
           refine norm_ (a' := ?_) ?_ ?_
           rotate_left
           ·simp only [putAll, Act.put, List.setIfInBounds_toArray, List.set_cons_zero, List.set_cons_succ]
            rfl
           refine one_ (i := 7) (N := some 73) #[true, true, true, true, true, true, true, true, true, true, true, false, false] rfl rfl (one_of HT_.out (by kernel_rfl)) (by decide) (fun K hK => ?_)
           refine Kd.R_append_rows_step (Kd.int .i64) (w0 := w) w.heap.size (by rfl) (.tmp 70) (.tmp 72) 24 3 (.int .i64 0) 8 rfl Try.underlying24 info3 rfl (by decide) (by omega) v140 y139 y142 _ _ _ (fun k_ => some k_ ≠ (.slice (some ad131) x5_1.length co22 : Value).ownBlock ∧ some k_ ≠ (.slice Ao33 y142.length co33 : Value).ownBlock) (fun _ => False) rfl rfl ?aO ?aR (fun _ _ h => h) (fun _ h => h.elim) ?aF ?aB ?aS ?aL ?_
           (case aR => repeat (first | exact (Kd.R_reads' HO144.out).2.2 | (with_reducible refine Kd.C_alloc ?_ _) | (with_reducible refine Kd.C_drewN ?_ _) | (with_reducible refine Kd.C_drew ?_)))
           (case aB => exact (bl_ HB))
           (case aF => exact (fun k_ hk => ⟨Kd.fresh' (Kd.R_lt (ra_ HO_5)) k_ hk, Kd.fresh' (Kd.R_lt (ra_ HO144)) k_ hk⟩))
           (case aO => exact (by (with_reducible repeat (first | apply Kd.R_alloc | apply Kd.R_drewN | apply Kd.R_drew)); exact Kd.R_mono HO141.out (fun _ hk => ⟨hk.2, hk.1⟩)))
           (case aS => exact (below_size (bl_ HB)))
           (case aL => have := LMc18.out; omega)
           intro v146 w32 ho hb hg hat
           rw [← Ny145.out] at ho
           refine sh4_ (Kd.R_after (ok := (fun k_ => some k_ ≠ (.slice Ao33 y142.length co33 : Value).ownBlock)) (by (with_reducible repeat (first | apply Kd.R_alloc | apply Kd.R_drewN | apply Kd.R_drew)); exact Kd.R_mono HO_5.out (fun _ hk => ⟨hk.2, hk.1⟩)) hg hat) (Kd.R_after (ok := (fun k_ => some k_ ≠ (.slice (some ad131) x5_1.length co22 : Value).ownBlock)) (by (with_reducible repeat (first | apply Kd.R_alloc | apply Kd.R_drewN | apply Kd.R_drew)); exact Kd.R_mono HO144.out (fun _ hk => ⟨hk.2, hk.1⟩)) hg hat) hb ho ?_
           clear HO_5 HO144 HB HO141 ho hb hg hat
           intro HO_5 HO144 HB HO147
           refine hK.out _ _ trivial (fun hHeld => ?_)
           clear hK K
           refine norm_ (a' := ?_) ?_ ?_
           rotate_left
           ·show Act.put _ (some 73) _ = _
            simp only [Act.put, List.setIfInBounds_toArray, List.set_cons_zero, List.set_cons_succ, i64_w, i32_w]
            rfl
           refine one_ (i := 11) (N := some 77) #[true, true, true, true, true, true, true, true, true, true, true, true, false] rfl rfl (one_of HT_.out (by kernel_rfl)) (by decide) (fun K hK => ?_)
           refine Kd.R_append_rows_step (Kd.int .i64) (w0 := w) w.heap.size (by rfl) (.tmp 73) (.tmp 76) 24 3 (.int .i64 0) 8 rfl Try.underlying24 info3 rfl (by decide) (by omega) v146 y145 y148 _ _ _ (fun k_ => some k_ ≠ (.slice (some ad131) x5_1.length co22 : Value).ownBlock ∧ some k_ ≠ (.slice Ao33 y142.length co33 : Value).ownBlock) (fun _ => False) rfl rfl ?aO ?aR (fun _ _ h => h) (fun _ h => h.elim) ?aF ?aB ?aS ?aL ?_
           (case aR => rw [Ny148.out, KA25.out]; have h1_ := Kd.R_reads' HO_5.out; exact Kd.C_drop (m := (x8_3 : Int).toNat) (c := co22) h1_.2.2 KL25.out h1_.2.1)
           (case aB => exact (bl_ HB))
           (case aF => exact (fun k_ hk => ⟨Kd.fresh' (Kd.R_lt (ra_ HO_5)) k_ hk, Kd.fresh' (Kd.R_lt (ra_ HO144)) k_ hk⟩))
           (case aO => exact (ra_ HO147))
           (case aS => exact (below_size (bl_ HB)))
           (case aL => have := LMc21.out; omega)
           intro v153 w34 ho hb hg hat
           rw [← Ny152.out] at ho
           refine sh4_ (Kd.R_after (ok := (fun k_ => some k_ ≠ (.slice Ao33 y142.length co33 : Value).ownBlock)) (ra_ HO_5) hg hat) (Kd.R_after (ok := (fun k_ => some k_ ≠ (.slice (some ad131) x5_1.length co22 : Value).ownBlock)) (ra_ HO144) hg hat) hb ho ?_
           clear HO_5 HO144 HB HO147 ho hb hg hat
           intro HO_5 HO144 HB HO154
           refine hK.out _ _ trivial (fun hHeld => ?_)
           clear hK K
           refine norm_ (a' := ?_) ?_ ?_
           rotate_left
           ·show Act.put _ (some 77) _ = _
            simp only [Act.put, List.setIfInBounds_toArray, List.set_cons_zero, List.set_cons_succ, i64_w, i32_w]
            rfl
           refine pur_ 12 #[true, true, true, true, true, true, true, true, true, true, true, true, true] (some 5) HT_ ?_
           refine done_ (done_of HT_.out (by kernel_rfl)) ?_
           try go_wp2
           go_roundg k3
           case measure => have := HK1.out; have := HJ6.out; have := HK3.out; omega
           case rel => exact ⟨(y152), (wrap64 (x6_1 + 1)), (by first | rfl | (simp; done) | (simp [*]; done)), H', ⟨by have := HK1.out; have := HJ6.out; have := HK3.out; omega⟩, ⟨by (with_reducible repeat (first | apply Kd.R_alloc | apply Kd.R_drewN | apply Kd.R_drew)); exact Kd.R_mono HO154.out (fun _ hk => trivial)⟩, ⟨bl_ HB⟩⟩
          ·rw [if_neg c14] at H
           obtain ⟨c14b0, c14b1⟩ := bn_ c14
           by_cases c35 : (rd x5_1 x8_3) = x7_6
           ·rw [if_pos c35] at H
            obtain ⟨c35b0, c35b1⟩ := bt_ c35
            clear c35
            have H' := Aside0.mk H
            clear H
            obtain ⟨Ao36, co36, eo36⟩ := Kd.R_slice HO_5.out
            subst eo36
            have p131 : 0 ≤ (x8_3 : Int) := od_
            have q131 : x8_3 < (x5_1.length : Int) := od_
            obtain ⟨ad131, e131, hx131_0⟩ := Kd.at_int (Kd.R_reads' HO_5.out).2.2 x8_3 p131 q131
            cases e131
            replace p131 := eq_true p131
            replace q131 := eq_true q131
            have p155 : 0 ≤ (x8_3 : Int) := od_
            have q155 : x8_3 < (x5_1.length : Int) := od_
            obtain ⟨ad155, e155, hx155_0⟩ := Kd.at_int (Kd.R_reads' HO_5.out).2.2 x8_3 p155 q155
            obtain rfl : ad131 = ad155 := (by injection e155)
            replace p155 := eq_true p155
            replace q155 := eq_true q155
            go_wp2
            go_roundg k3
            case measure => have := HK1.out; have := HJ6.out; have := HK3.out; omega
            case rel => exact ⟨(x5_1), (wrap64 (x6_1 + 1)), (by first | rfl | (simp; done) | (simp [*]; done)), H', ⟨by have := HK1.out; have := HJ6.out; have := HK3.out; omega⟩, ⟨ra_ HO_5⟩, ⟨bl_ HB⟩⟩
           ·rw [if_neg c35] at H
            obtain ⟨c35b0, c35b1⟩ := bn_ c35
            replace H : ∃ y_ : List Int, Aside0 (y_ = (([] : List Int))) ∧ (if x8_3 ≤ (x5_1.length : Int) then ((some (x5_1.take (x8_3 : Int).toNat : List Int)).bind fun y159 => (if y_.length + y159.length < 17592186044416 then ((some (y_ ++ y159 : List Int)).bind fun y163 => ((some (([x7_6] : List Int) : List Int)).bind fun y166 => (if y163.length + y166.length < 17592186044416 then ((some (y163 ++ y166 : List Int)).bind fun y169 => ((some (x5_1.drop (x8_3 : Int).toNat : List Int)).bind fun y172 => (if y169.length + y172.length < 17592186044416 then (spec_NeighborsIn.l0 k3 l0 a1 (y169 ++ y172) (wrap64 (x6_1 + 1))) else (none)))) else (none)))) else (none))) else (none)) = some r := ⟨_, ⟨rfl⟩, yh_ H⟩
            obtain ⟨y156, Ny156, H⟩ := H
            have c37b0 := eq_true (od_ : 0 ≤ x8_3)
            replace H := ifn_ H
            obtain ⟨c38, H⟩ := H
            have c38b0 := eq_true c38
            have c38b1 := decide_eq_true c38
            clear c38
            replace H : ∃ y_ : List Int, Aside0 (y_ = (x5_1.take (x8_3 : Int).toNat)) ∧ (if y156.length + y_.length < 17592186044416 then ((some (y156 ++ y_ : List Int)).bind fun y163 => ((some (([x7_6] : List Int) : List Int)).bind fun y166 => (if y163.length + y166.length < 17592186044416 then ((some (y163 ++ y166 : List Int)).bind fun y169 => ((some (x5_1.drop (x8_3 : Int).toNat : List Int)).bind fun y172 => (if y169.length + y172.length < 17592186044416 then (spec_NeighborsIn.l0 k3 l0 a1 (y169 ++ y172) (wrap64 (x6_1 + 1))) else (none)))) else (none)))) else (none)) = some r := ⟨_, ⟨rfl⟩, yh_ H⟩
            obtain ⟨y159, Ny159, H⟩ := H
            replace H := ifn_ H
            obtain ⟨c39, H⟩ := H
            have LMc39 := Aside0.mk c39
            clear c39
            replace H : ∃ y_ : List Int, Aside0 (y_ = (y156 ++ y159)) ∧ ((some (([x7_6] : List Int) : List Int)).bind fun y166 => (if y_.length + y166.length < 17592186044416 then ((some (y_ ++ y166 : List Int)).bind fun y169 => ((some (x5_1.drop (x8_3 : Int).toNat : List Int)).bind fun y172 => (if y169.length + y172.length < 17592186044416 then (spec_NeighborsIn.l0 k3 l0 a1 (y169 ++ y172) (wrap64 (x6_1 + 1))) else (none)))) else (none))) = some r := ⟨_, ⟨rfl⟩, yh_ H⟩
            obtain ⟨y163, Ny163, H⟩ := H
            replace H : ∃ y_ : List Int, Aside0 (y_ = (([x7_6] : List Int))) ∧ (if y163.length + y_.length < 17592186044416 then ((some (y163 ++ y_ : List Int)).bind fun y169 => ((some (x5_1.drop (x8_3 : Int).toNat : List Int)).bind fun y172 => (if y169.length + y172.length < 17592186044416 then (spec_NeighborsIn.l0 k3 l0 a1 (y169 ++ y172) (wrap64 (x6_1 + 1))) else (none)))) else (none)) = some r := ⟨_, ⟨rfl⟩, yh_ H⟩
            obtain ⟨y166, Ny166, H⟩ := H
            replace H := ifn_ H
            obtain ⟨c40, H⟩ := H
            have LMc40 := Aside0.mk c40
            clear c40
            replace H : ∃ y_ : List Int, Aside0 (y_ = (y163 ++ y166)) ∧ ((some (x5_1.drop (x8_3 : Int).toNat : List Int)).bind fun y172 => (if y_.length + y172.length < 17592186044416 then (spec_NeighborsIn.l0 k3 l0 a1 (y_ ++ y172) (wrap64 (x6_1 + 1))) else (none))) = some r := ⟨_, ⟨rfl⟩, yh_ H⟩
            obtain ⟨y169, Ny169, H⟩ := H
            have c41b0 := eq_true (od_ : 0 ≤ x8_3)
            have c42b0 := eq_true (od_ : x8_3 ≤ (x5_1.length : Int))
            replace H : ∃ y_ : List Int, Aside0 (y_ = (x5_1.drop (x8_3 : Int).toNat)) ∧ (if y169.length + y_.length < 17592186044416 then (spec_NeighborsIn.l0 k3 l0 a1 (y169 ++ y_) (wrap64 (x6_1 + 1))) else (none)) = some r := ⟨_, ⟨rfl⟩, yh_ H⟩
            obtain ⟨y172, Ny172, H⟩ := H
            replace H := ifn_ H
            obtain ⟨c43, H⟩ := H
            have LMc43 := Aside0.mk c43
            clear c43
            replace H : ∃ y_ : List Int, Aside0 (y_ = (y169 ++ y172)) ∧ (spec_NeighborsIn.l0 k3 l0 a1 y_ (wrap64 (x6_1 + 1))) = some r := ⟨_, ⟨rfl⟩, yh_ H⟩
            obtain ⟨y176, Ny176, H⟩ := H
            have H' := Aside0.mk H
            clear H
            obtain ⟨Ao44, co44, eo44⟩ := Kd.R_slice HO_5.out
            subst eo44
            have p131 : 0 ≤ (x8_3 : Int) := od_
            have q131 : x8_3 < (x5_1.length : Int) := od_
            obtain ⟨ad131, e131, hx131_0⟩ := Kd.at_int (Kd.R_reads' HO_5.out).2.2 x8_3 p131 q131
            cases e131
            replace p131 := eq_true p131
            replace q131 := eq_true q131
            have p155 : 0 ≤ (x8_3 : Int) := od_
            have q155 : x8_3 < (x5_1.length : Int) := od_
            obtain ⟨ad155, e155, hx155_0⟩ := Kd.at_int (Kd.R_reads' HO_5.out).2.2 x8_3 p155 q155
            obtain rfl : ad131 = ad155 := (by injection e155)
            replace p155 := eq_true p155
            replace q155 := eq_true q155
            try go_wp2
            refine sh2_ (Kd.R_drew HO_5.out) (below_drew1 HB.out) ?_
            clear HO_5 HB
            intro HO_5 HB
            have q46 : (x8_3 : Int) ≤ ((x5_1.length : Int) : Int) := od_
            obtain ⟨i046, hi046, _, hsz46, _⟩ := info_parts info3
            have hroom46 : x5_1.length ≤ co44 := (Kd.R_reads' HO_5.out).2.1
            have hC46 : Kd.C (Kd.int .i64) _ (some ad131) x5_1.length x5_1 := (Kd.R_reads' HO_5.out).2.2
            have hcut46 := cut_to (P := Try.prog) 24 3 .i64 Try.underlying24 hi046 (some ad131) x5_1.length co44 x8_3 od_ q46 hroom46
            have hr46 := Kd.C_take (m := (x8_3 : Int).toNat) hC46 (by omega)
            have hy46 : y159.length = (x8_3 : Int).toNat := (by rw [Ny159.out, List.length_take]; omega)
            rw [← Ny159.out] at hr46
            rw [← hy46] at hcut46
            have HR162 := Aside0.mk hr46
            have HC162 := Aside0.mk (show y159.length ≤ co44 from by omega)
            clear hr46 hC46 hroom46 hi046 hsz46
            have KY46 := Aside0.mk hy46
            clear hy46
            have KL46 := Aside0.mk (show (x8_3 : Int).toNat ≤ x5_1.length from by omega)
            replace q46 := eq_true q46
            have q47 : (x8_3 : Int) ≤ ((x5_1.length : Int) : Int) := od_
            obtain ⟨i047, hi047, _, hsz47, _⟩ := info_parts info3
            have hroom47 : x5_1.length ≤ co44 := (Kd.R_reads' HO_5.out).2.1
            have hC47 : Kd.C (Kd.int .i64) _ (some ad131) x5_1.length x5_1 := (Kd.R_reads' HO_5.out).2.2
            have q047 : (0 : Int) ≤ (x8_3 : Int) := od_
            have hcut47 := cut_from (P := Try.prog) 24 3 .i64 Try.underlying24 hi047 1 hsz47 (some ad131) x5_1.length co44 x8_3 q047 q47
            have hr47 := Kd.C_drop (m := (x8_3 : Int).toNat) (c := co44) hC47 (by omega) hroom47
            obtain ⟨A47, hA47⟩ : ∃ A1, A1 = (if co44 = (x8_3 : Int).toNat then (some ad131) else ((some ad131) : Option Addr).map (·.add ((x8_3 : Int).toNat * 1))) := ⟨_, rfl⟩
            obtain ⟨c47, hc47⟩ : ∃ c1, c1 = co44 - (x8_3 : Int).toNat := ⟨_, rfl⟩
            have hy47 : y172.length = x5_1.length - (x8_3 : Int).toNat := (by rw [Ny172.out, List.length_drop] <;> omega)
            rw [show (x5_1).drop (x8_3 : Int).toNat = y172 from Ny172.out.symm] at hr47
            replace hr47 : Kd.C (Kd.int .i64) _ A47 y172.length y172 := (by rw [hA47]; exact hr47)
            rw [← hy47, ← hA47, ← hc47] at hcut47
            have HR175 := Aside0.mk hr47
            have HC175 := Aside0.mk (show y172.length ≤ c47 from by rw [hy47, hc47]; exact Nat.sub_le_sub_right hroom47 _)
            clear hr47 hC47 hroom47 hi047 hsz47 hc47
            have KY47 := Aside0.mk hy47
            have KA47 := Aside0.mk hA47
            clear hy47 hA47
            have KL47 := Aside0.mk (show (x8_3 : Int).toNat ≤ x5_1.length from by omega)
            replace q47 := eq_true q47
            refine start_ (n := 13) (S := fun w' => True) (ds := []) #[false, false, false, false, false, false, false, false, false, false, false, false, false] (by kernel_rfl) rfl rfl trivial (fun hHeld => ?_); refine with_tabW spec_NeighborsIn.tab14 spec_NeighborsIn.bits14 (fun HT_ HW_ => ?_)
            generalize wr.drew = w45 at HO_5 HB HR162 HR175 hHeld ⊢
            refine pur_ 1 #[false, true, false, false, false, false, false, false, false, false, false, false, false] (some 67) HT_ ?_
            refine pur_ 2 #[false, true, true, false, false, false, false, false, false, false, false, false, false] (some 68) HT_ ?_
            refine pur_ 3 #[false, true, true, true, false, false, false, false, false, false, false, false, false] (some 69) HT_ ?_
            refine pur_ 5 #[false, true, true, true, false, true, false, false, false, false, false, false, false] (some 71) HT_ ?_
            refine pur_ 8 #[false, true, true, true, false, true, false, false, true, false, false, false, false] (some 74) HT_ ?_
            refine pur_ 9 #[false, true, true, true, false, true, false, false, true, true, false, false, false] (some 75) HT_ ?_
            refine pur_ 10 #[false, true, true, true, false, true, false, false, true, true, true, false, false] (some 76) HT_ ?_
            refine join_ (σ := Value × Value × Value) 3 #[true, true, true, true, true, true, true, false, true, true, true, false, false] (fun s_ => [(66, s_.1), (70, s_.2.1), (72, s_.2.2)]) (fun s_ w' => (Kd.R (Kd.int .i64) 3 w' w.heap.size (fun k_ => some k_ ≠ (s_.2.2 : Value).ownBlock ∧ some k_ ≠ (.slice (some ad131) x5_1.length co44 : Value).ownBlock) s_.2.1 y163) ∧ (Kd.R (Kd.int .i64) 3 w' w.heap.size (fun k_ => some k_ ≠ (s_.2.1 : Value).ownBlock ∧ some k_ ≠ (.slice (some ad131) x5_1.length co44 : Value).ownBlock) s_.2.2 y166) ∧ (Kd.R (Kd.int .i64) 3 w' w.heap.size (fun k_ => some k_ ≠ (s_.2.1 : Value).ownBlock ∧ some k_ ≠ (s_.2.2 : Value).ownBlock) (.slice (some ad131) x5_1.length co44) x5_1) ∧ (Below w.heap.size w w')) ?_ ?_
            rotate_left
            ·intro hCont
             refine two_ (i := 0) (j := 6) (Ni := some 66) (Nj := some 72) #[true, true, true, true, false, true, false, false, true, true, true, false, false] #[false, true, true, true, false, true, true, false, true, true, true, false, false] rfl rfl rfl rfl (two_of HT_.out (by kernel_rfl)) (by decide) (by decide) (fun K hK => ?_) (fun K hK => ?_)
             ·skip
              refine Kd.R_lit_step (Kd.int .i64) _ 3 ?hg (N := 66) ?hd (xs := ([] : List Int)) (inner := []) (ok := fun _ => True) (okp := fun _ => True) ?hr ?hp (fun _ hk => hk) trivial (Below.refl _ _) (Nat.le_refl _) (by simp) ?_; (case hd => rfl); (case hg => rfl); (case hr => first | (go_simp; done) | (go_simp; rfl)); (case hp => exact (Reps.none _ _))
              intro v157 w48 ho49 hb hg_ hnew_
              clear hg_ hnew_
              (first | rw [← Ny156.out] at ho49 | (simp only [Int.reduceToNat] at ho49; rw [← Ny156.out] at ho49))
              refine sh5_ (Kd.R_elder' (ra_ HO_5) (Kd.R_base ho49) hb) (Kd.R_lower (Kd.R_new' ho49 (Kd.R_lt (ra_ HO_5))) (below_size (bl_ HB))) (Kd.C_below (by repeat (first | (with_reducible exact HR162.out) | (with_reducible refine Kd.C_alloc ?_ _) | (with_reducible refine Kd.C_drewN ?_ _) | (with_reducible refine Kd.C_drew ?_) | exact HR162.out)) hb) (Kd.C_below (by repeat (first | (with_reducible exact HR175.out) | (with_reducible refine Kd.C_alloc ?_ _) | (with_reducible refine Kd.C_drewN ?_ _) | (with_reducible refine Kd.C_drew ?_) | exact HR175.out)) hb) (below_step (bl_ HB) hb) ?_
              clear HO_5 HR162 HR175 HB hb ho49
              intro HO_5 HO158 HR162 HR175 HB
              refine hK.out _ _ trivial (fun hHeld => ?_)
              clear hK K
              refine norm_ (a' := ?_) ?_ ?_
              rotate_left
              ·show Act.put _ (some 66) _ = _
               simp only [Act.put, List.setIfInBounds_toArray, List.set_cons_zero, List.set_cons_succ, i64_w, i32_w]
               rfl
              refine two_ (i := 4) (j := 6) (Ni := some 70) (Nj := some 72) #[true, true, true, true, true, true, false, false, true, true, true, false, false] #[true, true, true, true, false, true, true, false, true, true, true, false, false] rfl rfl rfl rfl (two_of HT_.out (by kernel_rfl)) (by decide) (by decide) (fun K hK => ?_) (fun K hK => ?_)
              ·skip
               refine Kd.R_append_rows_step (Kd.int .i64) (w0 := w) w.heap.size (by rfl) (.tmp 66) (.tmp 69) 24 3 (.int .i64 0) 8 rfl Try.underlying24 info3 rfl (by decide) (by omega) v157 y156 y159 _ _ _ (fun k_ => some k_ ≠ (.slice (some ad131) x5_1.length co44 : Value).ownBlock) (fun _ => False) rfl rfl ?aO ?aR (fun _ _ h => h) (fun _ h => h.elim) ?aF ?aB ?aS ?aL ?_
               (case aR => repeat (first | exact (by repeat (first | (with_reducible exact HR162.out) | (with_reducible refine Kd.C_alloc ?_ _) | (with_reducible refine Kd.C_drewN ?_ _) | (with_reducible refine Kd.C_drew ?_) | exact HR162.out)) | (with_reducible refine Kd.C_alloc ?_ _) | (with_reducible refine Kd.C_drewN ?_ _) | (with_reducible refine Kd.C_drew ?_)))
               (case aB => exact (bl_ HB))
               (case aF => exact (fun k_ hk => Kd.fresh' (Kd.R_lt (ra_ HO_5)) k_ hk))
               (case aO => exact (by (with_reducible repeat (first | apply Kd.R_alloc | apply Kd.R_drewN | apply Kd.R_drew)); exact Kd.R_mono HO158.out (fun _ hk => hk.2)))
               (case aS => exact (below_size (bl_ HB)))
               (case aL => have := LMc39.out; omega)
               intro v164 w50 ho hb hg hat
               rw [← Ny163.out] at ho
               refine sh5_ (Kd.R_after (ok := (fun _ => True)) (ra_ HO_5) hg hat) hb ((show Kd.C (Kd.int .i64) w50 (some ad131) y159.length y159 from by rw [Ny159.out]; exact Kd.C_take (m := (x8_3 : Int).toNat) ((Kd.R_reads' (Kd.R_after (ok := (fun _ => True)) (ra_ HO_5) hg hat)).2.2) KL46.out)) ((show Kd.C (Kd.int .i64) w50 A47 y172.length y172 from by rw [Ny172.out, KA47.out]; exact Kd.C_drop (m := (x8_3 : Int).toNat) (c := co44) ((Kd.R_reads' (Kd.R_after (ok := (fun _ => True)) (ra_ HO_5) hg hat)).2.2) KL47.out ((Kd.R_reads' (Kd.R_after (ok := (fun _ => True)) (ra_ HO_5) hg hat)).2.1))) ho ?_
               clear HO_5 HB HR162 HR175 HO158 ho hb hg hat
               intro HO_5 HB HR162 HR175 HO165
               refine hK.out _ _ trivial (fun hHeld => ?_)
               clear hK K
               refine norm_ (a' := ?_) ?_ ?_
               rotate_left
               ·show Act.put _ (some 70) _ = _
                simp only [Act.put, List.setIfInBounds_toArray, List.set_cons_zero, List.set_cons_succ, i64_w, i32_w]
                rfl
               refine one_ (i := 6) (N := some 72) #[true, true, true, true, true, true, true, false, true, true, true, false, false] rfl rfl (one_of HT_.out (by kernel_rfl)) (by decide) (fun K hK => ?_)
               refine Kd.R_lit_step (Kd.int .i64) _ 3 ?hg (N := 72) ?hd (xs := ([x7_6] : List Int)) (inner := [.int .i64 x7_6]) (ok := fun _ => True) (okp := fun _ => True) ?hr ?hp (fun _ hk => hk) trivial (Below.refl _ _) (Nat.le_refl _) (by simp) ?_; (case hd => rfl); (case hg => rfl); (case hr => first | (go_simp; done) | (go_simp; rfl)); (case hp => exact (Reps.one (show Kd.M (Kd.int .i64) _ _ _ x7_6 [.int .i64 x7_6] from rfl) (Reps.none _ _)))
               intro v167 w51 ho52 hb hg_ hnew_
               clear hg_ hnew_
               (first | rw [← Ny166.out] at ho52 | (simp only [Int.reduceToNat] at ho52; rw [← Ny166.out] at ho52))
               refine sh6_ (Kd.R_elder' (ra_ HO_5) (Kd.R_base ho52) hb) (Kd.R_elder' (ra_ HO165) (Kd.R_base ho52) hb) (Kd.R_lower (Kd.R_new' (Kd.R_new' ho52 (Kd.R_lt (ra_ HO_5))) (Kd.R_lt (ra_ HO165))) (below_size (bl_ HB))) (Kd.C_below (by repeat (first | (with_reducible exact HR162.out) | (with_reducible refine Kd.C_alloc ?_ _) | (with_reducible refine Kd.C_drewN ?_ _) | (with_reducible refine Kd.C_drew ?_) | exact HR162.out)) hb) (Kd.C_below (by repeat (first | (with_reducible exact HR175.out) | (with_reducible refine Kd.C_alloc ?_ _) | (with_reducible refine Kd.C_drewN ?_ _) | (with_reducible refine Kd.C_drew ?_) | exact HR175.out)) hb) (below_step (bl_ HB) hb) ?_
               clear HO_5 HO165 HR162 HR175 HB hb ho52
               intro HO_5 HO165 HO168 HR162 HR175 HB
               refine hK.out _ _ trivial (fun hHeld => ?_)
               clear hK K
               refine norm_ (a' := ?_) ?_ ?_
               rotate_left
               ·show Act.put _ (some 72) _ = _
                simp only [Act.put, List.setIfInBounds_toArray, List.set_cons_zero, List.set_cons_succ, i64_w, i32_w]
                rfl
               exact norm_ (by simp only [putAll, Act.put, List.setIfInBounds_toArray, List.set_cons_zero, List.set_cons_succ]) (hCont (v157, v164, v167) _ ⟨(by (with_reducible repeat (first | apply Kd.R_alloc | apply Kd.R_drewN | apply Kd.R_drew)); exact Kd.R_mono HO165.out (fun _ hk => ⟨hk.2, hk.1⟩)), (by (with_reducible repeat (first | apply Kd.R_alloc | apply Kd.R_drewN | apply Kd.R_drew)); exact Kd.R_mono HO168.out (fun _ hk => ⟨hk.2, hk.1.2⟩)), (by (with_reducible repeat (first | apply Kd.R_alloc | apply Kd.R_drewN | apply Kd.R_drew)); exact Kd.R_mono HO_5.out (fun _ hk => ⟨hk.1.2, hk.2⟩)), (bl_ HB)⟩)
              ·skip
               refine Kd.R_lit_step (Kd.int .i64) _ 3 ?hg (N := 72) ?hd (xs := ([x7_6] : List Int)) (inner := [.int .i64 x7_6]) (ok := fun _ => True) (okp := fun _ => True) ?hr ?hp (fun _ hk => hk) trivial (Below.refl _ _) (Nat.le_refl _) (by simp) ?_; (case hd => rfl); (case hg => rfl); (case hr => first | (go_simp; done) | (go_simp; rfl)); (case hp => exact (Reps.one (show Kd.M (Kd.int .i64) _ _ _ x7_6 [.int .i64 x7_6] from rfl) (Reps.none _ _)))
               intro v167 w50 ho51 hb hg_ hnew_
               clear hg_ hnew_
               (first | rw [← Ny166.out] at ho51 | (simp only [Int.reduceToNat] at ho51; rw [← Ny166.out] at ho51))
               refine sh6_ (Kd.R_elder' (ra_ HO_5) (Kd.R_base ho51) hb) (Kd.R_elder' (ra_ HO158) (Kd.R_base ho51) hb) (Kd.R_lower (Kd.R_new' (Kd.R_new' ho51 (Kd.R_lt (ra_ HO_5))) (Kd.R_lt (ra_ HO158))) (below_size (bl_ HB))) (Kd.C_below (by repeat (first | (with_reducible exact HR162.out) | (with_reducible refine Kd.C_alloc ?_ _) | (with_reducible refine Kd.C_drewN ?_ _) | (with_reducible refine Kd.C_drew ?_) | exact HR162.out)) hb) (Kd.C_below (by repeat (first | (with_reducible exact HR175.out) | (with_reducible refine Kd.C_alloc ?_ _) | (with_reducible refine Kd.C_drewN ?_ _) | (with_reducible refine Kd.C_drew ?_) | exact HR175.out)) hb) (below_step (bl_ HB) hb) ?_
               clear HO_5 HO158 HR162 HR175 HB hb ho51
               intro HO_5 HO158 HO168 HR162 HR175 HB
               refine hK.out _ _ trivial (fun hHeld => ?_)
               clear hK K
               refine norm_ (a' := ?_) ?_ ?_
               rotate_left
               ·show Act.put _ (some 72) _ = _
                simp only [Act.put, List.setIfInBounds_toArray, List.set_cons_zero, List.set_cons_succ, i64_w, i32_w]
                rfl
               refine one_ (i := 4) (N := some 70) #[true, true, true, true, true, true, true, false, true, true, true, false, false] rfl rfl (one_of HT_.out (by kernel_rfl)) (by decide) (fun K hK => ?_)
               refine Kd.R_append_rows_step (Kd.int .i64) (w0 := w) w.heap.size (by rfl) (.tmp 66) (.tmp 69) 24 3 (.int .i64 0) 8 rfl Try.underlying24 info3 rfl (by decide) (by omega) v157 y156 y159 _ _ _ (fun k_ => some k_ ≠ (.slice (some ad131) x5_1.length co44 : Value).ownBlock ∧ some k_ ≠ (v167 : Value).ownBlock) (fun _ => False) rfl rfl ?aO ?aR (fun _ _ h => h) (fun _ h => h.elim) ?aF ?aB ?aS ?aL ?_
               (case aR => repeat (first | exact (by repeat (first | (with_reducible exact HR162.out) | (with_reducible refine Kd.C_alloc ?_ _) | (with_reducible refine Kd.C_drewN ?_ _) | (with_reducible refine Kd.C_drew ?_) | exact HR162.out)) | (with_reducible refine Kd.C_alloc ?_ _) | (with_reducible refine Kd.C_drewN ?_ _) | (with_reducible refine Kd.C_drew ?_)))
               (case aB => exact (bl_ HB))
               (case aF => exact (fun k_ hk => ⟨Kd.fresh' (Kd.R_lt (ra_ HO_5)) k_ hk, Kd.fresh' (Kd.R_lt (ra_ HO168)) k_ hk⟩))
               (case aO => exact (by (with_reducible repeat (first | apply Kd.R_alloc | apply Kd.R_drewN | apply Kd.R_drew)); exact Kd.R_mono HO158.out (fun _ hk => ⟨hk.1.2, hk.2⟩)))
               (case aS => exact (below_size (bl_ HB)))
               (case aL => have := LMc39.out; omega)
               intro v164 w52 ho hb hg hat
               rw [← Ny163.out] at ho
               refine sh6_ (Kd.R_after (ok := (fun k_ => some k_ ≠ (v167 : Value).ownBlock)) (by (with_reducible repeat (first | apply Kd.R_alloc | apply Kd.R_drewN | apply Kd.R_drew)); exact Kd.R_mono HO_5.out (fun _ hk => ⟨hk.2, hk.1.2⟩)) hg hat) (Kd.R_after (ok := (fun k_ => some k_ ≠ (.slice (some ad131) x5_1.length co44 : Value).ownBlock)) (by (with_reducible repeat (first | apply Kd.R_alloc | apply Kd.R_drewN | apply Kd.R_drew)); exact Kd.R_mono HO168.out (fun _ hk => ⟨hk.1.2, hk.2⟩)) hg hat) hb ((show Kd.C (Kd.int .i64) w52 (some ad131) y159.length y159 from by rw [Ny159.out]; exact Kd.C_take (m := (x8_3 : Int).toNat) ((Kd.R_reads' (Kd.R_after (ok := (fun k_ => some k_ ≠ (v167 : Value).ownBlock)) (by (with_reducible repeat (first | apply Kd.R_alloc | apply Kd.R_drewN | apply Kd.R_drew)); exact Kd.R_mono HO_5.out (fun _ hk => ⟨hk.2, hk.1.2⟩)) hg hat)).2.2) KL46.out)) ((show Kd.C (Kd.int .i64) w52 A47 y172.length y172 from by rw [Ny172.out, KA47.out]; exact Kd.C_drop (m := (x8_3 : Int).toNat) (c := co44) ((Kd.R_reads' (Kd.R_after (ok := (fun k_ => some k_ ≠ (v167 : Value).ownBlock)) (by (with_reducible repeat (first | apply Kd.R_alloc | apply Kd.R_drewN | apply Kd.R_drew)); exact Kd.R_mono HO_5.out (fun _ hk => ⟨hk.2, hk.1.2⟩)) hg hat)).2.2) KL47.out ((Kd.R_reads' (Kd.R_after (ok := (fun k_ => some k_ ≠ (v167 : Value).ownBlock)) (by (with_reducible repeat (first | apply Kd.R_alloc | apply Kd.R_drewN | apply Kd.R_drew)); exact Kd.R_mono HO_5.out (fun _ hk => ⟨hk.2, hk.1.2⟩)) hg hat)).2.1))) ho ?_
               clear HO_5 HO168 HB HR162 HR175 HO158 ho hb hg hat
               intro HO_5 HO168 HB HR162 HR175 HO165
               refine hK.out _ _ trivial (fun hHeld => ?_)
               clear hK K
               refine norm_ (a' := ?_) ?_ ?_
               rotate_left
               ·show Act.put _ (some 70) _ = _
                simp only [Act.put, List.setIfInBounds_toArray, List.set_cons_zero, List.set_cons_succ, i64_w, i32_w]
                rfl
               exact norm_ (by simp only [putAll, Act.put, List.setIfInBounds_toArray, List.set_cons_zero, List.set_cons_succ]) (hCont (v157, v164, v167) _ ⟨(by (with_reducible repeat (first | apply Kd.R_alloc | apply Kd.R_drewN | apply Kd.R_drew)); exact Kd.R_mono HO165.out (fun _ hk => ⟨hk.2, hk.1⟩)), (by (with_reducible repeat (first | apply Kd.R_alloc | apply Kd.R_drewN | apply Kd.R_drew)); exact Kd.R_mono HO168.out (fun _ hk => ⟨hk.2, hk.1⟩)), (by (with_reducible repeat (first | apply Kd.R_alloc | apply Kd.R_drewN | apply Kd.R_drew)); exact Kd.R_mono HO_5.out (fun _ hk => ⟨hk.2, hk.1⟩)), (bl_ HB)⟩)
             ·skip
              refine Kd.R_lit_step (Kd.int .i64) _ 3 ?hg (N := 72) ?hd (xs := ([x7_6] : List Int)) (inner := [.int .i64 x7_6]) (ok := fun _ => True) (okp := fun _ => True) ?hr ?hp (fun _ hk => hk) trivial (Below.refl _ _) (Nat.le_refl _) (by simp) ?_; (case hd => rfl); (case hg => rfl); (case hr => first | (go_simp; done) | (go_simp; rfl)); (case hp => exact (Reps.one (show Kd.M (Kd.int .i64) _ _ _ x7_6 [.int .i64 x7_6] from rfl) (Reps.none _ _)))
              intro v167 w48 ho49 hb hg_ hnew_
              clear hg_ hnew_
              (first | rw [← Ny166.out] at ho49 | (simp only [Int.reduceToNat] at ho49; rw [← Ny166.out] at ho49))
              refine sh5_ (Kd.R_elder' (ra_ HO_5) (Kd.R_base ho49) hb) (Kd.R_lower (Kd.R_new' ho49 (Kd.R_lt (ra_ HO_5))) (below_size (bl_ HB))) (Kd.C_below (by repeat (first | (with_reducible exact HR162.out) | (with_reducible refine Kd.C_alloc ?_ _) | (with_reducible refine Kd.C_drewN ?_ _) | (with_reducible refine Kd.C_drew ?_) | exact HR162.out)) hb) (Kd.C_below (by repeat (first | (with_reducible exact HR175.out) | (with_reducible refine Kd.C_alloc ?_ _) | (with_reducible refine Kd.C_drewN ?_ _) | (with_reducible refine Kd.C_drew ?_) | exact HR175.out)) hb) (below_step (bl_ HB) hb) ?_
              clear HO_5 HR162 HR175 HB hb ho49
              intro HO_5 HO168 HR162 HR175 HB
              refine hK.out _ _ trivial (fun hHeld => ?_)
              clear hK K
              refine norm_ (a' := ?_) ?_ ?_
              rotate_left
              ·show Act.put _ (some 72) _ = _
               simp only [Act.put, List.setIfInBounds_toArray, List.set_cons_zero, List.set_cons_succ, i64_w, i32_w]
               rfl
              refine one_ (i := 0) (N := some 66) #[true, true, true, true, false, true, true, false, true, true, true, false, false] rfl rfl (one_of HT_.out (by kernel_rfl)) (by decide) (fun K hK => ?_)
              refine Kd.R_lit_step (Kd.int .i64) _ 3 ?hg (N := 66) ?hd (xs := ([] : List Int)) (inner := []) (ok := fun _ => True) (okp := fun _ => True) ?hr ?hp (fun _ hk => hk) trivial (Below.refl _ _) (Nat.le_refl _) (by simp) ?_; (case hd => rfl); (case hg => rfl); (case hr => first | (go_simp; done) | (go_simp; rfl)); (case hp => exact (Reps.none _ _))
              intro v157 w50 ho51 hb hg_ hnew_
              clear hg_ hnew_
              (first | rw [← Ny156.out] at ho51 | (simp only [Int.reduceToNat] at ho51; rw [← Ny156.out] at ho51))
              refine sh6_ (Kd.R_elder' (ra_ HO_5) (Kd.R_base ho51) hb) (Kd.R_elder' (ra_ HO168) (Kd.R_base ho51) hb) (Kd.R_lower (Kd.R_new' (Kd.R_new' ho51 (Kd.R_lt (ra_ HO_5))) (Kd.R_lt (ra_ HO168))) (below_size (bl_ HB))) (Kd.C_below (by repeat (first | (with_reducible exact HR162.out) | (with_reducible refine Kd.C_alloc ?_ _) | (with_reducible refine Kd.C_drewN ?_ _) | (with_reducible refine Kd.C_drew ?_) | exact HR162.out)) hb) (Kd.C_below (by repeat (first | (with_reducible exact HR175.out) | (with_reducible refine Kd.C_alloc ?_ _) | (with_reducible refine Kd.C_drewN ?_ _) | (with_reducible refine Kd.C_drew ?_) | exact HR175.out)) hb) (below_step (bl_ HB) hb) ?_
              clear HO_5 HO168 HR162 HR175 HB hb ho51
              intro HO_5 HO168 HO158 HR162 HR175 HB
              refine hK.out _ _ trivial (fun hHeld => ?_)
              clear hK K
              refine norm_ (a' := ?_) ?_ ?_
              rotate_left
              ·show Act.put _ (some 66) _ = _
               simp only [Act.put, List.setIfInBounds_toArray, List.set_cons_zero, List.set_cons_succ, i64_w, i32_w]
               rfl
              refine one_ (i := 4) (N := some 70) #[true, true, true, true, true, true, true, false, true, true, true, false, false] rfl rfl (one_of HT_.out (by kernel_rfl)) (by decide) (fun K hK => ?_)
              refine Kd.R_append_rows_step (Kd.int .i64) (w0 := w) w.heap.size (by rfl) (.tmp 66) (.tmp 69) 24 3 (.int .i64 0) 8 rfl Try.underlying24 info3 rfl (by decide) (by omega) v157 y156 y159 _ _ _ (fun k_ => some k_ ≠ (.slice (some ad131) x5_1.length co44 : Value).ownBlock ∧ some k_ ≠ (v167 : Value).ownBlock) (fun _ => False) rfl rfl ?aO ?aR (fun _ _ h => h) (fun _ h => h.elim) ?aF ?aB ?aS ?aL ?_
              (case aR => repeat (first | exact (by repeat (first | (with_reducible exact HR162.out) | (with_reducible refine Kd.C_alloc ?_ _) | (with_reducible refine Kd.C_drewN ?_ _) | (with_reducible refine Kd.C_drew ?_) | exact HR162.out)) | (with_reducible refine Kd.C_alloc ?_ _) | (with_reducible refine Kd.C_drewN ?_ _) | (with_reducible refine Kd.C_drew ?_)))
              (case aB => exact (bl_ HB))
              (case aF => exact (fun k_ hk => ⟨Kd.fresh' (Kd.R_lt (ra_ HO_5)) k_ hk, Kd.fresh' (Kd.R_lt (ra_ HO168)) k_ hk⟩))
              (case aO => exact (by (with_reducible repeat (first | apply Kd.R_alloc | apply Kd.R_drewN | apply Kd.R_drew)); exact Kd.R_mono HO158.out (fun _ hk => ⟨hk.1.2, hk.2⟩)))
              (case aS => exact (below_size (bl_ HB)))
              (case aL => have := LMc39.out; omega)
              intro v164 w52 ho hb hg hat
              rw [← Ny163.out] at ho
              refine sh6_ (Kd.R_after (ok := (fun k_ => some k_ ≠ (v167 : Value).ownBlock)) (by (with_reducible repeat (first | apply Kd.R_alloc | apply Kd.R_drewN | apply Kd.R_drew)); exact Kd.R_mono HO_5.out (fun _ hk => ⟨hk.1.2, hk.2⟩)) hg hat) (Kd.R_after (ok := (fun k_ => some k_ ≠ (.slice (some ad131) x5_1.length co44 : Value).ownBlock)) (by (with_reducible repeat (first | apply Kd.R_alloc | apply Kd.R_drewN | apply Kd.R_drew)); exact Kd.R_mono HO168.out (fun _ hk => ⟨hk.1.2, hk.2⟩)) hg hat) hb ((show Kd.C (Kd.int .i64) w52 (some ad131) y159.length y159 from by rw [Ny159.out]; exact Kd.C_take (m := (x8_3 : Int).toNat) ((Kd.R_reads' (Kd.R_after (ok := (fun k_ => some k_ ≠ (v167 : Value).ownBlock)) (by (with_reducible repeat (first | apply Kd.R_alloc | apply Kd.R_drewN | apply Kd.R_drew)); exact Kd.R_mono HO_5.out (fun _ hk => ⟨hk.1.2, hk.2⟩)) hg hat)).2.2) KL46.out)) ((show Kd.C (Kd.int .i64) w52 A47 y172.length y172 from by rw [Ny172.out, KA47.out]; exact Kd.C_drop (m := (x8_3 : Int).toNat) (c := co44) ((Kd.R_reads' (Kd.R_after (ok := (fun k_ => some k_ ≠ (v167 : Value).ownBlock)) (by (with_reducible repeat (first | apply Kd.R_alloc | apply Kd.R_drewN | apply Kd.R_drew)); exact Kd.R_mono HO_5.out (fun _ hk => ⟨hk.1.2, hk.2⟩)) hg hat)).2.2) KL47.out ((Kd.R_reads' (Kd.R_after (ok := (fun k_ => some k_ ≠ (v167 : Value).ownBlock)) (by (with_reducible repeat (first | apply Kd.R_alloc | apply Kd.R_drewN | apply Kd.R_drew)); exact Kd.R_mono HO_5.out (fun _ hk => ⟨hk.1.2, hk.2⟩)) hg hat)).2.1))) ho ?_
              clear HO_5 HO168 HB HR162 HR175 HO158 ho hb hg hat
              intro HO_5 HO168 HB HR162 HR175 HO165
              refine hK.out _ _ trivial (fun hHeld => ?_)
              clear hK K
              refine norm_ (a' := ?_) ?_ ?_
              rotate_left
              ·show Act.put _ (some 70) _ = _
               simp only [Act.put, List.setIfInBounds_toArray, List.set_cons_zero, List.set_cons_succ, i64_w, i32_w]
               rfl
              exact norm_ (by simp only [putAll, Act.put, List.setIfInBounds_toArray, List.set_cons_zero, List.set_cons_succ]) (hCont (v157, v164, v167) _ ⟨(by (with_reducible repeat (first | apply Kd.R_alloc | apply Kd.R_drewN | apply Kd.R_drew)); exact Kd.R_mono HO165.out (fun _ hk => ⟨hk.2, hk.1⟩)), (by (with_reducible repeat (first | apply Kd.R_alloc | apply Kd.R_drewN | apply Kd.R_drew)); exact Kd.R_mono HO168.out (fun _ hk => ⟨hk.2, hk.1⟩)), (by (with_reducible repeat (first | apply Kd.R_alloc | apply Kd.R_drewN | apply Kd.R_drew)); exact Kd.R_mono HO_5.out (fun _ hk => ⟨hk.2, hk.1⟩)), (bl_ HB)⟩)
            rintro ⟨v157, v164, v167⟩ w53 ⟨h0_, h1_, h2_, h3_⟩
            have n0_ : Aside0 (Kd.R (Kd.int .i64) 3 w53 w.heap.size (fun k_ => some k_ ≠ (v167 : Value).ownBlock ∧ some k_ ≠ (.slice (some ad131) x5_1.length co44 : Value).ownBlock) v164 y163) := ⟨h0_⟩
            have n1_ : Aside0 (Kd.R (Kd.int .i64) 3 w53 w.heap.size (fun k_ => some k_ ≠ (v164 : Value).ownBlock ∧ some k_ ≠ (.slice (some ad131) x5_1.length co44 : Value).ownBlock) v167 y166) := ⟨h1_⟩
            have n2_ : Aside0 (Kd.R (Kd.int .i64) 3 w53 w.heap.size (fun k_ => some k_ ≠ (v164 : Value).ownBlock ∧ some k_ ≠ (v167 : Value).ownBlock) (.slice (some ad131) x5_1.length co44) x5_1) := ⟨h2_⟩
            have n3_ : Aside0 (Below w.heap.size w w53) := ⟨h3_⟩
            clear HO_5
            clear HB
            clear h0_ h1_ h2_ h3_
            have HO165 := n0_
            have HO168 := n1_
            have HO_5 := n2_
            have HB := n3_
            clear n0_ n1_ n2_ n3_
            have hHeld := trivial
            obtain ⟨Ao55, co55, eo55⟩ := Kd.R_slice HO168.out
            (first | subst eo55 | (injection eo55 with f1_ f2_ f3_; have f4_ := f1_.symm; have f5_ := f3_.symm; clear f1_ f2_ f3_; subst f4_; subst f5_))
            refine norm_ (a' := ?_) ?_ ?_
            rotate_left
            ·simp only [putAll, Act.put, List.setIfInBounds_toArray, List.set_cons_zero, List.set_cons_succ]
             rfl
            refine one_ (i := 7) (N := some 73) #[true, true, true, true, true, true, true, true, true, true, true, false, false] rfl rfl (one_of HT_.out (by kernel_rfl)) (by decide) (fun K hK => ?_)
            refine Kd.R_append_rows_step (Kd.int .i64) (w0 := w) w.heap.size (by rfl) (.tmp 70) (.tmp 72) 24 3 (.int .i64 0) 8 rfl Try.underlying24 info3 rfl (by decide) (by omega) v164 y163 y166 _ _ _ (fun k_ => some k_ ≠ (.slice (some ad131) x5_1.length co44 : Value).ownBlock ∧ some k_ ≠ (.slice Ao55 y166.length co55 : Value).ownBlock) (fun _ => False) rfl rfl ?aO ?aR (fun _ _ h => h) (fun _ h => h.elim) ?aF ?aB ?aS ?aL ?_
            (case aR => repeat (first | exact (Kd.R_reads' HO168.out).2.2 | (with_reducible refine Kd.C_alloc ?_ _) | (with_reducible refine Kd.C_drewN ?_ _) | (with_reducible refine Kd.C_drew ?_)))
            (case aB => exact (bl_ HB))
            (case aF => exact (fun k_ hk => ⟨Kd.fresh' (Kd.R_lt (ra_ HO_5)) k_ hk, Kd.fresh' (Kd.R_lt (ra_ HO168)) k_ hk⟩))
            (case aO => exact (by (with_reducible repeat (first | apply Kd.R_alloc | apply Kd.R_drewN | apply Kd.R_drew)); exact Kd.R_mono HO165.out (fun _ hk => ⟨hk.2, hk.1⟩)))
            (case aS => exact (below_size (bl_ HB)))
            (case aL => have := LMc40.out; omega)
            intro v170 w54 ho hb hg hat
            rw [← Ny169.out] at ho
            refine sh4_ (Kd.R_after (ok := (fun k_ => some k_ ≠ (.slice Ao55 y166.length co55 : Value).ownBlock)) (by (with_reducible repeat (first | apply Kd.R_alloc | apply Kd.R_drewN | apply Kd.R_drew)); exact Kd.R_mono HO_5.out (fun _ hk => ⟨hk.2, hk.1⟩)) hg hat) (Kd.R_after (ok := (fun k_ => some k_ ≠ (.slice (some ad131) x5_1.length co44 : Value).ownBlock)) (by (with_reducible repeat (first | apply Kd.R_alloc | apply Kd.R_drewN | apply Kd.R_drew)); exact Kd.R_mono HO168.out (fun _ hk => ⟨hk.2, hk.1⟩)) hg hat) hb ho ?_
            clear HO_5 HO168 HB HO165 ho hb hg hat
            intro HO_5 HO168 HB HO171
            refine hK.out _ _ trivial (fun hHeld => ?_)
            clear hK K
            refine norm_ (a' := ?_) ?_ ?_
            rotate_left
            ·show Act.put _ (some 73) _ = _
             simp only [Act.put, List.setIfInBounds_toArray, List.set_cons_zero, List.set_cons_succ, i64_w, i32_w]
             rfl
            refine one_ (i := 11) (N := some 77) #[true, true, true, true, true, true, true, true, true, true, true, true, false] rfl rfl (one_of HT_.out (by kernel_rfl)) (by decide) (fun K hK => ?_)
            refine Kd.R_append_rows_step (Kd.int .i64) (w0 := w) w.heap.size (by rfl) (.tmp 73) (.tmp 76) 24 3 (.int .i64 0) 8 rfl Try.underlying24 info3 rfl (by decide) (by omega) v170 y169 y172 _ _ _ (fun k_ => some k_ ≠ (.slice (some ad131) x5_1.length co44 : Value).ownBlock ∧ some k_ ≠ (.slice Ao55 y166.length co55 : Value).ownBlock) (fun _ => False) rfl rfl ?aO ?aR (fun _ _ h => h) (fun _ h => h.elim) ?aF ?aB ?aS ?aL ?_
            (case aR => rw [Ny172.out, KA47.out]; have h1_ := Kd.R_reads' HO_5.out; exact Kd.C_drop (m := (x8_3 : Int).toNat) (c := co44) h1_.2.2 KL47.out h1_.2.1)
            (case aB => exact (bl_ HB))
            (case aF => exact (fun k_ hk => ⟨Kd.fresh' (Kd.R_lt (ra_ HO_5)) k_ hk, Kd.fresh' (Kd.R_lt (ra_ HO168)) k_ hk⟩))
            (case aO => exact (ra_ HO171))
            (case aS => exact (below_size (bl_ HB)))
            (case aL => have := LMc43.out; omega)
            intro v177 w56 ho hb hg hat
            rw [← Ny176.out] at ho
            refine sh4_ (Kd.R_after (ok := (fun k_ => some k_ ≠ (.slice Ao55 y166.length co55 : Value).ownBlock)) (ra_ HO_5) hg hat) (Kd.R_after (ok := (fun k_ => some k_ ≠ (.slice (some ad131) x5_1.length co44 : Value).ownBlock)) (ra_ HO168) hg hat) hb ho ?_
            clear HO_5 HO168 HB HO171 ho hb hg hat
            intro HO_5 HO168 HB HO178
            refine hK.out _ _ trivial (fun hHeld => ?_)
            clear hK K
            refine norm_ (a' := ?_) ?_ ?_
            rotate_left
            ·show Act.put _ (some 77) _ = _
             simp only [Act.put, List.setIfInBounds_toArray, List.set_cons_zero, List.set_cons_succ, i64_w, i32_w]
             rfl
            refine pur_ 12 #[true, true, true, true, true, true, true, true, true, true, true, true, true] (some 5) HT_ ?_
            refine done_ (done_of HT_.out (by kernel_rfl)) ?_
            try go_wp2
            go_roundg k3
            case measure => have := HK1.out; have := HJ6.out; have := HK3.out; omega
            case rel => exact ⟨(y176), (wrap64 (x6_1 + 1)), (by first | rfl | (simp; done) | (simp [*]; done)), H', ⟨by have := HK1.out; have := HJ6.out; have := HK3.out; omega⟩, ⟨by (with_reducible repeat (first | apply Kd.R_alloc | apply Kd.R_drewN | apply Kd.R_drew)); exact Kd.R_mono HO178.out (fun _ hk => trivial)⟩, ⟨bl_ HB⟩⟩
        ·rw [if_neg c10] at H
         have c10b0 : decide (x8_3 < (x5_1.length : Int)) = false := decide_eq_false c10
         clear c10
         by_cases c57 : x8_3 = (x5_1.length : Int)
         ·rw [if_pos c57] at H
          obtain ⟨c57b0, c57b1⟩ := bt_ c57
          clear c57
          replace H : ∃ y_ : List Int, Aside0 (y_ = (([] : List Int))) ∧ (if 0 ≤ x8_3 then (if x8_3 ≤ (x5_1.length : Int) then ((some (x5_1.take (x8_3 : Int).toNat : List Int)).bind fun y182 => (if y_.length + y182.length < 17592186044416 then ((some (y_ ++ y182 : List Int)).bind fun y186 => ((some (([x7_6] : List Int) : List Int)).bind fun y189 => (if y186.length + y189.length < 17592186044416 then ((some (y186 ++ y189 : List Int)).bind fun y192 => ((some (x5_1.drop (x8_3 : Int).toNat : List Int)).bind fun y195 => (if y192.length + y195.length < 17592186044416 then (spec_NeighborsIn.l0 k3 l0 a1 (y192 ++ y195) (wrap64 (x6_1 + 1))) else (none)))) else (none)))) else (none))) else (none)) else (none)) = some r := ⟨_, ⟨rfl⟩, yh_ H⟩
          obtain ⟨y179, Ny179, H⟩ := H
          replace H := ifn_ H
          obtain ⟨c58, H⟩ := H
          have c58b0 := eq_true c58
          have c58b1 := decide_eq_true c58
          clear c58
          replace H := ifn_ H
          obtain ⟨c59, H⟩ := H
          have c59b0 := eq_true c59
          have c59b1 := decide_eq_true c59
          clear c59
          replace H : ∃ y_ : List Int, Aside0 (y_ = (x5_1.take (x8_3 : Int).toNat)) ∧ (if y179.length + y_.length < 17592186044416 then ((some (y179 ++ y_ : List Int)).bind fun y186 => ((some (([x7_6] : List Int) : List Int)).bind fun y189 => (if y186.length + y189.length < 17592186044416 then ((some (y186 ++ y189 : List Int)).bind fun y192 => ((some (x5_1.drop (x8_3 : Int).toNat : List Int)).bind fun y195 => (if y192.length + y195.length < 17592186044416 then (spec_NeighborsIn.l0 k3 l0 a1 (y192 ++ y195) (wrap64 (x6_1 + 1))) else (none)))) else (none)))) else (none)) = some r := ⟨_, ⟨rfl⟩, yh_ H⟩
          obtain ⟨y182, Ny182, H⟩ := H
          replace H := ifn_ H
          obtain ⟨c60, H⟩ := H
          have LMc60 := Aside0.mk c60
          clear c60
          replace H : ∃ y_ : List Int, Aside0 (y_ = (y179 ++ y182)) ∧ ((some (([x7_6] : List Int) : List Int)).bind fun y189 => (if y_.length + y189.length < 17592186044416 then ((some (y_ ++ y189 : List Int)).bind fun y192 => ((some (x5_1.drop (x8_3 : Int).toNat : List Int)).bind fun y195 => (if y192.length + y195.length < 17592186044416 then (spec_NeighborsIn.l0 k3 l0 a1 (y192 ++ y195) (wrap64 (x6_1 + 1))) else (none)))) else (none))) = some r := ⟨_, ⟨rfl⟩, yh_ H⟩
          obtain ⟨y186, Ny186, H⟩ := H
          replace H : ∃ y_ : List Int, Aside0 (y_ = (([x7_6] : List Int))) ∧ (if y186.length + y_.length < 17592186044416 then ((some (y186 ++ y_ : List Int)).bind fun y192 => ((some (x5_1.drop (x8_3 : Int).toNat : List Int)).bind fun y195 => (if y192.length + y195.length < 17592186044416 then (spec_NeighborsIn.l0 k3 l0 a1 (y192 ++ y195) (wrap64 (x6_1 + 1))) else (none)))) else (none)) = some r := ⟨_, ⟨rfl⟩, yh_ H⟩
          obtain ⟨y189, Ny189, H⟩ := H
          replace H := ifn_ H
          obtain ⟨c61, H⟩ := H
          have LMc61 := Aside0.mk c61
          clear c61
          replace H : ∃ y_ : List Int, Aside0 (y_ = (y186 ++ y189)) ∧ ((some (x5_1.drop (x8_3 : Int).toNat : List Int)).bind fun y195 => (if y_.length + y195.length < 17592186044416 then (spec_NeighborsIn.l0 k3 l0 a1 (y_ ++ y195) (wrap64 (x6_1 + 1))) else (none))) = some r := ⟨_, ⟨rfl⟩, yh_ H⟩
          obtain ⟨y192, Ny192, H⟩ := H
          have c62b0 := eq_true (od_ : 0 ≤ x8_3)
          have c63b0 := eq_true (od_ : x8_3 ≤ (x5_1.length : Int))
          replace H : ∃ y_ : List Int, Aside0 (y_ = (x5_1.drop (x8_3 : Int).toNat)) ∧ (if y192.length + y_.length < 17592186044416 then (spec_NeighborsIn.l0 k3 l0 a1 (y192 ++ y_) (wrap64 (x6_1 + 1))) else (none)) = some r := ⟨_, ⟨rfl⟩, yh_ H⟩
          obtain ⟨y195, Ny195, H⟩ := H
          replace H := ifn_ H
          obtain ⟨c64, H⟩ := H
          have LMc64 := Aside0.mk c64
          clear c64
          replace H : ∃ y_ : List Int, Aside0 (y_ = (y192 ++ y195)) ∧ (spec_NeighborsIn.l0 k3 l0 a1 y_ (wrap64 (x6_1 + 1))) = some r := ⟨_, ⟨rfl⟩, yh_ H⟩
          obtain ⟨y199, Ny199, H⟩ := H
          have H' := Aside0.mk H
          clear H
          obtain ⟨Ao65, co65, eo65⟩ := Kd.R_slice HO_5.out
          subst eo65
          try go_wp2
          refine sh2_ (Kd.R_drew HO_5.out) (below_drew1 HB.out) ?_
          clear HO_5 HB
          intro HO_5 HB
          have q67 : (x8_3 : Int) ≤ ((x5_1.length : Int) : Int) := od_
          obtain ⟨i067, hi067, _, hsz67, _⟩ := info_parts info3
          have hroom67 : x5_1.length ≤ co65 := (Kd.R_reads' HO_5.out).2.1
          have hC67 : Kd.C (Kd.int .i64) _ Ao65 x5_1.length x5_1 := (Kd.R_reads' HO_5.out).2.2
          have hcut67 := cut_to (P := Try.prog) 24 3 .i64 Try.underlying24 hi067 Ao65 x5_1.length co65 x8_3 od_ q67 hroom67
          have hr67 := Kd.C_take (m := (x8_3 : Int).toNat) hC67 (by omega)
          have hy67 : y182.length = (x8_3 : Int).toNat := (by rw [Ny182.out, List.length_take]; omega)
          rw [← Ny182.out] at hr67
          rw [← hy67] at hcut67
          have HR185 := Aside0.mk hr67
          have HC185 := Aside0.mk (show y182.length ≤ co65 from by omega)
          clear hr67 hC67 hroom67 hi067 hsz67
          have KY67 := Aside0.mk hy67
          clear hy67
          have KL67 := Aside0.mk (show (x8_3 : Int).toNat ≤ x5_1.length from by omega)
          replace q67 := eq_true q67
          have q68 : (x8_3 : Int) ≤ ((x5_1.length : Int) : Int) := od_
          obtain ⟨i068, hi068, _, hsz68, _⟩ := info_parts info3
          have hroom68 : x5_1.length ≤ co65 := (Kd.R_reads' HO_5.out).2.1
          have hC68 : Kd.C (Kd.int .i64) _ Ao65 x5_1.length x5_1 := (Kd.R_reads' HO_5.out).2.2
          have q068 : (0 : Int) ≤ (x8_3 : Int) := od_
          have hcut68 := cut_from (P := Try.prog) 24 3 .i64 Try.underlying24 hi068 1 hsz68 Ao65 x5_1.length co65 x8_3 q068 q68
          have hr68 := Kd.C_drop (m := (x8_3 : Int).toNat) (c := co65) hC68 (by omega) hroom68
          obtain ⟨A68, hA68⟩ : ∃ A1, A1 = (if co65 = (x8_3 : Int).toNat then Ao65 else (Ao65 : Option Addr).map (·.add ((x8_3 : Int).toNat * 1))) := ⟨_, rfl⟩
          obtain ⟨c68, hc68⟩ : ∃ c1, c1 = co65 - (x8_3 : Int).toNat := ⟨_, rfl⟩
          have hy68 : y195.length = x5_1.length - (x8_3 : Int).toNat := (by rw [Ny195.out, List.length_drop] <;> omega)
          rw [show (x5_1).drop (x8_3 : Int).toNat = y195 from Ny195.out.symm] at hr68
          replace hr68 : Kd.C (Kd.int .i64) _ A68 y195.length y195 := (by rw [hA68]; exact hr68)
          rw [← hy68, ← hA68, ← hc68] at hcut68
          have HR198 := Aside0.mk hr68
          have HC198 := Aside0.mk (show y195.length ≤ c68 from by rw [hy68, hc68]; exact Nat.sub_le_sub_right hroom68 _)
          clear hr68 hC68 hroom68 hi068 hsz68 hc68
          have KY68 := Aside0.mk hy68
          have KA68 := Aside0.mk hA68
          clear hy68 hA68
          have KL68 := Aside0.mk (show (x8_3 : Int).toNat ≤ x5_1.length from by omega)
          replace q68 := eq_true q68
          refine start_ (n := 13) (S := fun w' => True) (ds := []) #[false, false, false, false, false, false, false, false, false, false, false, false, false] (by kernel_rfl) rfl rfl trivial (fun hHeld => ?_); refine with_tabW spec_NeighborsIn.tab14 spec_NeighborsIn.bits14 (fun HT_ HW_ => ?_)
          generalize wr.drew = w66 at HO_5 HB HR185 HR198 hHeld ⊢
          refine pur_ 1 #[false, true, false, false, false, false, false, false, false, false, false, false, false] (some 67) HT_ ?_
          refine pur_ 2 #[false, true, true, false, false, false, false, false, false, false, false, false, false] (some 68) HT_ ?_
          refine pur_ 3 #[false, true, true, true, false, false, false, false, false, false, false, false, false] (some 69) HT_ ?_
          refine pur_ 5 #[false, true, true, true, false, true, false, false, false, false, false, false, false] (some 71) HT_ ?_
          refine pur_ 8 #[false, true, true, true, false, true, false, false, true, false, false, false, false] (some 74) HT_ ?_
          refine pur_ 9 #[false, true, true, true, false, true, false, false, true, true, false, false, false] (some 75) HT_ ?_
          refine pur_ 10 #[false, true, true, true, false, true, false, false, true, true, true, false, false] (some 76) HT_ ?_
          refine join_ (σ := Value × Value × Value) 3 #[true, true, true, true, true, true, true, false, true, true, true, false, false] (fun s_ => [(66, s_.1), (70, s_.2.1), (72, s_.2.2)]) (fun s_ w' => (Kd.R (Kd.int .i64) 3 w' w.heap.size (fun k_ => some k_ ≠ (s_.2.2 : Value).ownBlock ∧ some k_ ≠ (.slice Ao65 x5_1.length co65 : Value).ownBlock) s_.2.1 y186) ∧ (Kd.R (Kd.int .i64) 3 w' w.heap.size (fun k_ => some k_ ≠ (s_.2.1 : Value).ownBlock ∧ some k_ ≠ (.slice Ao65 x5_1.length co65 : Value).ownBlock) s_.2.2 y189) ∧ (Kd.R (Kd.int .i64) 3 w' w.heap.size (fun k_ => some k_ ≠ (s_.2.1 : Value).ownBlock ∧ some k_ ≠ (s_.2.2 : Value).ownBlock) (.slice Ao65 x5_1.length co65) x5_1) ∧ (Below w.heap.size w w')) ?_ ?_
          rotate_left
          ·intro hCont
           refine two_ (i := 0) (j := 6) (Ni := some 66) (Nj := some 72) #[true, true, true, true, false, true, false, false, true, true, true, false, false] #[false, true, true, true, false, true, true, false, true, true, true, false, false] rfl rfl rfl rfl (two_of HT_.out (by kernel_rfl)) (by decide) (by decide) (fun K hK => ?_) (fun K hK => ?_)
           ·skip
            refine Kd.R_lit_step (Kd.int .i64) _ 3 ?hg (N := 66) ?hd (xs := ([] : List Int)) (inner := []) (ok := fun _ => True) (okp := fun _ => True) ?hr ?hp (fun _ hk => hk) trivial (Below.refl _ _) (Nat.le_refl _) (by simp) ?_; (case hd => rfl); (case hg => rfl); (case hr => first | (go_simp; done) | (go_simp; rfl)); (case hp => exact (Reps.none _ _))
            intro v180 w69 ho70 hb hg_ hnew_
            clear hg_ hnew_
            (first | rw [← Ny179.out] at ho70 | (simp only [Int.reduceToNat] at ho70; rw [← Ny179.out] at ho70))
            refine sh5_ (Kd.R_elder' (ra_ HO_5) (Kd.R_base ho70) hb) (Kd.R_lower (Kd.R_new' ho70 (Kd.R_lt (ra_ HO_5))) (below_size (bl_ HB))) (Kd.C_below (by repeat (first | (with_reducible exact HR185.out) | (with_reducible refine Kd.C_alloc ?_ _) | (with_reducible refine Kd.C_drewN ?_ _) | (with_reducible refine Kd.C_drew ?_) | exact HR185.out)) hb) (Kd.C_below (by repeat (first | (with_reducible exact HR198.out) | (with_reducible refine Kd.C_alloc ?_ _) | (with_reducible refine Kd.C_drewN ?_ _) | (with_reducible refine Kd.C_drew ?_) | exact HR198.out)) hb) (below_step (bl_ HB) hb) ?_
            clear HO_5 HR185 HR198 HB hb ho70
            intro HO_5 HO181 HR185 HR198 HB
            refine hK.out _ _ trivial (fun hHeld => ?_)
            clear hK K
            refine norm_ (a' := ?_) ?_ ?_
            rotate_left
            ·show Act.put _ (some 66) _ = _
             simp only [Act.put, List.setIfInBounds_toArray, List.set_cons_zero, List.set_cons_succ, i64_w, i32_w]
             rfl
            refine two_ (i := 4) (j := 6) (Ni := some 70) (Nj := some 72) #[true, true, true, true, true, true, false, false, true, true, true, false, false] #[true, true, true, true, false, true, true, false, true, true, true, false, false] rfl rfl rfl rfl (two_of HT_.out (by kernel_rfl)) (by decide) (by decide) (fun K hK => ?_) (fun K hK => ?_)
            ·skip
             refine Kd.R_append_rows_step (Kd.int .i64) (w0 := w) w.heap.size (by rfl) (.tmp 66) (.tmp 69) 24 3 (.int .i64 0) 8 rfl Try.underlying24 info3 rfl (by decide) (by omega) v180 y179 y182 _ _ _ (fun k_ => some k_ ≠ (.slice Ao65 x5_1.length co65 : Value).ownBlock) (fun _ => False) rfl rfl ?aO ?aR (fun _ _ h => h) (fun _ h => h.elim) ?aF ?aB ?aS ?aL ?_
             (case aR => repeat (first | exact (by repeat (first | (with_reducible exact HR185.out) | (with_reducible refine Kd.C_alloc ?_ _) | (with_reducible refine Kd.C_drewN ?_ _) | (with_reducible refine Kd.C_drew ?_) | exact HR185.out)) | (with_reducible refine Kd.C_alloc ?_ _) | (with_reducible refine Kd.C_drewN ?_ _) | (with_reducible refine Kd.C_drew ?_)))
             (case aB => exact (bl_ HB))
             (case aF => exact (fun k_ hk => Kd.fresh' (Kd.R_lt (ra_ HO_5)) k_ hk))
             (case aO => exact (by (with_reducible repeat (first | apply Kd.R_alloc | apply Kd.R_drewN | apply Kd.R_drew)); exact Kd.R_mono HO181.out (fun _ hk => hk.2)))
             (case aS => exact (below_size (bl_ HB)))
             (case aL => have := LMc60.out; omega)
             intro v187 w71 ho hb hg hat
             rw [← Ny186.out] at ho
             refine sh5_ (Kd.R_after (ok := (fun _ => True)) (ra_ HO_5) hg hat) hb ((show Kd.C (Kd.int .i64) w71 Ao65 y182.length y182 from by rw [Ny182.out]; exact Kd.C_take (m := (x8_3 : Int).toNat) ((Kd.R_reads' (Kd.R_after (ok := (fun _ => True)) (ra_ HO_5) hg hat)).2.2) KL67.out)) ((show Kd.C (Kd.int .i64) w71 A68 y195.length y195 from by rw [Ny195.out, KA68.out]; exact Kd.C_drop (m := (x8_3 : Int).toNat) (c := co65) ((Kd.R_reads' (Kd.R_after (ok := (fun _ => True)) (ra_ HO_5) hg hat)).2.2) KL68.out ((Kd.R_reads' (Kd.R_after (ok := (fun _ => True)) (ra_ HO_5) hg hat)).2.1))) ho ?_
             clear HO_5 HB HR185 HR198 HO181 ho hb hg hat
             intro HO_5 HB HR185 HR198 HO188
             refine hK.out _ _ trivial (fun hHeld => ?_)
             clear hK K
             refine norm_ (a' := ?_) ?_ ?_
             rotate_left
             ·show Act.put _ (some 70) _ = _
              simp only [Act.put, List.setIfInBounds_toArray, List.set_cons_zero, List.set_cons_succ, i64_w, i32_w]
              rfl
             refine one_ (i := 6) (N := some 72) #[true, true, true, true, true, true, true, false, true, true, true, false, false] rfl rfl (one_of HT_.out (by kernel_rfl)) (by decide) (fun K hK => ?_)
             refine Kd.R_lit_step (Kd.int .i64) _ 3 ?hg (N := 72) ?hd (xs := ([x7_6] : List Int)) (inner := [.int .i64 x7_6]) (ok := fun _ => True) (okp := fun _ => True) ?hr ?hp (fun _ hk => hk) trivial (Below.refl _ _) (Nat.le_refl _) (by simp) ?_; (case hd => rfl); (case hg => rfl); (case hr => first | (go_simp; done) | (go_simp; rfl)); (case hp => exact (Reps.one (show Kd.M (Kd.int .i64) _ _ _ x7_6 [.int .i64 x7_6] from rfl) (Reps.none _ _)))
             intro v190 w72 ho73 hb hg_ hnew_
             clear hg_ hnew_
             (first | rw [← Ny189.out] at ho73 | (simp only [Int.reduceToNat] at ho73; rw [← Ny189.out] at ho73))
             refine sh6_ (Kd.R_elder' (ra_ HO_5) (Kd.R_base ho73) hb) (Kd.R_elder' (ra_ HO188) (Kd.R_base ho73) hb) (Kd.R_lower (Kd.R_new' (Kd.R_new' ho73 (Kd.R_lt (ra_ HO_5))) (Kd.R_lt (ra_ HO188))) (below_size (bl_ HB))) (Kd.C_below (by repeat (first | (with_reducible exact HR185.out) | (with_reducible refine Kd.C_alloc ?_ _) | (with_reducible refine Kd.C_drewN ?_ _) | (with_reducible refine Kd.C_drew ?_) | exact HR185.out)) hb) (Kd.C_below (by repeat (first | (with_reducible exact HR198.out) | (with_reducible refine Kd.C_alloc ?_ _) | (with_reducible refine Kd.C_drewN ?_ _) | (with_reducible refine Kd.C_drew ?_) | exact HR198.out)) hb) (below_step (bl_ HB) hb) ?_
             clear HO_5 HO188 HR185 HR198 HB hb ho73
             intro HO_5 HO188 HO191 HR185 HR198 HB
             refine hK.out _ _ trivial (fun hHeld => ?_)
             clear hK K
             refine norm_ (a' := ?_) ?_ ?_
             rotate_left
             ·show Act.put _ (some 72) _ = _
              simp only [Act.put, List.setIfInBounds_toArray, List.set_cons_zero, List.set_cons_succ, i64_w, i32_w]
              rfl
             exact norm_ (by simp only [putAll, Act.put, List.setIfInBounds_toArray, List.set_cons_zero, List.set_cons_succ]) (hCont (v180, v187, v190) _ ⟨(by (with_reducible repeat (first | apply Kd.R_alloc | apply Kd.R_drewN | apply Kd.R_drew)); exact Kd.R_mono HO188.out (fun _ hk => ⟨hk.2, hk.1⟩)), (by (with_reducible repeat (first | apply Kd.R_alloc | apply Kd.R_drewN | apply Kd.R_drew)); exact Kd.R_mono HO191.out (fun _ hk => ⟨hk.2, hk.1.2⟩)), (by (with_reducible repeat (first | apply Kd.R_alloc | apply Kd.R_drewN | apply Kd.R_drew)); exact Kd.R_mono HO_5.out (fun _ hk => ⟨hk.1.2, hk.2⟩)), (bl_ HB)⟩)
            ·skip
             refine Kd.R_lit_step (Kd.int .i64) _ 3 ?hg (N := 72) ?hd (xs := ([x7_6] : List Int)) (inner := [.int .i64 x7_6]) (ok := fun _ => True) (okp := fun _ => True) ?hr ?hp (fun _ hk => hk) trivial (Below.refl _ _) (Nat.le_refl _) (by simp) ?_; (case hd => rfl); (case hg => rfl); (case hr => first | (go_simp; done) | (go_simp; rfl)); (case hp => exact (Reps.one (show Kd.M (Kd.int .i64) _ _ _ x7_6 [.int .i64 x7_6] from rfl) (Reps.none _ _)))
             intro v190 w71 ho72 hb hg_ hnew_
             clear hg_ hnew_
             (first | rw [← Ny189.out] at ho72 | (simp only [Int.reduceToNat] at ho72; rw [← Ny189.out] at ho72))
             refine sh6_ (Kd.R_elder' (ra_ HO_5) (Kd.R_base ho72) hb) (Kd.R_elder' (ra_ HO181) (Kd.R_base ho72) hb) (Kd.R_lower (Kd.R_new' (Kd.R_new' ho72 (Kd.R_lt (ra_ HO_5))) (Kd.R_lt (ra_ HO181))) (below_size (bl_ HB))) (Kd.C_below (by repeat (first | (with_reducible exact HR185.out) | (with_reducible refine Kd.C_alloc ?_ _) | (with_reducible refine Kd.C_drewN ?_ _) | (with_reducible refine Kd.C_drew ?_) | exact HR185.out)) hb) (Kd.C_below (by repeat (first | (with_reducible exact HR198.out) | (with_reducible refine Kd.C_alloc ?_ _) | (with_reducible refine Kd.C_drewN ?_ _) | (with_reducible refine Kd.C_drew ?_) | exact HR198.out)) hb) (below_step (bl_ HB) hb) ?_
             clear HO_5 HO181 HR185 HR198 HB hb ho72
             intro HO_5 HO181 HO191 HR185 HR198 HB
             refine hK.out _ _ trivial (fun hHeld => ?_)
             clear hK K
             refine norm_ (a' := ?_) ?_ ?_
             rotate_left
             ·show Act.put _ (some 72) _ = _
              simp only [Act.put, List.setIfInBounds_toArray, List.set_cons_zero, List.set_cons_succ, i64_w, i32_w]
              rfl
             refine one_ (i := 4) (N := some 70) #[true, true, true, true, true, true, true, false, true, true, true, false, false] rfl rfl (one_of HT_.out (by kernel_rfl)) (by decide) (fun K hK => ?_)
             refine Kd.R_append_rows_step (Kd.int .i64) (w0 := w) w.heap.size (by rfl) (.tmp 66) (.tmp 69) 24 3 (.int .i64 0) 8 rfl Try.underlying24 info3 rfl (by decide) (by omega) v180 y179 y182 _ _ _ (fun k_ => some k_ ≠ (.slice Ao65 x5_1.length co65 : Value).ownBlock ∧ some k_ ≠ (v190 : Value).ownBlock) (fun _ => False) rfl rfl ?aO ?aR (fun _ _ h => h) (fun _ h => h.elim) ?aF ?aB ?aS ?aL ?_
             (case aR => repeat (first | exact (by repeat (first | (with_reducible exact HR185.out) | (with_reducible refine Kd.C_alloc ?_ _) | (with_reducible refine Kd.C_drewN ?_ _) | (with_reducible refine Kd.C_drew ?_) | exact HR185.out)) | (with_reducible refine Kd.C_alloc ?_ _) | (with_reducible refine Kd.C_drewN ?_ _) | (with_reducible refine Kd.C_drew ?_)))
             (case aB => exact (bl_ HB))
             (case aF => exact (fun k_ hk => ⟨Kd.fresh' (Kd.R_lt (ra_ HO_5)) k_ hk, Kd.fresh' (Kd.R_lt (ra_ HO191)) k_ hk⟩))
             (case aO => exact (by (with_reducible repeat (first | apply Kd.R_alloc | apply Kd.R_drewN | apply Kd.R_drew)); exact Kd.R_mono HO181.out (fun _ hk => ⟨hk.1.2, hk.2⟩)))
             (case aS => exact (below_size (bl_ HB)))
             (case aL => have := LMc60.out; omega)
             intro v187 w73 ho hb hg hat
             rw [← Ny186.out] at ho
             refine sh6_ (Kd.R_after (ok := (fun k_ => some k_ ≠ (v190 : Value).ownBlock)) (by (with_reducible repeat (first | apply Kd.R_alloc | apply Kd.R_drewN | apply Kd.R_drew)); exact Kd.R_mono HO_5.out (fun _ hk => ⟨hk.2, hk.1.2⟩)) hg hat) (Kd.R_after (ok := (fun k_ => some k_ ≠ (.slice Ao65 x5_1.length co65 : Value).ownBlock)) (by (with_reducible repeat (first | apply Kd.R_alloc | apply Kd.R_drewN | apply Kd.R_drew)); exact Kd.R_mono HO191.out (fun _ hk => ⟨hk.1.2, hk.2⟩)) hg hat) hb ((show Kd.C (Kd.int .i64) w73 Ao65 y182.length y182 from by rw [Ny182.out]; exact Kd.C_take (m := (x8_3 : Int).toNat) ((Kd.R_reads' (Kd.R_after (ok := (fun k_ => some k_ ≠ (v190 : Value).ownBlock)) (by (with_reducible repeat (first | apply Kd.R_alloc | apply Kd.R_drewN | apply Kd.R_drew)); exact Kd.R_mono HO_5.out (fun _ hk => ⟨hk.2, hk.1.2⟩)) hg hat)).2.2) KL67.out)) ((show Kd.C (Kd.int .i64) w73 A68 y195.length y195 from by rw [Ny195.out, KA68.out]; exact Kd.C_drop (m := (x8_3 : Int).toNat) (c := co65) ((Kd.R_reads' (Kd.R_after (ok := (fun k_ => some k_ ≠ (v190 : Value).ownBlock)) (by (with_reducible repeat (first | apply Kd.R_alloc | apply Kd.R_drewN | apply Kd.R_drew)); exact Kd.R_mono HO_5.out (fun _ hk => ⟨hk.2, hk.1.2⟩)) hg hat)).2.2) KL68.out ((Kd.R_reads' (Kd.R_after (ok := (fun k_ => some k_ ≠ (v190 : Value).ownBlock)) (by (with_reducible repeat (first | apply Kd.R_alloc | apply Kd.R_drewN | apply Kd.R_drew)); exact Kd.R_mono HO_5.out (fun _ hk => ⟨hk.2, hk.1.2⟩)) hg hat)).2.1))) ho ?_
             clear HO_5 HO191 HB HR185 HR198 HO181 ho hb hg hat
             intro HO_5 HO191 HB HR185 HR198 HO188
             refine hK.out _ _ trivial (fun hHeld => ?_)
             clear hK K
             refine norm_ (a' := ?_) ?_ ?_
             rotate_left
             ·show Act.put _ (some 70) _ = _
              simp only [Act.put, List.setIfInBounds_toArray, List.set_cons_zero, List.set_cons_succ, i64_w, i32_w]
              rfl
             exact norm_ (by simp only [putAll, Act.put, List.setIfInBounds_toArray, List.set_cons_zero, List.set_cons_succ]) (hCont (v180, v187, v190) _ ⟨(by (with_reducible repeat (first | apply Kd.R_alloc | apply Kd.R_drewN | apply Kd.R_drew)); exact Kd.R_mono HO188.out (fun _ hk => ⟨hk.2, hk.1⟩)), (by (with_reducible repeat (first | apply Kd.R_alloc | apply Kd.R_drewN | apply Kd.R_drew)); exact Kd.R_mono HO191.out (fun _ hk => ⟨hk.2, hk.1⟩)), (by (with_reducible repeat (first | apply Kd.R_alloc | apply Kd.R_drewN | apply Kd.R_drew)); exact Kd.R_mono HO_5.out (fun _ hk => ⟨hk.2, hk.1⟩)), (bl_ HB)⟩)
           ·skip
            refine Kd.R_lit_step (Kd.int .i64) _ 3 ?hg (N := 72) ?hd (xs := ([x7_6] : List Int)) (inner := [.int .i64 x7_6]) (ok := fun _ => True) (okp := fun _ => True) ?hr ?hp (fun _ hk => hk) trivial (Below.refl _ _) (Nat.le_refl _) (by simp) ?_; (case hd => rfl); (case hg => rfl); (case hr => first | (go_simp; done) | (go_simp; rfl)); (case hp => exact (Reps.one (show Kd.M (Kd.int .i64) _ _ _ x7_6 [.int .i64 x7_6] from rfl) (Reps.none _ _)))
            intro v190 w69 ho70 hb hg_ hnew_
            clear hg_ hnew_
            (first | rw [← Ny189.out] at ho70 | (simp only [Int.reduceToNat] at ho70; rw [← Ny189.out] at ho70))
            refine sh5_ (Kd.R_elder' (ra_ HO_5) (Kd.R_base ho70) hb) (Kd.R_lower (Kd.R_new' ho70 (Kd.R_lt (ra_ HO_5))) (below_size (bl_ HB))) (Kd.C_below (by repeat (first | (with_reducible exact HR185.out) | (with_reducible refine Kd.C_alloc ?_ _) | (with_reducible refine Kd.C_drewN ?_ _) | (with_reducible refine Kd.C_drew ?_) | exact HR185.out)) hb) (Kd.C_below (by repeat (first | (with_reducible exact HR198.out) | (with_reducible refine Kd.C_alloc ?_ _) | (with_reducible refine Kd.C_drewN ?_ _) | (with_reducible refine Kd.C_drew ?_) | exact HR198.out)) hb) (below_step (bl_ HB) hb) ?_
            clear HO_5 HR185 HR198 HB hb ho70
            intro HO_5 HO191 HR185 HR198 HB
            refine hK.out _ _ trivial (fun hHeld => ?_)
            clear hK K
            refine norm_ (a' := ?_) ?_ ?_
            rotate_left
            ·show Act.put _ (some 72) _ = _
             simp only [Act.put, List.setIfInBounds_toArray, List.set_cons_zero, List.set_cons_succ, i64_w, i32_w]
             rfl
            refine one_ (i := 0) (N := some 66) #[true, true, true, true, false, true, true, false, true, true, true, false, false] rfl rfl (one_of HT_.out (by kernel_rfl)) (by decide) (fun K hK => ?_)
            refine Kd.R_lit_step (Kd.int .i64) _ 3 ?hg (N := 66) ?hd (xs := ([] : List Int)) (inner := []) (ok := fun _ => True) (okp := fun _ => True) ?hr ?hp (fun _ hk => hk) trivial (Below.refl _ _) (Nat.le_refl _) (by simp) ?_; (case hd => rfl); (case hg => rfl); (case hr => first | (go_simp; done) | (go_simp; rfl)); (case hp => exact (Reps.none _ _))
            intro v180 w71 ho72 hb hg_ hnew_
            clear hg_ hnew_
            (first | rw [← Ny179.out] at ho72 | (simp only [Int.reduceToNat] at ho72; rw [← Ny179.out] at ho72))
            refine sh6_ (Kd.R_elder' (ra_ HO_5) (Kd.R_base ho72) hb) (Kd.R_elder' (ra_ HO191) (Kd.R_base ho72) hb) (Kd.R_lower (Kd.R_new' (Kd.R_new' ho72 (Kd.R_lt (ra_ HO_5))) (Kd.R_lt (ra_ HO191))) (below_size (bl_ HB))) (Kd.C_below (by repeat (first | (with_reducible exact HR185.out) | (with_reducible refine Kd.C_alloc ?_ _) | (with_reducible refine Kd.C_drewN ?_ _) | (with_reducible refine Kd.C_drew ?_) | exact HR185.out)) hb) (Kd.C_below (by repeat (first | (with_reducible exact HR198.out) | (with_reducible refine Kd.C_alloc ?_ _) | (with_reducible refine Kd.C_drewN ?_ _) | (with_reducible refine Kd.C_drew ?_) | exact HR198.out)) hb) (below_step (bl_ HB) hb) ?_
            clear HO_5 HO191 HR185 HR198 HB hb ho72
            intro HO_5 HO191 HO181 HR185 HR198 HB
            refine hK.out _ _ trivial (fun hHeld => ?_)
            clear hK K
            refine norm_ (a' := ?_) ?_ ?_
            rotate_left
            ·show Act.put _ (some 66) _ = _
             simp only [Act.put, List.setIfInBounds_toArray, List.set_cons_zero, List.set_cons_succ, i64_w, i32_w]
             rfl
            refine one_ (i := 4) (N := some 70) #[true, true, true, true, true, true, true, false, true, true, true, false, false] rfl rfl (one_of HT_.out (by kernel_rfl)) (by decide) (fun K hK => ?_)
            refine Kd.R_append_rows_step (Kd.int .i64) (w0 := w) w.heap.size (by rfl) (.tmp 66) (.tmp 69) 24 3 (.int .i64 0) 8 rfl Try.underlying24 info3 rfl (by decide) (by omega) v180 y179 y182 _ _ _ (fun k_ => some k_ ≠ (.slice Ao65 x5_1.length co65 : Value).ownBlock ∧ some k_ ≠ (v190 : Value).ownBlock) (fun _ => False) rfl rfl ?aO ?aR (fun _ _ h => h) (fun _ h => h.elim) ?aF ?aB ?aS ?aL ?_
            (case aR => repeat (first | exact (by repeat (first | (with_reducible exact HR185.out) | (with_reducible refine Kd.C_alloc ?_ _) | (with_reducible refine Kd.C_drewN ?_ _) | (with_reducible refine Kd.C_drew ?_) | exact HR185.out)) | (with_reducible refine Kd.C_alloc ?_ _) | (with_reducible refine Kd.C_drewN ?_ _) | (with_reducible refine Kd.C_drew ?_)))
            (case aB => exact (bl_ HB))
            (case aF => exact (fun k_ hk => ⟨Kd.fresh' (Kd.R_lt (ra_ HO_5)) k_ hk, Kd.fresh' (Kd.R_lt (ra_ HO191)) k_ hk⟩))
            (case aO => exact (by (with_reducible repeat (first | apply Kd.R_alloc | apply Kd.R_drewN | apply Kd.R_drew)); exact Kd.R_mono HO181.out (fun _ hk => ⟨hk.1.2, hk.2⟩)))
            (case aS => exact (below_size (bl_ HB)))
            (case aL => have := LMc60.out; omega)
            intro v187 w73 ho hb hg hat
            rw [← Ny186.out] at ho
            refine sh6_ (Kd.R_after (ok := (fun k_ => some k_ ≠ (v190 : Value).ownBlock)) (by (with_reducible repeat (first | apply Kd.R_alloc | apply Kd.R_drewN | apply Kd.R_drew)); exact Kd.R_mono HO_5.out (fun _ hk => ⟨hk.1.2, hk.2⟩)) hg hat) (Kd.R_after (ok := (fun k_ => some k_ ≠ (.slice Ao65 x5_1.length co65 : Value).ownBlock)) (by (with_reducible repeat (first | apply Kd.R_alloc | apply Kd.R_drewN | apply Kd.R_drew)); exact Kd.R_mono HO191.out (fun _ hk => ⟨hk.1.2, hk.2⟩)) hg hat) hb ((show Kd.C (Kd.int .i64) w73 Ao65 y182.length y182 from by rw [Ny182.out]; exact Kd.C_take (m := (x8_3 : Int).toNat) ((Kd.R_reads' (Kd.R_after (ok := (fun k_ => some k_ ≠ (v190 : Value).ownBlock)) (by (with_reducible repeat (first | apply Kd.R_alloc | apply Kd.R_drewN | apply Kd.R_drew)); exact Kd.R_mono HO_5.out (fun _ hk => ⟨hk.1.2, hk.2⟩)) hg hat)).2.2) KL67.out)) ((show Kd.C (Kd.int .i64) w73 A68 y195.length y195 from by rw [Ny195.out, KA68.out]; exact Kd.C_drop (m := (x8_3 : Int).toNat) (c := co65) ((Kd.R_reads' (Kd.R_after (ok := (fun k_ => some k_ ≠ (v190 : Value).ownBlock)) (by (with_reducible repeat (first | apply Kd.R_alloc | apply Kd.R_drewN | apply Kd.R_drew)); exact Kd.R_mono HO_5.out (fun _ hk => ⟨hk.1.2, hk.2⟩)) hg hat)).2.2) KL68.out ((Kd.R_reads' (Kd.R_after (ok := (fun k_ => some k_ ≠ (v190 : Value).ownBlock)) (by (with_reducible repeat (first | apply Kd.R_alloc | apply Kd.R_drewN | apply Kd.R_drew)); exact Kd.R_mono HO_5.out (fun _ hk => ⟨hk.1.2, hk.2⟩)) hg hat)).2.1))) ho ?_
            clear HO_5 HO191 HB HR185 HR198 HO181 ho hb hg hat
            intro HO_5 HO191 HB HR185 HR198 HO188
            refine hK.out _ _ trivial (fun hHeld => ?_)
            clear hK K
            refine norm_ (a' := ?_) ?_ ?_
            rotate_left
            ·show Act.put _ (some 70) _ = _
             simp only [Act.put, List.setIfInBounds_toArray, List.set_cons_zero, List.set_cons_succ, i64_w, i32_w]
             rfl
            exact norm_ (by simp only [putAll, Act.put, List.setIfInBounds_toArray, List.set_cons_zero, List.set_cons_succ]) (hCont (v180, v187, v190) _ ⟨(by (with_reducible repeat (first | apply Kd.R_alloc | apply Kd.R_drewN | apply Kd.R_drew)); exact Kd.R_mono HO188.out (fun _ hk => ⟨hk.2, hk.1⟩)), (by (with_reducible repeat (first | apply Kd.R_alloc | apply Kd.R_drewN | apply Kd.R_drew)); exact Kd.R_mono HO191.out (fun _ hk => ⟨hk.2, hk.1⟩)), (by (with_reducible repeat (first | apply Kd.R_alloc | apply Kd.R_drewN | apply Kd.R_drew)); exact Kd.R_mono HO_5.out (fun _ hk => ⟨hk.2, hk.1⟩)), (bl_ HB)⟩)
          rintro ⟨v180, v187, v190⟩ w74 ⟨h0_, h1_, h2_, h3_⟩
          have n0_ : Aside0 (Kd.R (Kd.int .i64) 3 w74 w.heap.size (fun k_ => some k_ ≠ (v190 : Value).ownBlock ∧ some k_ ≠ (.slice Ao65 x5_1.length co65 : Value).ownBlock) v187 y186) := ⟨h0_⟩
          have n1_ : Aside0 (Kd.R (Kd.int .i64) 3 w74 w.heap.size (fun k_ => some k_ ≠ (v187 : Value).ownBlock ∧ some k_ ≠ (.slice Ao65 x5_1.length co65 : Value).ownBlock) v190 y189) := ⟨h1_⟩
          have n2_ : Aside0 (Kd.R (Kd.int .i64) 3 w74 w.heap.size (fun k_ => some k_ ≠ (v187 : Value).ownBlock ∧ some k_ ≠ (v190 : Value).ownBlock) (.slice Ao65 x5_1.length co65) x5_1) := ⟨h2_⟩
          have n3_ : Aside0 (Below w.heap.size w w74) := ⟨h3_⟩
          clear HO_5
          clear HB
          clear h0_ h1_ h2_ h3_
          have HO188 := n0_
          have HO191 := n1_
          have HO_5 := n2_
          have HB := n3_
          clear n0_ n1_ n2_ n3_
          have hHeld := trivial
          obtain ⟨Ao76, co76, eo76⟩ := Kd.R_slice HO191.out
          (first | subst eo76 | (injection eo76 with f1_ f2_ f3_; have f4_ := f1_.symm; have f5_ := f3_.symm; clear f1_ f2_ f3_; subst f4_; subst f5_))
          refine norm_ (a' := ?_) ?_ ?_
          rotate_left
          ·simp only [putAll, Act.put, List.setIfInBounds_toArray, List.set_cons_zero, List.set_cons_succ]
           rfl
          refine one_ (i := 7) (N := some 73) #[true, true, true, true, true, true, true, true, true, true, true, false, false] rfl rfl (one_of HT_.out (by kernel_rfl)) (by decide) (fun K hK => ?_)
          refine Kd.R_append_rows_step (Kd.int .i64) (w0 := w) w.heap.size (by rfl) (.tmp 70) (.tmp 72) 24 3 (.int .i64 0) 8 rfl Try.underlying24 info3 rfl (by decide) (by omega) v187 y186 y189 _ _ _ (fun k_ => some k_ ≠ (.slice Ao65 x5_1.length co65 : Value).ownBlock ∧ some k_ ≠ (.slice Ao76 y189.length co76 : Value).ownBlock) (fun _ => False) rfl rfl ?aO ?aR (fun _ _ h => h) (fun _ h => h.elim) ?aF ?aB ?aS ?aL ?_
          (case aR => repeat (first | exact (Kd.R_reads' HO191.out).2.2 | (with_reducible refine Kd.C_alloc ?_ _) | (with_reducible refine Kd.C_drewN ?_ _) | (with_reducible refine Kd.C_drew ?_)))
          (case aB => exact (bl_ HB))
          (case aF => exact (fun k_ hk => ⟨Kd.fresh' (Kd.R_lt (ra_ HO_5)) k_ hk, Kd.fresh' (Kd.R_lt (ra_ HO191)) k_ hk⟩))
          (case aO => exact (by (with_reducible repeat (first | apply Kd.R_alloc | apply Kd.R_drewN | apply Kd.R_drew)); exact Kd.R_mono HO188.out (fun _ hk => ⟨hk.2, hk.1⟩)))
          (case aS => exact (below_size (bl_ HB)))
          (case aL => have := LMc61.out; omega)
          intro v193 w75 ho hb hg hat
          rw [← Ny192.out] at ho
          refine sh4_ (Kd.R_after (ok := (fun k_ => some k_ ≠ (.slice Ao76 y189.length co76 : Value).ownBlock)) (by (with_reducible repeat (first | apply Kd.R_alloc | apply Kd.R_drewN | apply Kd.R_drew)); exact Kd.R_mono HO_5.out (fun _ hk => ⟨hk.2, hk.1⟩)) hg hat) (Kd.R_after (ok := (fun k_ => some k_ ≠ (.slice Ao65 x5_1.length co65 : Value).ownBlock)) (by (with_reducible repeat (first | apply Kd.R_alloc | apply Kd.R_drewN | apply Kd.R_drew)); exact Kd.R_mono HO191.out (fun _ hk => ⟨hk.2, hk.1⟩)) hg hat) hb ho ?_
          clear HO_5 HO191 HB HO188 ho hb hg hat
          intro HO_5 HO191 HB HO194
          refine hK.out _ _ trivial (fun hHeld => ?_)
          clear hK K
          refine norm_ (a' := ?_) ?_ ?_
          rotate_left
          ·show Act.put _ (some 73) _ = _
           simp only [Act.put, List.setIfInBounds_toArray, List.set_cons_zero, List.set_cons_succ, i64_w, i32_w]
           rfl
          refine one_ (i := 11) (N := some 77) #[true, true, true, true, true, true, true, true, true, true, true, true, false] rfl rfl (one_of HT_.out (by kernel_rfl)) (by decide) (fun K hK => ?_)
          refine Kd.R_append_rows_step (Kd.int .i64) (w0 := w) w.heap.size (by rfl) (.tmp 73) (.tmp 76) 24 3 (.int .i64 0) 8 rfl Try.underlying24 info3 rfl (by decide) (by omega) v193 y192 y195 _ _ _ (fun k_ => some k_ ≠ (.slice Ao65 x5_1.length co65 : Value).ownBlock ∧ some k_ ≠ (.slice Ao76 y189.length co76 : Value).ownBlock) (fun _ => False) rfl rfl ?aO ?aR (fun _ _ h => h) (fun _ h => h.elim) ?aF ?aB ?aS ?aL ?_
          (case aR => rw [Ny195.out, KA68.out]; have h1_ := Kd.R_reads' HO_5.out; exact Kd.C_drop (m := (x8_3 : Int).toNat) (c := co65) h1_.2.2 KL68.out h1_.2.1)
          (case aB => exact (bl_ HB))
          (case aF => exact (fun k_ hk => ⟨Kd.fresh' (Kd.R_lt (ra_ HO_5)) k_ hk, Kd.fresh' (Kd.R_lt (ra_ HO191)) k_ hk⟩))
          (case aO => exact (ra_ HO194))
          (case aS => exact (below_size (bl_ HB)))
          (case aL => have := LMc64.out; omega)
          intro v200 w77 ho hb hg hat
          rw [← Ny199.out] at ho
          refine sh4_ (Kd.R_after (ok := (fun k_ => some k_ ≠ (.slice Ao76 y189.length co76 : Value).ownBlock)) (ra_ HO_5) hg hat) (Kd.R_after (ok := (fun k_ => some k_ ≠ (.slice Ao65 x5_1.length co65 : Value).ownBlock)) (ra_ HO191) hg hat) hb ho ?_
          clear HO_5 HO191 HB HO194 ho hb hg hat
          intro HO_5 HO191 HB HO201
          refine hK.out _ _ trivial (fun hHeld => ?_)
          clear hK K
          refine norm_ (a' := ?_) ?_ ?_
          rotate_left
          ·show Act.put _ (some 77) _ = _
           simp only [Act.put, List.setIfInBounds_toArray, List.set_cons_zero, List.set_cons_succ, i64_w, i32_w]
           rfl
          refine pur_ 12 #[true, true, true, true, true, true, true, true, true, true, true, true, true] (some 5) HT_ ?_
          refine done_ (done_of HT_.out (by kernel_rfl)) ?_
          try go_wp2
          go_roundg k3
          case measure => have := HK1.out; have := HJ6.out; have := HK3.out; omega
          case rel => exact ⟨(y199), (wrap64 (x6_1 + 1)), (by first | rfl | (simp; done) | (simp [*]; done)), H', ⟨by have := HK1.out; have := HJ6.out; have := HK3.out; omega⟩, ⟨by (with_reducible repeat (first | apply Kd.R_alloc | apply Kd.R_drewN | apply Kd.R_drew)); exact Kd.R_mono HO201.out (fun _ hk => trivial)⟩, ⟨bl_ HB⟩⟩
         ·rw [if_neg c57] at H
          obtain ⟨c57b0, c57b1⟩ := bn_ c57
          replace H := ifn_ H
          obtain ⟨c78, H⟩ := H
          exact absurd H (by simp)
   ·rw [if_neg c5] at H
    have c5b0 : decide (x6_1 < (l0.length : Int)) = false := decide_eq_false c5
    clear c5
    obtain rfl := Option.some.inj H
    go_wp2
    go_ret
    exact ⟨_, er_, ra_ HO_5, bl_ HB⟩

end Go.Proofs.Ytlljhblilicnfaa.PFnExactTableOf
