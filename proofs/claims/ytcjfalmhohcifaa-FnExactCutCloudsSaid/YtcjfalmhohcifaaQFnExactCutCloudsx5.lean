-- Written by a program of this session for this claim (the kit's printer with changes).
import Derived.Test.YtcjfalmhohcifaaQFnExactCutCloudsx0
import Derived.Test.YtcjfalmhohcifaaQFnExactCutCloudsx1
import Derived.Test.YtcjfalmhohcifaaQFnExactCutCloudsx2
import Derived.Test.YtcjfalmhohcifaaQFnExactCutCloudsx4
namespace Go.Proofs.Ytcjfalmhohcifaa.PFnExactCutClouds
open Go.RowKit Go.Proofs.YtcjfalmhohcifaaW.PrintWords Go.Proofs.YtcjfalmhohcifaaW.PrintLast Go.Proofs.YtcjfalmhohcifaaW.PrintMore
attribute [local go_sem] max2_int min2_int max_two min_two max_three min_three max_four min_four   -- for this text's walks alone
set_option linter.unusedVariables false
set_option linter.unusedSimpArgs false

/-! ### laws_eqCloudS: function 25 -/
def laws_eqCloudS.l0 : Nat → List (S87) → List (S87) → Int → Option (Bool)
 | 0, _, _, _ => none
 | k + 1, x0, x1, x5 => if x5 < (x0.length : Int) then (if 0 ≤ x5 then (if x5 < (x1.length : Int) then ((laws_eqCloud.f ((rd_T87 x0 x5).f0) ((rd_T87 x0 x5).f1) ((rd_T87 x0 x5).f2) ((rd_T87 x1 x5).f0) ((rd_T87 x1 x5).f1) ((rd_T87 x1 x5).f2)).bind fun t294 => (if t294 = true then (laws_eqCloudS.l0 k x0 x1 (wrap64 (x5 + 1))) else (some false))) else (none)) else (none)) else (some true)
def laws_eqCloudS.f (k : Nat) (l0 : List (S87)) (l1 : List (S87)) : Option (Bool) := if (l0.length : Int) = (l1.length : Int) then (laws_eqCloudS.l0 k l0 l1 0) else (some false)
theorem laws_eqCloudS.mono_l : ∀ k, (∀ y0 y1 y2, LeO (laws_eqCloudS.l0 k y0 y1 y2) (laws_eqCloudS.l0 (k + 1) y0 y1 y2))
 | 0 => fun _ _ _ r h => by simp [laws_eqCloudS.l0] at h
 | k + 1 => by
  have ih0 := laws_eqCloudS.mono_l k
  ·intro y0 y1 y2
   unfold laws_eqCloudS.l0
   repeat' first | (with_reducible first | exact ih0 _ _ _ | exact LeO.refl _ | exact LeO.none _ | refine LeO.ite ?_ ?_ | refine LeO.bind ?_ (fun _ => ?_)) | exact LeO.none _ | refine LeO.ite ?_ ?_ | refine LeO.bind ?_ (fun _ => ?_)
theorem laws_eqCloudS.mono : ∀ a0 a1 k, LeO (laws_eqCloudS.f k a0 a1) (laws_eqCloudS.f (k + 1) a0 a1) := by
 intro a0 a1 k
 have ih0 := laws_eqCloudS.mono_l k
 unfold laws_eqCloudS.f
 repeat' first | (with_reducible first | exact ih0 _ _ _ | exact LeO.refl _ | exact LeO.none _ | refine LeO.ite ?_ ?_ | refine LeO.bind ?_ (fun _ => ?_)) | exact LeO.none _ | refine LeO.ite ?_ ?_ | refine LeO.bind ?_ (fun _ => ?_)
def laws_eqCloudS.T6 : Bool × List (List Nat × List Nat) := (true, [([], []), ([], []), ([0, 1], [0, 1]), ([2], [2]), ([], []), ([], []), ([4, 5], [4, 5]), ([6], [6]), ([3, 7], [3, 7]), ([8], [8])])
def laws_eqCloudS.B6 : List Nat := [0, 0, 3, 7, 0, 0, 48, 112, 255, 511]
theorem laws_eqCloudS.tab6 : rtab .any (opsOf Try.f25 6) = laws_eqCloudS.T6 := by kernel_rfl
theorem laws_eqCloudS.bits6 : waitsOk laws_eqCloudS.T6.2 laws_eqCloudS.B6 = true := by kernel_rfl
set_option maxHeartbeats 8000000 in
set_option maxRecDepth 100000 in
theorem laws_eqCloudS.calls (k : Nat) (A0 : Option Addr) (c0 : Nat) (l0 : List (S87)) (A1 : Option Addr) (c1 : Nat) (l1 : List (S87)) (r : Bool) (w : World) (hr0 : Kd.C k87 w A0 l0.length l0) (hc0 : l0.length ≤ c0) (hr1 : Kd.C k87 w A1 l1.length l1) (hc1 : l1.length ≤ c1) (h : laws_eqCloudS.f k l0 l1 = some r) (hT_ : r = true := by rfl) :
  Calls Try.prog 25 #[.slice A0 l0.length c0, .slice A1 l1.length c1] w fun e w' => e = .returned (.bool r) ∧ Below w.heap.size w w' := by
 have hu87 := Try.underlying87
 have HR0 := Aside0.mk hr0
 have HC0 := Aside0.mk hc0
 clear hr0 hc0
 have HR1 := Aside0.mk hr1
 have HC1 := Aside0.mk hc1
 clear hr1 hc1
 have HB := Aside0.mk (Below.refl w.heap.size w)
 subst hT_
 have H := h
 clear h
 unfold laws_eqCloudS.f at H
 by_cases c3 : (l0.length : Int) = (l1.length : Int)
 ·rw [if_pos c3] at H
  obtain ⟨c3b0, c3b1⟩ := bt_ c3
  have c3b2 : (l0.length == l1.length) = true := by first | simpa using c3 | (simp at c3 ⊢; omega)
  clear c3
  have H' := Aside0.mk H
  clear H
  go_enter Try.func25, Try.ntmps25
  go_wp2
  go_loopg [5] k (fun kq v5 w' => ∃ (x5_1 : Int), v5 = .int .i64 x5_1 ∧ Aside0 (laws_eqCloudS.l0 kq l0 l1 x5_1 = some true) ∧ Aside0 (kq ≤ k) ∧ Aside0 (Below w.heap.size w w'))
  case atStart => exact ⟨(0), (by first | rfl | (simp; done) | (simp [*]; done)), H', ⟨Nat.le_refl _⟩, ⟨bl_ HB⟩⟩
  case round =>
   clear H'
   try clear c1
   try clear c2
   try clear p2
   try clear c3
   try clear c3b0
   try clear c3b1
   try clear c3b2
   obtain ⟨x5_1, rfl, HA, HK1, HB⟩ := hrel
   cases gk with
   | zero => exact absurd HA.out (by simp [laws_eqCloudS.l0])
   | succ k1 =>
    have H := HA.out
    clear HA
    simp only [laws_eqCloudS.l0] at H
    by_cases c4 : x5_1 < (l0.length : Int)
    ·rw [if_pos c4] at H
     have c4b0 := decide_eq_true c4
     clear c4
     replace H := ifn_ H
     obtain ⟨c5, H⟩ := H
     have c5b0 := decide_eq_true c5
     clear c5
     replace H := ifn_ H
     obtain ⟨c6, H⟩ := H
     have c6b0 := decide_eq_true c6
     clear c6
     replace H := bs_ H
     obtain ⟨t294, A7, H⟩ := H
     by_cases c8 : t294 = true
     ·subst c8
      try rw [if_pos rfl] at H
      have H' := Aside0.mk H
      clear H
      try go_wp2
      refine sh1_ (below_drew1 HB.out) ?_
      clear HB
      intro HB
      have p292 : 0 ≤ (x5_1 : Int) := od_
      have q292 : x5_1 < (l0.length : Int) := od_
      obtain ⟨ad292, e292, hx292_0, hx292_1, hx292_2⟩ := at_T87 HR0.out x5_1 p292 q292
      have hw292_2 := hx292_2
      have hw292_1 := hx292_1
      have hw292_0 := hx292_0
      cases e292
      replace hx292_0 := hbc_ HB hx292_0
      replace hx292_1 := hbc_ HB hx292_1
      replace hx292_2 := hbc_ HB hx292_2
      replace p292 := eq_true p292
      replace q292 := eq_true q292
      have p293 : 0 ≤ (x5_1 : Int) := od_
      have q293 : x5_1 < (l1.length : Int) := od_
      obtain ⟨ad293, e293, hx293_0, hx293_1, hx293_2⟩ := at_T87 HR1.out x5_1 p293 q293
      have hw293_2 := hx293_2
      have hw293_1 := hx293_1
      have hw293_0 := hx293_0
      cases e293
      replace hx293_0 := hbc_ HB hx293_0
      replace hx293_1 := hbc_ HB hx293_1
      replace hx293_2 := hbc_ HB hx293_2
      replace p293 := eq_true p293
      replace q293 := eq_true q293
      refine start_ (n := 10) (S := fun w' => w'.cell? (ad292.add ((x5_1).toNat * 3)) = some (.int .i64 ((rd_T87 l0 x5_1).f0)) ∧ w'.cell? ⟨(ad292.add ((x5_1).toNat * 3)).block, (ad292.add ((x5_1).toNat * 3)).off + 1, none⟩ = some (.int .i64 ((rd_T87 l0 x5_1).f1)) ∧ w'.cell? ⟨(ad292.add ((x5_1).toNat * 3)).block, (ad292.add ((x5_1).toNat * 3)).off + 2, none⟩ = some (.int .i64 ((rd_T87 l0 x5_1).f2)) ∧ w'.cell? (ad293.add ((x5_1).toNat * 3)) = some (.int .i64 ((rd_T87 l1 x5_1).f0)) ∧ w'.cell? ⟨(ad293.add ((x5_1).toNat * 3)).block, (ad293.add ((x5_1).toNat * 3)).off + 1, none⟩ = some (.int .i64 ((rd_T87 l1 x5_1).f1)) ∧ w'.cell? ⟨(ad293.add ((x5_1).toNat * 3)).block, (ad293.add ((x5_1).toNat * 3)).off + 2, none⟩ = some (.int .i64 ((rd_T87 l1 x5_1).f2))) (ds := []) #[false, false, false, false, false, false, false, false, false, false] (by kernel_rfl) rfl rfl ⟨((HB.out.cell (World.block_lt_of_cell? w _ hw292_0)).trans hw292_0), ((HB.out.cell (World.block_lt_of_cell? w _ hw292_1)).trans hw292_1), ((HB.out.cell (World.block_lt_of_cell? w _ hw292_2)).trans hw292_2), ((HB.out.cell (World.block_lt_of_cell? w _ hw293_0)).trans hw293_0), ((HB.out.cell (World.block_lt_of_cell? w _ hw293_1)).trans hw293_1), ((HB.out.cell (World.block_lt_of_cell? w _ hw293_2)).trans hw293_2)⟩ (fun hHeld => ?_); refine with_tabW laws_eqCloudS.tab6 laws_eqCloudS.bits6 (fun HT_ HW_ => ?_)
      generalize wr.drew = w9 at HB hx292_0 hx292_1 hx292_2 hx293_0 hx293_1 hx293_2 hHeld ⊢
      refine pur_ 0 #[true, false, false, false, false, false, false, false, false, false] (some 17) HT_ ?_
      refine pur_ 1 #[true, true, false, false, false, false, false, false, false, false] (some 18) HT_ ?_
      refine pur_ 2 #[true, true, true, false, false, false, false, false, false, false] (some 19) HT_ ?_
      refine pur_ 4 #[true, true, true, false, true, false, false, false, false, false] (some 21) HT_ ?_
      refine pur_ 5 #[true, true, true, false, true, true, false, false, false, false] (some 22) HT_ ?_
      refine pur_ 6 #[true, true, true, false, true, true, true, false, false, false] (some 23) HT_ ?_
      refine tak_ 3 #[true, true, true, true, true, true, true, false, false, false] (some 20) HT_ HW_ hHeld ?_
      refine tak_ 7 #[true, true, true, true, true, true, true, true, false, false] (some 24) HT_ HW_ hHeld ?_
      refine onc_ 8 #[true, true, true, true, true, true, true, true, true, false] (some 25) HT_ Try.func64 (laws_eqCloud.calls ((rd_T87 l0 x5_1).f0) ((rd_T87 l0 x5_1).f1) ((rd_T87 l0 x5_1).f2) ((rd_T87 l1 x5_1).f0) ((rd_T87 l1 x5_1).f1) ((rd_T87 l1 x5_1).f2) true _ A7.out) ?_
      rintro e w10 ⟨rfl, hb⟩
      refine sh1_ (below_step (bl_ HB) hb) ?_
      clear HB hb
      intro HB
      refine ⟨_, _, rfl, ⟨((HB.out.cell (World.block_lt_of_cell? w _ hw292_0)).trans hw292_0), ((HB.out.cell (World.block_lt_of_cell? w _ hw292_1)).trans hw292_1), ((HB.out.cell (World.block_lt_of_cell? w _ hw292_2)).trans hw292_2), ((HB.out.cell (World.block_lt_of_cell? w _ hw293_0)).trans hw293_0), ((HB.out.cell (World.block_lt_of_cell? w _ hw293_1)).trans hw293_1), ((HB.out.cell (World.block_lt_of_cell? w _ hw293_2)).trans hw293_2)⟩, pt_, fun hHeld => ?_⟩
      refine pur_ 9 #[true, true, true, true, true, true, true, true, true, true] (some 26) HT_ ?_
      refine done_ (done_of HT_.out (by kernel_rfl)) ?_
      try go_wp2
      go_roundg k1
      case measure => have := HK1.out; omega
      case rel => exact ⟨(wrap64 (x5_1 + 1)), (by first | rfl | (simp; done) | (simp [*]; done)), H', ⟨by have := HK1.out; omega⟩, ⟨bl_ HB⟩⟩
     ·replace c8 := Bool.eq_false_iff.mpr c8
      subst c8
      have H1 : (some false) = some true := by first | (rw [if_neg (show ¬ (false = true) by decide)] at H; exact H) | rfl
      clear H
      have H := H1
      clear H1
      exact absurd H (by simp)
    ·rw [if_neg c4] at H
     have c4b0 : decide (x5_1 < (l0.length : Int)) = false := decide_eq_false c4
     clear c4
     clear H
     go_wp2
     go_ret
     exact ⟨er_, bl_ HB⟩
 ·rw [if_neg c3] at H
  obtain ⟨c3b0, c3b1⟩ := bn_ c3
  have c3b2 : (l0.length == l1.length) = false := by first | simpa using c3 | (simp at c3 ⊢; omega)
  exact absurd H (by simp)

/-! ### laws_markContactS: function 26 -/
def laws_markContactS.l0 : Nat → List (S82) → Int → Int → Option (Int × (List (S82)))
 | 0, _, _, _ => none
 | k + 1, x0, x1, x5 => if x5 < (x0.length : Int) then (if 0 ≤ x5 then ((some (x0.set (x5 : Int).toNat (⟨x1, (rd_T82 x0 x5).f1, (rd_T82 x0 x5).f2, (rd_T82 x0 x5).f3⟩ : S82) : List (S82))).bind fun y295 => ((some (y295.set (x5 : Int).toNat (⟨(rd_T82 y295 x5).f0, wrap64 (x1 + 1), (rd_T82 y295 x5).f2, (rd_T82 y295 x5).f3⟩ : S82) : List (S82))).bind fun y296 => ((some (y296.set (x5 : Int).toNat (⟨(rd_T82 y296 x5).f0, (rd_T82 y296 x5).f1, wrap64 ((wrap64 (x1 + 1)) + 1), (rd_T82 y296 x5).f3⟩ : S82) : List (S82))).bind fun y297 => (laws_markContactS.l0 k (y297.set (x5 : Int).toNat (⟨(rd_T82 y297 x5).f0, (rd_T82 y297 x5).f1, (rd_T82 y297 x5).f2, wrap64 ((wrap64 ((wrap64 (x1 + 1)) + 1)) + 1)⟩ : S82)) (wrap64 ((wrap64 ((wrap64 ((wrap64 (x1 + 1)) + 1)) + 1)) + 1)) (wrap64 (x5 + 1)))))) else (none)) else (some (x1, x0))
def laws_markContactS.f (k : Nat) (l0 : List (S82)) (a1 : Int) : Option (Int × (List (S82))) := laws_markContactS.l0 k l0 a1 0
theorem laws_markContactS.mono_l : ∀ k, (∀ y0 y1 y2, LeO (laws_markContactS.l0 k y0 y1 y2) (laws_markContactS.l0 (k + 1) y0 y1 y2))
 | 0 => fun _ _ _ r h => by simp [laws_markContactS.l0] at h
 | k + 1 => by
  have ih0 := laws_markContactS.mono_l k
  ·intro y0 y1 y2
   unfold laws_markContactS.l0
   repeat' first | (with_reducible first | exact ih0 _ _ _ | exact LeO.refl _ | exact LeO.none _ | refine LeO.ite ?_ ?_ | refine LeO.bind ?_ (fun _ => ?_)) | exact LeO.none _ | refine LeO.ite ?_ ?_ | refine LeO.bind ?_ (fun _ => ?_)
theorem laws_markContactS.mono : ∀ a0 a1 k, LeO (laws_markContactS.f k a0 a1) (laws_markContactS.f (k + 1) a0 a1) := by
 intro a0 a1 k
 have ih0 := laws_markContactS.mono_l k
 unfold laws_markContactS.f
 repeat' first | (with_reducible first | exact ih0 _ _ _ | exact LeO.refl _ | exact LeO.none _ | refine LeO.ite ?_ ?_ | refine LeO.bind ?_ (fun _ => ?_)) | exact LeO.none _ | refine LeO.ite ?_ ?_ | refine LeO.bind ?_ (fun _ => ?_)
set_option maxHeartbeats 8000000 in
set_option maxRecDepth 100000 in
theorem laws_markContactS.calls (k : Nat) (P0_ : Nat → Prop) (u9000_ : Value) (l0 : List (S82)) (a1 : Int) (r1 : Int) (r2 : List (S82)) (w0 w : World) (hB : Below w0.heap.size w0 w) (ho0 : Kd.R k82 82 w w0.heap.size P0_ u9000_ l0) (h : laws_markContactS.f k l0 a1 = some (r1, r2)) :
  Calls Try.prog 26 #[u9000_, .int .i64 a1] w fun e w' => e = .returned (.int .i64 r1) ∧ Kd.R k82 82 w' w0.heap.size (fun k_ => (P0_ k_ ∨ w.heap.size ≤ k_)) u9000_ r2 ∧ Below w0.heap.size w0 w' ∧ Kept w w' (fun k_ => P0_ k_) := by
 have HO0 := Aside0.mk (show Kd.R k82 82 w w0.heap.size (fun k_ => (P0_ k_ ∨ w.heap.size ≤ k_)) u9000_ l0 from Kd.R_mono ho0 (fun k_ hk => (.inl hk)))
 have HK := Aside0.mk (Kept.refl w (fun k_ => P0_ k_))
 have HW0 := Aside0.mk hB.size
 have HB := Aside0.mk hB
 clear hB
 have H := h
 clear h
 unfold laws_markContactS.f at H
 have H' := Aside0.mk H
 clear H
 go_enter Try.func26, Try.ntmps26
 go_wp2
 go_loopg [1, 5] k (fun kq v1 v5 w' => ∃ (x0_1 : List (S82)) (x1_1 : Int) (x5_1 : Int), v1 = .int .i64 x1_1 ∧ v5 = .int .i64 x5_1 ∧ Aside0 (laws_markContactS.l0 kq x0_1 x1_1 x5_1 = some (r1, r2)) ∧ Aside0 (kq ≤ k) ∧ Aside0 (Kd.R k82 82 w' w0.heap.size (fun k_ => (P0_ k_ ∨ w.heap.size ≤ k_)) u9000_ x0_1) ∧ Aside0 (Kept w w' (fun k_ => P0_ k_)) ∧ Aside0 (Below w0.heap.size w0 w'))
 case atStart => exact ⟨(l0), (a1), (0), (by first | rfl | (simp; done) | (simp [*]; done)), (by first | rfl | (simp; done) | (simp [*]; done)), H', ⟨Nat.le_refl _⟩, ⟨ra_ HO0⟩, ⟨by repeat (first | (with_reducible first | exact HK.out | apply Kept.alloc | apply Kept.drewN | apply Kept.drew) | exact HK.out)⟩, ⟨bl_ HB⟩⟩
 case round =>
  clear H'
  try clear c2
  try clear p2
  obtain ⟨x0_1, x1_1, x5_1, rfl, rfl, HA, HK1, HO_0, HK, HB⟩ := hrel
  cases gk with
  | zero => exact absurd HA.out (by simp [laws_markContactS.l0])
  | succ k1 =>
   have H := HA.out
   clear HA
   simp only [laws_markContactS.l0] at H
   by_cases c3 : x5_1 < (x0_1.length : Int)
   ·rw [if_pos c3] at H
    have c3b0 := decide_eq_true c3
    clear c3
    replace H := ifn_ H
    obtain ⟨c4, H⟩ := H
    have c4b0 := decide_eq_true c4
    clear c4
    replace H : ∃ y_ : List (S82), Aside0 (y_ = (x0_1.set (x5_1 : Int).toNat (⟨x1_1, (rd_T82 x0_1 x5_1).f1, (rd_T82 x0_1 x5_1).f2, (rd_T82 x0_1 x5_1).f3⟩ : S82))) ∧ ((some (y_.set (x5_1 : Int).toNat (⟨(rd_T82 y_ x5_1).f0, wrap64 (x1_1 + 1), (rd_T82 y_ x5_1).f2, (rd_T82 y_ x5_1).f3⟩ : S82) : List (S82))).bind fun y296 => ((some (y296.set (x5_1 : Int).toNat (⟨(rd_T82 y296 x5_1).f0, (rd_T82 y296 x5_1).f1, wrap64 ((wrap64 (x1_1 + 1)) + 1), (rd_T82 y296 x5_1).f3⟩ : S82) : List (S82))).bind fun y297 => (laws_markContactS.l0 k1 (y297.set (x5_1 : Int).toNat (⟨(rd_T82 y297 x5_1).f0, (rd_T82 y297 x5_1).f1, (rd_T82 y297 x5_1).f2, wrap64 ((wrap64 ((wrap64 (x1_1 + 1)) + 1)) + 1)⟩ : S82)) (wrap64 ((wrap64 ((wrap64 ((wrap64 (x1_1 + 1)) + 1)) + 1)) + 1)) (wrap64 (x5_1 + 1))))) = some (r1, r2) := ⟨_, ⟨rfl⟩, yh_ H⟩
    obtain ⟨y295, Ny295, H⟩ := H
    replace H : ∃ y_ : List (S82), Aside0 (y_ = (y295.set (x5_1 : Int).toNat (⟨(rd_T82 y295 x5_1).f0, wrap64 (x1_1 + 1), (rd_T82 y295 x5_1).f2, (rd_T82 y295 x5_1).f3⟩ : S82))) ∧ ((some (y_.set (x5_1 : Int).toNat (⟨(rd_T82 y_ x5_1).f0, (rd_T82 y_ x5_1).f1, wrap64 ((wrap64 (x1_1 + 1)) + 1), (rd_T82 y_ x5_1).f3⟩ : S82) : List (S82))).bind fun y297 => (laws_markContactS.l0 k1 (y297.set (x5_1 : Int).toNat (⟨(rd_T82 y297 x5_1).f0, (rd_T82 y297 x5_1).f1, (rd_T82 y297 x5_1).f2, wrap64 ((wrap64 ((wrap64 (x1_1 + 1)) + 1)) + 1)⟩ : S82)) (wrap64 ((wrap64 ((wrap64 ((wrap64 (x1_1 + 1)) + 1)) + 1)) + 1)) (wrap64 (x5_1 + 1)))) = some (r1, r2) := ⟨_, ⟨rfl⟩, yh_ H⟩
    obtain ⟨y296, Ny296, H⟩ := H
    replace H : ∃ y_ : List (S82), Aside0 (y_ = (y296.set (x5_1 : Int).toNat (⟨(rd_T82 y296 x5_1).f0, (rd_T82 y296 x5_1).f1, wrap64 ((wrap64 (x1_1 + 1)) + 1), (rd_T82 y296 x5_1).f3⟩ : S82))) ∧ (laws_markContactS.l0 k1 (y_.set (x5_1 : Int).toNat (⟨(rd_T82 y_ x5_1).f0, (rd_T82 y_ x5_1).f1, (rd_T82 y_ x5_1).f2, wrap64 ((wrap64 ((wrap64 (x1_1 + 1)) + 1)) + 1)⟩ : S82)) (wrap64 ((wrap64 ((wrap64 ((wrap64 (x1_1 + 1)) + 1)) + 1)) + 1)) (wrap64 (x5_1 + 1))) = some (r1, r2) := ⟨_, ⟨rfl⟩, yh_ H⟩
    obtain ⟨y297, Ny297, H⟩ := H
    replace H : ∃ y_ : List (S82), Aside0 (y_ = (y297.set (x5_1 : Int).toNat (⟨(rd_T82 y297 x5_1).f0, (rd_T82 y297 x5_1).f1, (rd_T82 y297 x5_1).f2, wrap64 ((wrap64 ((wrap64 (x1_1 + 1)) + 1)) + 1)⟩ : S82))) ∧ (laws_markContactS.l0 k1 y_ (wrap64 ((wrap64 ((wrap64 ((wrap64 (x1_1 + 1)) + 1)) + 1)) + 1)) (wrap64 (x5_1 + 1))) = some (r1, r2) := ⟨_, ⟨rfl⟩, yh_ H⟩
    obtain ⟨y298, Ny298, H⟩ := H
    have H' := Aside0.mk H
    clear H
    obtain ⟨Ao9, co9, eo9⟩ := Kd.R_slice HO_0.out
    subst eo9
    have p5 : 0 ≤ (x5_1 : Int) := od_
    have q5 : (x5_1 : Int) < ((x0_1.length : Int) : Int) := od_
    obtain ⟨go5, co5, eo5, gb5, gl5, cl5, HG5⟩ := Kd.R_form HO_0.out (by omega)
    (first | cases eo5 | (injection eo5 with ea_ en_ ec_; (first | subst ea_ | (injection ea_ with ea_; subst ea_)); subst ec_; clear en_))
    have GB5 := Aside0.mk gb5
    have GG5 := Aside0.mk HG5
    clear gb5 gl5 HG5
    have HMgo5 := Aside0.mk (show (P0_ go5 ∨ w.heap.size ≤ go5) from (HO_0.out.1 _ rfl))
    obtain ⟨ce5, hcl5, hM5, hcc5, hfr5⟩ := Kd.R_elem HO_0.out z82 (x5_1 : Int) p5 q5
    obtain rfl := k82_openM hM5
    have hx5_0 : wr.cell? ⟨go5, (x5_1 : Int).toNat * 4, none⟩ = some (.int .i64 ((rd_T82 x0_1 x5_1).f0)) := hcc5 0 _ rfl
    have hx5_1 : wr.cell? ⟨go5, (x5_1 : Int).toNat * 4 + 1, none⟩ = some (.int .i64 ((rd_T82 x0_1 x5_1).f1)) := hcc5 1 _ rfl
    have hx5_2 : wr.cell? ⟨go5, (x5_1 : Int).toNat * 4 + 2, none⟩ = some (.int .i64 ((rd_T82 x0_1 x5_1).f2)) := hcc5 2 _ rfl
    have hx5_3 : wr.cell? ⟨go5, (x5_1 : Int).toNat * 4 + 3, none⟩ = some (.int .i64 ((rd_T82 x0_1 x5_1).f3)) := hcc5 3 _ rfl
    have hf5_0 : wr.frozen? ⟨go5, (x5_1 : Int).toNat * 4, none⟩ = false := hfr5 0
    have hf5_1 : wr.frozen? ⟨go5, (x5_1 : Int).toNat * 4 + 1, none⟩ = false := hfr5 1
    have hf5_2 : wr.frozen? ⟨go5, (x5_1 : Int).toNat * 4 + 2, none⟩ = false := hfr5 2
    have hf5_3 : wr.frozen? ⟨go5, (x5_1 : Int).toNat * 4 + 3, none⟩ = false := hfr5 3
    clear hcl5 hcc5 hfr5 hM5
    replace p5 := eq_true p5
    replace q5 := eq_true q5
    have HX10 := Aside0.mk (show Kd.R k82 82 wr w0.heap.size (fun k_ => (P0_ k_ ∨ w.heap.size ≤ k_)) (.slice (some ⟨go5, 0, none⟩) x0_1.length co9) x0_1 from (ra_ HO_0))
    obtain ⟨ce10, hcl10, hM10, hcc10, hfr10⟩ := Kd.R_elem HX10.out z82 (x5_1 : Int) od_ (by have h_ : (x5_1 : Int) < ((x0_1.length : Int) : Int) := od_; first | exact h_ | (have e_ := (Kd.R_reads' HO_0.out).1; omega) | simpa using h_)
    obtain rfl := k82_openM hM10
    have HP10 := Kd.R_seg HX10.out (x5_1 : Int) od_ (by have h_ : (x5_1 : Int) < ((x0_1.length : Int) : Int) := od_; first | exact h_ | (have e_ := (Kd.R_reads' HO_0.out).1; omega) | simpa using h_) (seg := [.int .i64 x1_1]) (j := 0) hcl10 hcc10 (show 1 ≤ 4 from by decide) (x' := (⟨x1_1, (rd_T82 x0_1 x5_1).f1, (rd_T82 x0_1 x5_1).f2, (rd_T82 x0_1 x5_1).f3⟩ : S82)) (k82_mkM _ _ _ (⟨x1_1, (rd_T82 x0_1 x5_1).f1, (rd_T82 x0_1 x5_1).f2, (rd_T82 x0_1 x5_1).f3⟩ : S82) ) (fun _ hk => hk)
    have hx10_0 := hcc10 0 _ rfl
    (try simp only [show (k82).sz = 4 from rfl, Nat.mul_one, Nat.add_zero] at hx10_0)
    have hf10_0 := hfr10 0
    (try simp only [show (k82).sz = 4 from rfl, Nat.mul_one, Nat.add_zero] at hf10_0)
    clear hcl10 hcc10 hfr10 hM10
    go_wp2_with (first | ((with_reducible refine gate_store (t := 3) (p := 16) rfl ?_); refine store_event (t := 3) (p := 16) (v := ?vo_w11) (w1 := (wr.setCell ⟨go5, (x5_1 : Int).toNat * 4, none⟩ (.int .i64 x1_1))) ?hg ?ho ?hn ?hr ?_; (case ho => rfl); (case hg => rfl); (case hn => rfl); (case hr => first | (go_simp; done) | (go_simp; rfl)); intro w11 hw; have hg : wr.grownBy w11 (some go5) := (by rw [hw]; exact HP10.2); have hp_ : Kd.R k82 82 w11 w0.heap.size (fun k_ => (P0_ k_ ∨ w.heap.size ≤ k_)) (.slice (some ⟨go5, 0, none⟩) x0_1.length co9) y295 := (by rw [hw, Ny295.out]; exact HP10.1); clear HP10; refine sh3_ hp_ ((by rw [hw]; exact below_set (HB.out) GB5.out : Below w0.heap.size w0 w11)) (Kept.of_grown (S := (fun k_ => P0_ k_)) hg (by repeat (first | (with_reducible first | exact HK.out | apply Kept.alloc | apply Kept.drewN | apply Kept.drew) | exact HK.out)) (fun k_ e_ => (HO_0.out.1 k_ e_))) ?_; clear HO_0 HB HK; intro HO_0 HB HK; clear hg hw hp_; have p6 : 0 ≤ (x5_1 : Int) := od_; have q6 : (x5_1 : Int) < ((x0_1.length : Int) : Int) := od_; obtain ⟨ce6, hcl6, hM6, hcc6, hfr6⟩ := Kd.R_elem HO_0.out z82 (x5_1 : Int) p6 q6; obtain rfl := k82_openM hM6; have hx6_0 : w11.cell? ⟨go5, (x5_1 : Int).toNat * 4, none⟩ = some (.int .i64 ((rd_T82 y295 x5_1).f0)) := hcc6 0 _ rfl; have hx6_1 : w11.cell? ⟨go5, (x5_1 : Int).toNat * 4 + 1, none⟩ = some (.int .i64 ((rd_T82 y295 x5_1).f1)) := hcc6 1 _ rfl; have hx6_2 : w11.cell? ⟨go5, (x5_1 : Int).toNat * 4 + 2, none⟩ = some (.int .i64 ((rd_T82 y295 x5_1).f2)) := hcc6 2 _ rfl; have hx6_3 : w11.cell? ⟨go5, (x5_1 : Int).toNat * 4 + 3, none⟩ = some (.int .i64 ((rd_T82 y295 x5_1).f3)) := hcc6 3 _ rfl; have hf6_0 : w11.frozen? ⟨go5, (x5_1 : Int).toNat * 4, none⟩ = false := hfr6 0; have hf6_1 : w11.frozen? ⟨go5, (x5_1 : Int).toNat * 4 + 1, none⟩ = false := hfr6 1; have hf6_2 : w11.frozen? ⟨go5, (x5_1 : Int).toNat * 4 + 2, none⟩ = false := hfr6 2; have hf6_3 : w11.frozen? ⟨go5, (x5_1 : Int).toNat * 4 + 3, none⟩ = false := hfr6 3; clear hcl6 hcc6 hfr6 hM6; replace p6 := eq_true p6; replace q6 := eq_true q6; have HX12 := Aside0.mk (show Kd.R k82 82 w11 w0.heap.size (fun k_ => (P0_ k_ ∨ w.heap.size ≤ k_)) (.slice (some ⟨go5, 0, none⟩) x0_1.length co9) y295 from (ra_ HO_0)); obtain ⟨ce12, hcl12, hM12, hcc12, hfr12⟩ := Kd.R_elem HX12.out z82 (x5_1 : Int) od_ (by have h_ : (x5_1 : Int) < ((x0_1.length : Int) : Int) := od_; first | exact h_ | (have e_ := (Kd.R_reads' HO_0.out).1; omega) | simpa using h_); obtain rfl := k82_openM hM12; have HP12 := Kd.R_seg HX12.out (x5_1 : Int) od_ (by have h_ : (x5_1 : Int) < ((x0_1.length : Int) : Int) := od_; first | exact h_ | (have e_ := (Kd.R_reads' HO_0.out).1; omega) | simpa using h_) (seg := [.int .i64 (wrap64 (x1_1 + 1))]) (j := 1) hcl12 hcc12 (show 2 ≤ 4 from by decide) (x' := (⟨(rd_T82 y295 x5_1).f0, wrap64 (x1_1 + 1), (rd_T82 y295 x5_1).f2, (rd_T82 y295 x5_1).f3⟩ : S82)) (k82_mkM _ _ _ (⟨(rd_T82 y295 x5_1).f0, wrap64 (x1_1 + 1), (rd_T82 y295 x5_1).f2, (rd_T82 y295 x5_1).f3⟩ : S82) ) (fun _ hk => hk); have hx12_1 := hcc12 1 _ rfl; (try simp only [show (k82).sz = 4 from rfl, Nat.mul_one, Nat.add_zero] at hx12_1); have hf12_1 := hfr12 1; (try simp only [show (k82).sz = 4 from rfl, Nat.mul_one, Nat.add_zero] at hf12_1); clear hcl12 hcc12 hfr12 hM12) | ((with_reducible refine gate_store (t := 3) (p := 23) rfl ?_); refine store_event (t := 3) (p := 23) (v := ?vo_w13) (w1 := (w11.setCell ⟨go5, (x5_1 : Int).toNat * 4 + 1, none⟩ (.int .i64 (wrap64 (x1_1 + 1))))) ?hg ?ho ?hn ?hr ?_; (case ho => rfl); (case hg => rfl); (case hn => rfl); (case hr => first | (go_simp; done) | (go_simp; rfl)); intro w13 hw; have hg : w11.grownBy w13 (some go5) := (by rw [hw]; exact HP12.2); have hp_ : Kd.R k82 82 w13 w0.heap.size (fun k_ => (P0_ k_ ∨ w.heap.size ≤ k_)) (.slice (some ⟨go5, 0, none⟩) x0_1.length co9) y296 := (by rw [hw, Ny296.out]; exact HP12.1); clear HP12; refine sh3_ hp_ ((by rw [hw]; exact below_set (HB.out) GB5.out : Below w0.heap.size w0 w13)) (Kept.of_grown (S := (fun k_ => P0_ k_)) hg (by repeat (first | (with_reducible first | exact HK.out | apply Kept.alloc | apply Kept.drewN | apply Kept.drew) | exact HK.out)) (fun k_ e_ => (HO_0.out.1 k_ e_))) ?_; clear HO_0 HB HK; intro HO_0 HB HK; clear hg hw hp_; have p7 : 0 ≤ (x5_1 : Int) := od_; have q7 : (x5_1 : Int) < ((x0_1.length : Int) : Int) := od_; obtain ⟨ce7, hcl7, hM7, hcc7, hfr7⟩ := Kd.R_elem HO_0.out z82 (x5_1 : Int) p7 q7; obtain rfl := k82_openM hM7; have hx7_0 : w13.cell? ⟨go5, (x5_1 : Int).toNat * 4, none⟩ = some (.int .i64 ((rd_T82 y296 x5_1).f0)) := hcc7 0 _ rfl; have hx7_1 : w13.cell? ⟨go5, (x5_1 : Int).toNat * 4 + 1, none⟩ = some (.int .i64 ((rd_T82 y296 x5_1).f1)) := hcc7 1 _ rfl; have hx7_2 : w13.cell? ⟨go5, (x5_1 : Int).toNat * 4 + 2, none⟩ = some (.int .i64 ((rd_T82 y296 x5_1).f2)) := hcc7 2 _ rfl; have hx7_3 : w13.cell? ⟨go5, (x5_1 : Int).toNat * 4 + 3, none⟩ = some (.int .i64 ((rd_T82 y296 x5_1).f3)) := hcc7 3 _ rfl; have hf7_0 : w13.frozen? ⟨go5, (x5_1 : Int).toNat * 4, none⟩ = false := hfr7 0; have hf7_1 : w13.frozen? ⟨go5, (x5_1 : Int).toNat * 4 + 1, none⟩ = false := hfr7 1; have hf7_2 : w13.frozen? ⟨go5, (x5_1 : Int).toNat * 4 + 2, none⟩ = false := hfr7 2; have hf7_3 : w13.frozen? ⟨go5, (x5_1 : Int).toNat * 4 + 3, none⟩ = false := hfr7 3; clear hcl7 hcc7 hfr7 hM7; replace p7 := eq_true p7; replace q7 := eq_true q7; have HX14 := Aside0.mk (show Kd.R k82 82 w13 w0.heap.size (fun k_ => (P0_ k_ ∨ w.heap.size ≤ k_)) (.slice (some ⟨go5, 0, none⟩) x0_1.length co9) y296 from (ra_ HO_0)); obtain ⟨ce14, hcl14, hM14, hcc14, hfr14⟩ := Kd.R_elem HX14.out z82 (x5_1 : Int) od_ (by have h_ : (x5_1 : Int) < ((x0_1.length : Int) : Int) := od_; first | exact h_ | (have e_ := (Kd.R_reads' HO_0.out).1; omega) | simpa using h_); obtain rfl := k82_openM hM14; have HP14 := Kd.R_seg HX14.out (x5_1 : Int) od_ (by have h_ : (x5_1 : Int) < ((x0_1.length : Int) : Int) := od_; first | exact h_ | (have e_ := (Kd.R_reads' HO_0.out).1; omega) | simpa using h_) (seg := [.int .i64 (wrap64 ((wrap64 (x1_1 + 1)) + 1))]) (j := 2) hcl14 hcc14 (show 3 ≤ 4 from by decide) (x' := (⟨(rd_T82 y296 x5_1).f0, (rd_T82 y296 x5_1).f1, wrap64 ((wrap64 (x1_1 + 1)) + 1), (rd_T82 y296 x5_1).f3⟩ : S82)) (k82_mkM _ _ _ (⟨(rd_T82 y296 x5_1).f0, (rd_T82 y296 x5_1).f1, wrap64 ((wrap64 (x1_1 + 1)) + 1), (rd_T82 y296 x5_1).f3⟩ : S82) ) (fun _ hk => hk); have hx14_2 := hcc14 2 _ rfl; (try simp only [show (k82).sz = 4 from rfl, Nat.mul_one, Nat.add_zero] at hx14_2); have hf14_2 := hfr14 2; (try simp only [show (k82).sz = 4 from rfl, Nat.mul_one, Nat.add_zero] at hf14_2); clear hcl14 hcc14 hfr14 hM14) | ((with_reducible refine gate_store (t := 3) (p := 30) rfl ?_); refine store_event (t := 3) (p := 30) (v := ?vo_w15) (w1 := (w13.setCell ⟨go5, (x5_1 : Int).toNat * 4 + 2, none⟩ (.int .i64 (wrap64 ((wrap64 (x1_1 + 1)) + 1))))) ?hg ?ho ?hn ?hr ?_; (case ho => rfl); (case hg => rfl); (case hn => rfl); (case hr => first | (go_simp; done) | (go_simp; rfl)); intro w15 hw; have hg : w13.grownBy w15 (some go5) := (by rw [hw]; exact HP14.2); have hp_ : Kd.R k82 82 w15 w0.heap.size (fun k_ => (P0_ k_ ∨ w.heap.size ≤ k_)) (.slice (some ⟨go5, 0, none⟩) x0_1.length co9) y297 := (by rw [hw, Ny297.out]; exact HP14.1); clear HP14; refine sh3_ hp_ ((by rw [hw]; exact below_set (HB.out) GB5.out : Below w0.heap.size w0 w15)) (Kept.of_grown (S := (fun k_ => P0_ k_)) hg (by repeat (first | (with_reducible first | exact HK.out | apply Kept.alloc | apply Kept.drewN | apply Kept.drew) | exact HK.out)) (fun k_ e_ => (HO_0.out.1 k_ e_))) ?_; clear HO_0 HB HK; intro HO_0 HB HK; clear hg hw hp_; have p8 : 0 ≤ (x5_1 : Int) := od_; have q8 : (x5_1 : Int) < ((x0_1.length : Int) : Int) := od_; obtain ⟨ce8, hcl8, hM8, hcc8, hfr8⟩ := Kd.R_elem HO_0.out z82 (x5_1 : Int) p8 q8; obtain rfl := k82_openM hM8; have hx8_0 : w15.cell? ⟨go5, (x5_1 : Int).toNat * 4, none⟩ = some (.int .i64 ((rd_T82 y297 x5_1).f0)) := hcc8 0 _ rfl; have hx8_1 : w15.cell? ⟨go5, (x5_1 : Int).toNat * 4 + 1, none⟩ = some (.int .i64 ((rd_T82 y297 x5_1).f1)) := hcc8 1 _ rfl; have hx8_2 : w15.cell? ⟨go5, (x5_1 : Int).toNat * 4 + 2, none⟩ = some (.int .i64 ((rd_T82 y297 x5_1).f2)) := hcc8 2 _ rfl; have hx8_3 : w15.cell? ⟨go5, (x5_1 : Int).toNat * 4 + 3, none⟩ = some (.int .i64 ((rd_T82 y297 x5_1).f3)) := hcc8 3 _ rfl; have hf8_0 : w15.frozen? ⟨go5, (x5_1 : Int).toNat * 4, none⟩ = false := hfr8 0; have hf8_1 : w15.frozen? ⟨go5, (x5_1 : Int).toNat * 4 + 1, none⟩ = false := hfr8 1; have hf8_2 : w15.frozen? ⟨go5, (x5_1 : Int).toNat * 4 + 2, none⟩ = false := hfr8 2; have hf8_3 : w15.frozen? ⟨go5, (x5_1 : Int).toNat * 4 + 3, none⟩ = false := hfr8 3; clear hcl8 hcc8 hfr8 hM8; replace p8 := eq_true p8; replace q8 := eq_true q8; have HX16 := Aside0.mk (show Kd.R k82 82 w15 w0.heap.size (fun k_ => (P0_ k_ ∨ w.heap.size ≤ k_)) (.slice (some ⟨go5, 0, none⟩) x0_1.length co9) y297 from (ra_ HO_0)); obtain ⟨ce16, hcl16, hM16, hcc16, hfr16⟩ := Kd.R_elem HX16.out z82 (x5_1 : Int) od_ (by have h_ : (x5_1 : Int) < ((x0_1.length : Int) : Int) := od_; first | exact h_ | (have e_ := (Kd.R_reads' HO_0.out).1; omega) | simpa using h_); obtain rfl := k82_openM hM16; have HP16 := Kd.R_seg HX16.out (x5_1 : Int) od_ (by have h_ : (x5_1 : Int) < ((x0_1.length : Int) : Int) := od_; first | exact h_ | (have e_ := (Kd.R_reads' HO_0.out).1; omega) | simpa using h_) (seg := [.int .i64 (wrap64 ((wrap64 ((wrap64 (x1_1 + 1)) + 1)) + 1))]) (j := 3) hcl16 hcc16 (show 4 ≤ 4 from by decide) (x' := (⟨(rd_T82 y297 x5_1).f0, (rd_T82 y297 x5_1).f1, (rd_T82 y297 x5_1).f2, wrap64 ((wrap64 ((wrap64 (x1_1 + 1)) + 1)) + 1)⟩ : S82)) (k82_mkM _ _ _ (⟨(rd_T82 y297 x5_1).f0, (rd_T82 y297 x5_1).f1, (rd_T82 y297 x5_1).f2, wrap64 ((wrap64 ((wrap64 (x1_1 + 1)) + 1)) + 1)⟩ : S82) ) (fun _ hk => hk); have hx16_3 := hcc16 3 _ rfl; (try simp only [show (k82).sz = 4 from rfl, Nat.mul_one, Nat.add_zero] at hx16_3); have hf16_3 := hfr16 3; (try simp only [show (k82).sz = 4 from rfl, Nat.mul_one, Nat.add_zero] at hf16_3); clear hcl16 hcc16 hfr16 hM16) | ((with_reducible refine gate_store (t := 3) (p := 37) rfl ?_); refine store_event (t := 3) (p := 37) (v := ?vo_w17) (w1 := (w15.setCell ⟨go5, (x5_1 : Int).toNat * 4 + 3, none⟩ (.int .i64 (wrap64 ((wrap64 ((wrap64 (x1_1 + 1)) + 1)) + 1))))) ?hg ?ho ?hn ?hr ?_; (case ho => rfl); (case hg => rfl); (case hn => rfl); (case hr => first | (go_simp; done) | (go_simp; rfl)); intro w17 hw; have hg : w15.grownBy w17 (some go5) := (by rw [hw]; exact HP16.2); have hp_ : Kd.R k82 82 w17 w0.heap.size (fun k_ => (P0_ k_ ∨ w.heap.size ≤ k_)) (.slice (some ⟨go5, 0, none⟩) x0_1.length co9) y298 := (by rw [hw, Ny298.out]; exact HP16.1); clear HP16; refine sh3_ hp_ ((by rw [hw]; exact below_set (HB.out) GB5.out : Below w0.heap.size w0 w17)) (Kept.of_grown (S := (fun k_ => P0_ k_)) hg (by repeat (first | (with_reducible first | exact HK.out | apply Kept.alloc | apply Kept.drewN | apply Kept.drew) | exact HK.out)) (fun k_ e_ => (HO_0.out.1 k_ e_))) ?_; clear HO_0 HB HK; intro HO_0 HB HK; clear hg hw hp_))
    go_roundg k1
    case measure => have := HK1.out; omega
    case rel => exact ⟨(y298), (wrap64 ((wrap64 ((wrap64 ((wrap64 (x1_1 + 1)) + 1)) + 1)) + 1)), (wrap64 (x5_1 + 1)), (by first | rfl | (simp; done) | (simp [*]; done)), (by first | rfl | (simp; done) | (simp [*]; done)), H', ⟨by have := HK1.out; omega⟩, ⟨ra_ HO_0⟩, ⟨by repeat (first | (with_reducible first | exact HK.out | apply Kept.alloc | apply Kept.drewN | apply Kept.drew) | exact HK.out)⟩, ⟨bl_ HB⟩⟩
   ·rw [if_neg c3] at H
    have c3b0 : decide (x5_1 < (x0_1.length : Int)) = false := decide_eq_false c3
    clear c3
    simp only [Option.some.injEq, Prod.mk.injEq] at H
    obtain ⟨rfl, rfl⟩ := H
    obtain ⟨Ao18, co18, eo18⟩ := Kd.R_slice HO_0.out
    subst eo18
    go_wp2
    go_ret
    exact ⟨er_, ra_ HO_0, bl_ HB, by repeat (first | (with_reducible first | exact HK.out | apply Kept.alloc | apply Kept.drewN | apply Kept.drew) | exact HK.out)⟩

/-! ### laws_markCloudS: function 27 -/
def laws_markCloudS.l0 : Nat → List (S87) → Int → Int → Option (Int × (List (S87)))
 | 0, _, _, _ => none
 | k + 1, x0, x1, x5 => if x5 < (x0.length : Int) then (if 0 ≤ x5 then ((some (x0.set (x5 : Int).toNat (⟨x1, (rd_T87 x0 x5).f1, (rd_T87 x0 x5).f2⟩ : S87) : List (S87))).bind fun y299 => ((some (y299.set (x5 : Int).toNat (⟨(rd_T87 y299 x5).f0, wrap64 (x1 + 1), (rd_T87 y299 x5).f2⟩ : S87) : List (S87))).bind fun y300 => (laws_markCloudS.l0 k (y300.set (x5 : Int).toNat (⟨(rd_T87 y300 x5).f0, (rd_T87 y300 x5).f1, wrap64 ((wrap64 (x1 + 1)) + 1)⟩ : S87)) (wrap64 ((wrap64 ((wrap64 (x1 + 1)) + 1)) + 1)) (wrap64 (x5 + 1))))) else (none)) else (some (x1, x0))
def laws_markCloudS.f (k : Nat) (l0 : List (S87)) (a1 : Int) : Option (Int × (List (S87))) := laws_markCloudS.l0 k l0 a1 0
theorem laws_markCloudS.mono_l : ∀ k, (∀ y0 y1 y2, LeO (laws_markCloudS.l0 k y0 y1 y2) (laws_markCloudS.l0 (k + 1) y0 y1 y2))
 | 0 => fun _ _ _ r h => by simp [laws_markCloudS.l0] at h
 | k + 1 => by
  have ih0 := laws_markCloudS.mono_l k
  ·intro y0 y1 y2
   unfold laws_markCloudS.l0
   repeat' first | (with_reducible first | exact ih0 _ _ _ | exact LeO.refl _ | exact LeO.none _ | refine LeO.ite ?_ ?_ | refine LeO.bind ?_ (fun _ => ?_)) | exact LeO.none _ | refine LeO.ite ?_ ?_ | refine LeO.bind ?_ (fun _ => ?_)
theorem laws_markCloudS.mono : ∀ a0 a1 k, LeO (laws_markCloudS.f k a0 a1) (laws_markCloudS.f (k + 1) a0 a1) := by
 intro a0 a1 k
 have ih0 := laws_markCloudS.mono_l k
 unfold laws_markCloudS.f
 repeat' first | (with_reducible first | exact ih0 _ _ _ | exact LeO.refl _ | exact LeO.none _ | refine LeO.ite ?_ ?_ | refine LeO.bind ?_ (fun _ => ?_)) | exact LeO.none _ | refine LeO.ite ?_ ?_ | refine LeO.bind ?_ (fun _ => ?_)
set_option maxHeartbeats 8000000 in
set_option maxRecDepth 100000 in
theorem laws_markCloudS.calls (k : Nat) (P0_ : Nat → Prop) (u9000_ : Value) (l0 : List (S87)) (a1 : Int) (r1 : Int) (r2 : List (S87)) (w0 w : World) (hB : Below w0.heap.size w0 w) (ho0 : Kd.R k87 87 w w0.heap.size P0_ u9000_ l0) (h : laws_markCloudS.f k l0 a1 = some (r1, r2)) :
  Calls Try.prog 27 #[u9000_, .int .i64 a1] w fun e w' => e = .returned (.int .i64 r1) ∧ Kd.R k87 87 w' w0.heap.size (fun k_ => (P0_ k_ ∨ w.heap.size ≤ k_)) u9000_ r2 ∧ Below w0.heap.size w0 w' ∧ Kept w w' (fun k_ => P0_ k_) := by
 have HO0 := Aside0.mk (show Kd.R k87 87 w w0.heap.size (fun k_ => (P0_ k_ ∨ w.heap.size ≤ k_)) u9000_ l0 from Kd.R_mono ho0 (fun k_ hk => (.inl hk)))
 have HK := Aside0.mk (Kept.refl w (fun k_ => P0_ k_))
 have HW0 := Aside0.mk hB.size
 have HB := Aside0.mk hB
 clear hB
 have H := h
 clear h
 unfold laws_markCloudS.f at H
 have H' := Aside0.mk H
 clear H
 go_enter Try.func27, Try.ntmps27
 go_wp2
 go_loopg [1, 5] k (fun kq v1 v5 w' => ∃ (x0_1 : List (S87)) (x1_1 : Int) (x5_1 : Int), v1 = .int .i64 x1_1 ∧ v5 = .int .i64 x5_1 ∧ Aside0 (laws_markCloudS.l0 kq x0_1 x1_1 x5_1 = some (r1, r2)) ∧ Aside0 (kq ≤ k) ∧ Aside0 (Kd.R k87 87 w' w0.heap.size (fun k_ => (P0_ k_ ∨ w.heap.size ≤ k_)) u9000_ x0_1) ∧ Aside0 (Kept w w' (fun k_ => P0_ k_)) ∧ Aside0 (Below w0.heap.size w0 w'))
 case atStart => exact ⟨(l0), (a1), (0), (by first | rfl | (simp; done) | (simp [*]; done)), (by first | rfl | (simp; done) | (simp [*]; done)), H', ⟨Nat.le_refl _⟩, ⟨ra_ HO0⟩, ⟨by repeat (first | (with_reducible first | exact HK.out | apply Kept.alloc | apply Kept.drewN | apply Kept.drew) | exact HK.out)⟩, ⟨bl_ HB⟩⟩
 case round =>
  clear H'
  try clear c2
  try clear p2
  obtain ⟨x0_1, x1_1, x5_1, rfl, rfl, HA, HK1, HO_0, HK, HB⟩ := hrel
  cases gk with
  | zero => exact absurd HA.out (by simp [laws_markCloudS.l0])
  | succ k1 =>
   have H := HA.out
   clear HA
   simp only [laws_markCloudS.l0] at H
   by_cases c3 : x5_1 < (x0_1.length : Int)
   ·rw [if_pos c3] at H
    have c3b0 := decide_eq_true c3
    clear c3
    replace H := ifn_ H
    obtain ⟨c4, H⟩ := H
    have c4b0 := decide_eq_true c4
    clear c4
    replace H : ∃ y_ : List (S87), Aside0 (y_ = (x0_1.set (x5_1 : Int).toNat (⟨x1_1, (rd_T87 x0_1 x5_1).f1, (rd_T87 x0_1 x5_1).f2⟩ : S87))) ∧ ((some (y_.set (x5_1 : Int).toNat (⟨(rd_T87 y_ x5_1).f0, wrap64 (x1_1 + 1), (rd_T87 y_ x5_1).f2⟩ : S87) : List (S87))).bind fun y300 => (laws_markCloudS.l0 k1 (y300.set (x5_1 : Int).toNat (⟨(rd_T87 y300 x5_1).f0, (rd_T87 y300 x5_1).f1, wrap64 ((wrap64 (x1_1 + 1)) + 1)⟩ : S87)) (wrap64 ((wrap64 ((wrap64 (x1_1 + 1)) + 1)) + 1)) (wrap64 (x5_1 + 1)))) = some (r1, r2) := ⟨_, ⟨rfl⟩, yh_ H⟩
    obtain ⟨y299, Ny299, H⟩ := H
    replace H : ∃ y_ : List (S87), Aside0 (y_ = (y299.set (x5_1 : Int).toNat (⟨(rd_T87 y299 x5_1).f0, wrap64 (x1_1 + 1), (rd_T87 y299 x5_1).f2⟩ : S87))) ∧ (laws_markCloudS.l0 k1 (y_.set (x5_1 : Int).toNat (⟨(rd_T87 y_ x5_1).f0, (rd_T87 y_ x5_1).f1, wrap64 ((wrap64 (x1_1 + 1)) + 1)⟩ : S87)) (wrap64 ((wrap64 ((wrap64 (x1_1 + 1)) + 1)) + 1)) (wrap64 (x5_1 + 1))) = some (r1, r2) := ⟨_, ⟨rfl⟩, yh_ H⟩
    obtain ⟨y300, Ny300, H⟩ := H
    replace H : ∃ y_ : List (S87), Aside0 (y_ = (y300.set (x5_1 : Int).toNat (⟨(rd_T87 y300 x5_1).f0, (rd_T87 y300 x5_1).f1, wrap64 ((wrap64 (x1_1 + 1)) + 1)⟩ : S87))) ∧ (laws_markCloudS.l0 k1 y_ (wrap64 ((wrap64 ((wrap64 (x1_1 + 1)) + 1)) + 1)) (wrap64 (x5_1 + 1))) = some (r1, r2) := ⟨_, ⟨rfl⟩, yh_ H⟩
    obtain ⟨y301, Ny301, H⟩ := H
    have H' := Aside0.mk H
    clear H
    obtain ⟨Ao8, co8, eo8⟩ := Kd.R_slice HO_0.out
    subst eo8
    have p5 : 0 ≤ (x5_1 : Int) := od_
    have q5 : (x5_1 : Int) < ((x0_1.length : Int) : Int) := od_
    obtain ⟨go5, co5, eo5, gb5, gl5, cl5, HG5⟩ := Kd.R_form HO_0.out (by omega)
    (first | cases eo5 | (injection eo5 with ea_ en_ ec_; (first | subst ea_ | (injection ea_ with ea_; subst ea_)); subst ec_; clear en_))
    have GB5 := Aside0.mk gb5
    have GG5 := Aside0.mk HG5
    clear gb5 gl5 HG5
    have HMgo5 := Aside0.mk (show (P0_ go5 ∨ w.heap.size ≤ go5) from (HO_0.out.1 _ rfl))
    obtain ⟨ce5, hcl5, hM5, hcc5, hfr5⟩ := Kd.R_elem HO_0.out z87 (x5_1 : Int) p5 q5
    obtain rfl := k87_openM hM5
    have hx5_0 : wr.cell? ⟨go5, (x5_1 : Int).toNat * 3, none⟩ = some (.int .i64 ((rd_T87 x0_1 x5_1).f0)) := hcc5 0 _ rfl
    have hx5_1 : wr.cell? ⟨go5, (x5_1 : Int).toNat * 3 + 1, none⟩ = some (.int .i64 ((rd_T87 x0_1 x5_1).f1)) := hcc5 1 _ rfl
    have hx5_2 : wr.cell? ⟨go5, (x5_1 : Int).toNat * 3 + 2, none⟩ = some (.int .i64 ((rd_T87 x0_1 x5_1).f2)) := hcc5 2 _ rfl
    have hf5_0 : wr.frozen? ⟨go5, (x5_1 : Int).toNat * 3, none⟩ = false := hfr5 0
    have hf5_1 : wr.frozen? ⟨go5, (x5_1 : Int).toNat * 3 + 1, none⟩ = false := hfr5 1
    have hf5_2 : wr.frozen? ⟨go5, (x5_1 : Int).toNat * 3 + 2, none⟩ = false := hfr5 2
    clear hcl5 hcc5 hfr5 hM5
    replace p5 := eq_true p5
    replace q5 := eq_true q5
    have HX9 := Aside0.mk (show Kd.R k87 87 wr w0.heap.size (fun k_ => (P0_ k_ ∨ w.heap.size ≤ k_)) (.slice (some ⟨go5, 0, none⟩) x0_1.length co8) x0_1 from (ra_ HO_0))
    obtain ⟨ce9, hcl9, hM9, hcc9, hfr9⟩ := Kd.R_elem HX9.out z87 (x5_1 : Int) od_ (by have h_ : (x5_1 : Int) < ((x0_1.length : Int) : Int) := od_; first | exact h_ | (have e_ := (Kd.R_reads' HO_0.out).1; omega) | simpa using h_)
    obtain rfl := k87_openM hM9
    have HP9 := Kd.R_seg HX9.out (x5_1 : Int) od_ (by have h_ : (x5_1 : Int) < ((x0_1.length : Int) : Int) := od_; first | exact h_ | (have e_ := (Kd.R_reads' HO_0.out).1; omega) | simpa using h_) (seg := [.int .i64 x1_1]) (j := 0) hcl9 hcc9 (show 1 ≤ 3 from by decide) (x' := (⟨x1_1, (rd_T87 x0_1 x5_1).f1, (rd_T87 x0_1 x5_1).f2⟩ : S87)) (k87_mkM _ _ _ (⟨x1_1, (rd_T87 x0_1 x5_1).f1, (rd_T87 x0_1 x5_1).f2⟩ : S87) ) (fun _ hk => hk)
    have hx9_0 := hcc9 0 _ rfl
    (try simp only [show (k87).sz = 3 from rfl, Nat.mul_one, Nat.add_zero] at hx9_0)
    have hf9_0 := hfr9 0
    (try simp only [show (k87).sz = 3 from rfl, Nat.mul_one, Nat.add_zero] at hf9_0)
    clear hcl9 hcc9 hfr9 hM9
    go_wp2_with (first | ((with_reducible refine gate_store (t := 3) (p := 16) rfl ?_); refine store_event (t := 3) (p := 16) (v := ?vo_w10) (w1 := (wr.setCell ⟨go5, (x5_1 : Int).toNat * 3, none⟩ (.int .i64 x1_1))) ?hg ?ho ?hn ?hr ?_; (case ho => rfl); (case hg => rfl); (case hn => rfl); (case hr => first | (go_simp; done) | (go_simp; rfl)); intro w10 hw; have hg : wr.grownBy w10 (some go5) := (by rw [hw]; exact HP9.2); have hp_ : Kd.R k87 87 w10 w0.heap.size (fun k_ => (P0_ k_ ∨ w.heap.size ≤ k_)) (.slice (some ⟨go5, 0, none⟩) x0_1.length co8) y299 := (by rw [hw, Ny299.out]; exact HP9.1); clear HP9; refine sh3_ hp_ ((by rw [hw]; exact below_set (HB.out) GB5.out : Below w0.heap.size w0 w10)) (Kept.of_grown (S := (fun k_ => P0_ k_)) hg (by repeat (first | (with_reducible first | exact HK.out | apply Kept.alloc | apply Kept.drewN | apply Kept.drew) | exact HK.out)) (fun k_ e_ => (HO_0.out.1 k_ e_))) ?_; clear HO_0 HB HK; intro HO_0 HB HK; clear hg hw hp_; have p6 : 0 ≤ (x5_1 : Int) := od_; have q6 : (x5_1 : Int) < ((x0_1.length : Int) : Int) := od_; obtain ⟨ce6, hcl6, hM6, hcc6, hfr6⟩ := Kd.R_elem HO_0.out z87 (x5_1 : Int) p6 q6; obtain rfl := k87_openM hM6; have hx6_0 : w10.cell? ⟨go5, (x5_1 : Int).toNat * 3, none⟩ = some (.int .i64 ((rd_T87 y299 x5_1).f0)) := hcc6 0 _ rfl; have hx6_1 : w10.cell? ⟨go5, (x5_1 : Int).toNat * 3 + 1, none⟩ = some (.int .i64 ((rd_T87 y299 x5_1).f1)) := hcc6 1 _ rfl; have hx6_2 : w10.cell? ⟨go5, (x5_1 : Int).toNat * 3 + 2, none⟩ = some (.int .i64 ((rd_T87 y299 x5_1).f2)) := hcc6 2 _ rfl; have hf6_0 : w10.frozen? ⟨go5, (x5_1 : Int).toNat * 3, none⟩ = false := hfr6 0; have hf6_1 : w10.frozen? ⟨go5, (x5_1 : Int).toNat * 3 + 1, none⟩ = false := hfr6 1; have hf6_2 : w10.frozen? ⟨go5, (x5_1 : Int).toNat * 3 + 2, none⟩ = false := hfr6 2; clear hcl6 hcc6 hfr6 hM6; replace p6 := eq_true p6; replace q6 := eq_true q6; have HX11 := Aside0.mk (show Kd.R k87 87 w10 w0.heap.size (fun k_ => (P0_ k_ ∨ w.heap.size ≤ k_)) (.slice (some ⟨go5, 0, none⟩) x0_1.length co8) y299 from (ra_ HO_0)); obtain ⟨ce11, hcl11, hM11, hcc11, hfr11⟩ := Kd.R_elem HX11.out z87 (x5_1 : Int) od_ (by have h_ : (x5_1 : Int) < ((x0_1.length : Int) : Int) := od_; first | exact h_ | (have e_ := (Kd.R_reads' HO_0.out).1; omega) | simpa using h_); obtain rfl := k87_openM hM11; have HP11 := Kd.R_seg HX11.out (x5_1 : Int) od_ (by have h_ : (x5_1 : Int) < ((x0_1.length : Int) : Int) := od_; first | exact h_ | (have e_ := (Kd.R_reads' HO_0.out).1; omega) | simpa using h_) (seg := [.int .i64 (wrap64 (x1_1 + 1))]) (j := 1) hcl11 hcc11 (show 2 ≤ 3 from by decide) (x' := (⟨(rd_T87 y299 x5_1).f0, wrap64 (x1_1 + 1), (rd_T87 y299 x5_1).f2⟩ : S87)) (k87_mkM _ _ _ (⟨(rd_T87 y299 x5_1).f0, wrap64 (x1_1 + 1), (rd_T87 y299 x5_1).f2⟩ : S87) ) (fun _ hk => hk); have hx11_1 := hcc11 1 _ rfl; (try simp only [show (k87).sz = 3 from rfl, Nat.mul_one, Nat.add_zero] at hx11_1); have hf11_1 := hfr11 1; (try simp only [show (k87).sz = 3 from rfl, Nat.mul_one, Nat.add_zero] at hf11_1); clear hcl11 hcc11 hfr11 hM11) | ((with_reducible refine gate_store (t := 3) (p := 23) rfl ?_); refine store_event (t := 3) (p := 23) (v := ?vo_w12) (w1 := (w10.setCell ⟨go5, (x5_1 : Int).toNat * 3 + 1, none⟩ (.int .i64 (wrap64 (x1_1 + 1))))) ?hg ?ho ?hn ?hr ?_; (case ho => rfl); (case hg => rfl); (case hn => rfl); (case hr => first | (go_simp; done) | (go_simp; rfl)); intro w12 hw; have hg : w10.grownBy w12 (some go5) := (by rw [hw]; exact HP11.2); have hp_ : Kd.R k87 87 w12 w0.heap.size (fun k_ => (P0_ k_ ∨ w.heap.size ≤ k_)) (.slice (some ⟨go5, 0, none⟩) x0_1.length co8) y300 := (by rw [hw, Ny300.out]; exact HP11.1); clear HP11; refine sh3_ hp_ ((by rw [hw]; exact below_set (HB.out) GB5.out : Below w0.heap.size w0 w12)) (Kept.of_grown (S := (fun k_ => P0_ k_)) hg (by repeat (first | (with_reducible first | exact HK.out | apply Kept.alloc | apply Kept.drewN | apply Kept.drew) | exact HK.out)) (fun k_ e_ => (HO_0.out.1 k_ e_))) ?_; clear HO_0 HB HK; intro HO_0 HB HK; clear hg hw hp_; have p7 : 0 ≤ (x5_1 : Int) := od_; have q7 : (x5_1 : Int) < ((x0_1.length : Int) : Int) := od_; obtain ⟨ce7, hcl7, hM7, hcc7, hfr7⟩ := Kd.R_elem HO_0.out z87 (x5_1 : Int) p7 q7; obtain rfl := k87_openM hM7; have hx7_0 : w12.cell? ⟨go5, (x5_1 : Int).toNat * 3, none⟩ = some (.int .i64 ((rd_T87 y300 x5_1).f0)) := hcc7 0 _ rfl; have hx7_1 : w12.cell? ⟨go5, (x5_1 : Int).toNat * 3 + 1, none⟩ = some (.int .i64 ((rd_T87 y300 x5_1).f1)) := hcc7 1 _ rfl; have hx7_2 : w12.cell? ⟨go5, (x5_1 : Int).toNat * 3 + 2, none⟩ = some (.int .i64 ((rd_T87 y300 x5_1).f2)) := hcc7 2 _ rfl; have hf7_0 : w12.frozen? ⟨go5, (x5_1 : Int).toNat * 3, none⟩ = false := hfr7 0; have hf7_1 : w12.frozen? ⟨go5, (x5_1 : Int).toNat * 3 + 1, none⟩ = false := hfr7 1; have hf7_2 : w12.frozen? ⟨go5, (x5_1 : Int).toNat * 3 + 2, none⟩ = false := hfr7 2; clear hcl7 hcc7 hfr7 hM7; replace p7 := eq_true p7; replace q7 := eq_true q7; have HX13 := Aside0.mk (show Kd.R k87 87 w12 w0.heap.size (fun k_ => (P0_ k_ ∨ w.heap.size ≤ k_)) (.slice (some ⟨go5, 0, none⟩) x0_1.length co8) y300 from (ra_ HO_0)); obtain ⟨ce13, hcl13, hM13, hcc13, hfr13⟩ := Kd.R_elem HX13.out z87 (x5_1 : Int) od_ (by have h_ : (x5_1 : Int) < ((x0_1.length : Int) : Int) := od_; first | exact h_ | (have e_ := (Kd.R_reads' HO_0.out).1; omega) | simpa using h_); obtain rfl := k87_openM hM13; have HP13 := Kd.R_seg HX13.out (x5_1 : Int) od_ (by have h_ : (x5_1 : Int) < ((x0_1.length : Int) : Int) := od_; first | exact h_ | (have e_ := (Kd.R_reads' HO_0.out).1; omega) | simpa using h_) (seg := [.int .i64 (wrap64 ((wrap64 (x1_1 + 1)) + 1))]) (j := 2) hcl13 hcc13 (show 3 ≤ 3 from by decide) (x' := (⟨(rd_T87 y300 x5_1).f0, (rd_T87 y300 x5_1).f1, wrap64 ((wrap64 (x1_1 + 1)) + 1)⟩ : S87)) (k87_mkM _ _ _ (⟨(rd_T87 y300 x5_1).f0, (rd_T87 y300 x5_1).f1, wrap64 ((wrap64 (x1_1 + 1)) + 1)⟩ : S87) ) (fun _ hk => hk); have hx13_2 := hcc13 2 _ rfl; (try simp only [show (k87).sz = 3 from rfl, Nat.mul_one, Nat.add_zero] at hx13_2); have hf13_2 := hfr13 2; (try simp only [show (k87).sz = 3 from rfl, Nat.mul_one, Nat.add_zero] at hf13_2); clear hcl13 hcc13 hfr13 hM13) | ((with_reducible refine gate_store (t := 3) (p := 30) rfl ?_); refine store_event (t := 3) (p := 30) (v := ?vo_w14) (w1 := (w12.setCell ⟨go5, (x5_1 : Int).toNat * 3 + 2, none⟩ (.int .i64 (wrap64 ((wrap64 (x1_1 + 1)) + 1))))) ?hg ?ho ?hn ?hr ?_; (case ho => rfl); (case hg => rfl); (case hn => rfl); (case hr => first | (go_simp; done) | (go_simp; rfl)); intro w14 hw; have hg : w12.grownBy w14 (some go5) := (by rw [hw]; exact HP13.2); have hp_ : Kd.R k87 87 w14 w0.heap.size (fun k_ => (P0_ k_ ∨ w.heap.size ≤ k_)) (.slice (some ⟨go5, 0, none⟩) x0_1.length co8) y301 := (by rw [hw, Ny301.out]; exact HP13.1); clear HP13; refine sh3_ hp_ ((by rw [hw]; exact below_set (HB.out) GB5.out : Below w0.heap.size w0 w14)) (Kept.of_grown (S := (fun k_ => P0_ k_)) hg (by repeat (first | (with_reducible first | exact HK.out | apply Kept.alloc | apply Kept.drewN | apply Kept.drew) | exact HK.out)) (fun k_ e_ => (HO_0.out.1 k_ e_))) ?_; clear HO_0 HB HK; intro HO_0 HB HK; clear hg hw hp_))
    go_roundg k1
    case measure => have := HK1.out; omega
    case rel => exact ⟨(y301), (wrap64 ((wrap64 ((wrap64 (x1_1 + 1)) + 1)) + 1)), (wrap64 (x5_1 + 1)), (by first | rfl | (simp; done) | (simp [*]; done)), (by first | rfl | (simp; done) | (simp [*]; done)), H', ⟨by have := HK1.out; omega⟩, ⟨ra_ HO_0⟩, ⟨by repeat (first | (with_reducible first | exact HK.out | apply Kept.alloc | apply Kept.drewN | apply Kept.drew) | exact HK.out)⟩, ⟨bl_ HB⟩⟩
   ·rw [if_neg c3] at H
    have c3b0 := decide_eq_false c3
    clear c3
    simp only [Option.some.injEq, Prod.mk.injEq] at H
    obtain ⟨rfl, rfl⟩ := H
    obtain ⟨Ao15, co15, eo15⟩ := Kd.R_slice HO_0.out
    subst eo15
    go_wp2
    go_ret
    exact ⟨er_, ra_ HO_0, bl_ HB, by repeat (first | (with_reducible first | exact HK.out | apply Kept.alloc | apply Kept.drewN | apply Kept.drew) | exact HK.out)⟩

/-! ### laws_heldContactS: function 28 -/
def laws_heldContactS.l0 : Nat → List (S82) → Int → Int → Option (Int)
 | 0, _, _, _ => none
 | k + 1, x0, x1, x5 => if x5 < (x0.length : Int) then (if 0 ≤ x5 then (if ((rd_T82 x0 x5).f0) = x1 then (if ((rd_T82 x0 x5).f1) = (wrap64 (x1 + 1)) then (if ((rd_T82 x0 x5).f2) = (wrap64 ((wrap64 (x1 + 1)) + 1)) then (if ((rd_T82 x0 x5).f3) = (wrap64 ((wrap64 ((wrap64 (x1 + 1)) + 1)) + 1)) then (laws_heldContactS.l0 k x0 (wrap64 ((wrap64 ((wrap64 ((wrap64 (x1 + 1)) + 1)) + 1)) + 1)) (wrap64 (x5 + 1))) else (some (-1))) else (some (-1))) else (some (-1))) else (some (-1))) else (none)) else (some x1)
def laws_heldContactS.f (k : Nat) (l0 : List (S82)) (a1 : Int) : Option (Int) := laws_heldContactS.l0 k l0 a1 0
theorem laws_heldContactS.mono_l : ∀ k, (∀ y0 y1 y2, LeO (laws_heldContactS.l0 k y0 y1 y2) (laws_heldContactS.l0 (k + 1) y0 y1 y2))
 | 0 => fun _ _ _ r h => by simp [laws_heldContactS.l0] at h
 | k + 1 => by
  have ih0 := laws_heldContactS.mono_l k
  ·intro y0 y1 y2
   unfold laws_heldContactS.l0
   repeat' first | (with_reducible first | exact ih0 _ _ _ | exact LeO.refl _ | exact LeO.none _ | refine LeO.ite ?_ ?_ | refine LeO.bind ?_ (fun _ => ?_)) | exact LeO.none _ | refine LeO.ite ?_ ?_ | refine LeO.bind ?_ (fun _ => ?_)
theorem laws_heldContactS.mono : ∀ a0 a1 k, LeO (laws_heldContactS.f k a0 a1) (laws_heldContactS.f (k + 1) a0 a1) := by
 intro a0 a1 k
 have ih0 := laws_heldContactS.mono_l k
 unfold laws_heldContactS.f
 repeat' first | (with_reducible first | exact ih0 _ _ _ | exact LeO.refl _ | exact LeO.none _ | refine LeO.ite ?_ ?_ | refine LeO.bind ?_ (fun _ => ?_)) | exact LeO.none _ | refine LeO.ite ?_ ?_ | refine LeO.bind ?_ (fun _ => ?_)
set_option maxHeartbeats 8000000 in
set_option maxRecDepth 100000 in
theorem laws_heldContactS.calls (k : Nat) (A0 : Option Addr) (c0 : Nat) (l0 : List (S82)) (a1 : Int) (r : Int) (w : World) (hr0 : Kd.C k82 w A0 l0.length l0) (hc0 : l0.length ≤ c0) (h : laws_heldContactS.f k l0 a1 = some r) :
  Calls Try.prog 28 #[.slice A0 l0.length c0, .int .i64 a1] w fun e w' => e = .returned (.int .i64 r) ∧ Drawn0 w w' := by
 have HR0 := Aside0.mk hr0
 have HC0 := Aside0.mk hc0
 clear hr0 hc0
 have H := h
 clear h
 unfold laws_heldContactS.f at H
 have H' := Aside0.mk H
 clear H
 go_enter Try.func28, Try.ntmps28
 go_wp2
 go_loopg [1, 5] k (fun kq v1 v5 w' => ∃ (x1_1 : Int) (x5_1 : Int), v1 = .int .i64 x1_1 ∧ v5 = .int .i64 x5_1 ∧ Aside0 (laws_heldContactS.l0 kq l0 x1_1 x5_1 = some r) ∧ Aside0 (kq ≤ k) ∧ Drawn0 w w')
 case atStart => exact ⟨(a1), (0), (by first | rfl | (simp; done) | (simp [*]; done)), (by first | rfl | (simp; done) | (simp [*]; done)), H', ⟨Nat.le_refl _⟩, by repeat (first | exact Drawn0.refl _ | apply Drawn0.step)⟩
 case round =>
  clear H'
  try clear c2
  try clear p2
  obtain ⟨x1_1, x5_1, rfl, rfl, HA, HK1, ⟨m1, rfl⟩⟩ := hrel
  cases gk with
  | zero => exact absurd HA.out (by simp [laws_heldContactS.l0])
  | succ k1 =>
   have H := HA.out
   clear HA
   simp only [laws_heldContactS.l0] at H
   by_cases c3 : x5_1 < (l0.length : Int)
   ·rw [if_pos c3] at H
    have c3b0 := decide_eq_true c3
    clear c3
    replace H := ifn_ H
    obtain ⟨c4, H⟩ := H
    have c4b0 := decide_eq_true c4
    clear c4
    by_cases c5 : ((rd_T82 l0 x5_1).f0) = x1_1
    ·rw [if_pos c5] at H
     obtain ⟨c5b0, c5b1⟩ := bt_ c5
     clear c5
     by_cases c6 : ((rd_T82 l0 x5_1).f1) = (wrap64 (x1_1 + 1))
     ·rw [if_pos c6] at H
      obtain ⟨c6b0, c6b1⟩ := bt_ c6
      clear c6
      by_cases c7 : ((rd_T82 l0 x5_1).f2) = (wrap64 ((wrap64 (x1_1 + 1)) + 1))
      ·rw [if_pos c7] at H
       obtain ⟨c7b0, c7b1⟩ := bt_ c7
       clear c7
       by_cases c8 : ((rd_T82 l0 x5_1).f3) = (wrap64 ((wrap64 ((wrap64 (x1_1 + 1)) + 1)) + 1))
       ·rw [if_pos c8] at H
        obtain ⟨c8b0, c8b1⟩ := bt_ c8
        clear c8
        have H' := Aside0.mk H
        clear H
        have p302 : 0 ≤ (x5_1 : Int) := od_
        have q302 : x5_1 < (l0.length : Int) := od_
        obtain ⟨ad302, e302, hx302_0, hx302_1, hx302_2, hx302_3⟩ := at_T82 HR0.out x5_1 p302 q302
        cases e302
        replace p302 := eq_true p302
        replace q302 := eq_true q302
        have p303 : 0 ≤ (x5_1 : Int) := od_
        have q303 : x5_1 < (l0.length : Int) := od_
        obtain ⟨ad303, e303, hx303_0, hx303_1, hx303_2, hx303_3⟩ := at_T82 HR0.out x5_1 p303 q303
        obtain rfl : ad302 = ad303 := (by injection e303)
        replace p303 := eq_true p303
        replace q303 := eq_true q303
        have p304 : 0 ≤ (x5_1 : Int) := od_
        have q304 : x5_1 < (l0.length : Int) := od_
        obtain ⟨ad304, e304, hx304_0, hx304_1, hx304_2, hx304_3⟩ := at_T82 HR0.out x5_1 p304 q304
        obtain rfl : ad302 = ad304 := (by injection e304)
        replace p304 := eq_true p304
        replace q304 := eq_true q304
        have p305 : 0 ≤ (x5_1 : Int) := od_
        have q305 : x5_1 < (l0.length : Int) := od_
        obtain ⟨ad305, e305, hx305_0, hx305_1, hx305_2, hx305_3⟩ := at_T82 HR0.out x5_1 p305 q305
        obtain rfl : ad302 = ad305 := (by injection e305)
        replace p305 := eq_true p305
        replace q305 := eq_true q305
        go_wp2
        go_roundg k1
        case measure => have := HK1.out; omega
        case rel => exact ⟨(wrap64 ((wrap64 ((wrap64 ((wrap64 (x1_1 + 1)) + 1)) + 1)) + 1)), (wrap64 (x5_1 + 1)), (by first | rfl | (simp; done) | (simp [*]; done)), (by first | rfl | (simp; done) | (simp [*]; done)), H', ⟨by have := HK1.out; omega⟩, by repeat (first | exact Drawn0.refl _ | apply Drawn0.step)⟩
       ·rw [if_neg c8] at H
        obtain ⟨c8b0, c8b1⟩ := bn_ c8
        obtain rfl := Option.some.inj H
        have p302 : 0 ≤ (x5_1 : Int) := od_
        have q302 : x5_1 < (l0.length : Int) := od_
        obtain ⟨ad302, e302, hx302_0, hx302_1, hx302_2, hx302_3⟩ := at_T82 HR0.out x5_1 p302 q302
        cases e302
        replace p302 := eq_true p302
        replace q302 := eq_true q302
        have p303 : 0 ≤ (x5_1 : Int) := od_
        have q303 : x5_1 < (l0.length : Int) := od_
        obtain ⟨ad303, e303, hx303_0, hx303_1, hx303_2, hx303_3⟩ := at_T82 HR0.out x5_1 p303 q303
        obtain rfl : ad302 = ad303 := (by injection e303)
        replace p303 := eq_true p303
        replace q303 := eq_true q303
        have p304 : 0 ≤ (x5_1 : Int) := od_
        have q304 : x5_1 < (l0.length : Int) := od_
        obtain ⟨ad304, e304, hx304_0, hx304_1, hx304_2, hx304_3⟩ := at_T82 HR0.out x5_1 p304 q304
        obtain rfl : ad302 = ad304 := (by injection e304)
        replace p304 := eq_true p304
        replace q304 := eq_true q304
        have p305 : 0 ≤ (x5_1 : Int) := od_
        have q305 : x5_1 < (l0.length : Int) := od_
        obtain ⟨ad305, e305, hx305_0, hx305_1, hx305_2, hx305_3⟩ := at_T82 HR0.out x5_1 p305 q305
        obtain rfl : ad302 = ad305 := (by injection e305)
        replace p305 := eq_true p305
        replace q305 := eq_true q305
        go_wp2
        go_ret
        exact ⟨by first | rfl | (simp; done) | (simp [*]; done), by repeat (first | exact Drawn0.refl _ | apply Drawn0.step)⟩
      ·rw [if_neg c7] at H
       obtain ⟨c7b0, c7b1⟩ := bn_ c7
       obtain rfl := Option.some.inj H
       have p302 : 0 ≤ (x5_1 : Int) := od_
       have q302 : x5_1 < (l0.length : Int) := od_
       obtain ⟨ad302, e302, hx302_0, hx302_1, hx302_2, hx302_3⟩ := at_T82 HR0.out x5_1 p302 q302
       cases e302
       replace p302 := eq_true p302
       replace q302 := eq_true q302
       have p303 : 0 ≤ (x5_1 : Int) := od_
       have q303 : x5_1 < (l0.length : Int) := od_
       obtain ⟨ad303, e303, hx303_0, hx303_1, hx303_2, hx303_3⟩ := at_T82 HR0.out x5_1 p303 q303
       obtain rfl : ad302 = ad303 := (by injection e303)
       replace p303 := eq_true p303
       replace q303 := eq_true q303
       have p304 : 0 ≤ (x5_1 : Int) := od_
       have q304 : x5_1 < (l0.length : Int) := od_
       obtain ⟨ad304, e304, hx304_0, hx304_1, hx304_2, hx304_3⟩ := at_T82 HR0.out x5_1 p304 q304
       obtain rfl : ad302 = ad304 := (by injection e304)
       replace p304 := eq_true p304
       replace q304 := eq_true q304
       go_wp2
       go_ret
       exact ⟨by first | rfl | (simp; done) | (simp [*]; done), by repeat (first | exact Drawn0.refl _ | apply Drawn0.step)⟩
     ·rw [if_neg c6] at H
      obtain ⟨c6b0, c6b1⟩ := bn_ c6
      obtain rfl := Option.some.inj H
      have p302 : 0 ≤ (x5_1 : Int) := od_
      have q302 : x5_1 < (l0.length : Int) := od_
      obtain ⟨ad302, e302, hx302_0, hx302_1, hx302_2, hx302_3⟩ := at_T82 HR0.out x5_1 p302 q302
      cases e302
      replace p302 := eq_true p302
      replace q302 := eq_true q302
      have p303 : 0 ≤ (x5_1 : Int) := od_
      have q303 : x5_1 < (l0.length : Int) := od_
      obtain ⟨ad303, e303, hx303_0, hx303_1, hx303_2, hx303_3⟩ := at_T82 HR0.out x5_1 p303 q303
      obtain rfl : ad302 = ad303 := (by injection e303)
      replace p303 := eq_true p303
      replace q303 := eq_true q303
      go_wp2
      go_ret
      exact ⟨by first | rfl | (simp; done) | (simp [*]; done), by repeat (first | exact Drawn0.refl _ | apply Drawn0.step)⟩
    ·rw [if_neg c5] at H
     obtain ⟨c5b0, c5b1⟩ := bn_ c5
     obtain rfl := Option.some.inj H
     have p302 : 0 ≤ (x5_1 : Int) := od_
     have q302 : x5_1 < (l0.length : Int) := od_
     obtain ⟨ad302, e302, hx302_0, hx302_1, hx302_2, hx302_3⟩ := at_T82 HR0.out x5_1 p302 q302
     cases e302
     replace p302 := eq_true p302
     replace q302 := eq_true q302
     go_wp2
     go_ret
     exact ⟨by first | rfl | (simp; done) | (simp [*]; done), by repeat (first | exact Drawn0.refl _ | apply Drawn0.step)⟩
   ·rw [if_neg c3] at H
    have c3b0 : decide (x5_1 < (l0.length : Int)) = false := decide_eq_false c3
    clear c3
    obtain rfl := Option.some.inj H
    go_wp2
    go_ret
    exact ⟨by first | rfl | (simp; done) | (simp [*]; done), by repeat (first | exact Drawn0.refl _ | apply Drawn0.step)⟩

/-! ### laws_FnExactCutClouds: function 4 -/
def laws_FnExactCutClouds.j0 : Nat → List (S85) → List (S89) → List (S82) → List (S82) → Bool → Option (Bool)
 | 0, _, _, _, _, _ => none
 | k + 1, x0, x1, x6, x9, x63 => if x63 = true then (some false) else ((laws_markContactS.f k x9 1).bind fun bt340 => ((laws_heldContactS.f k bt340.2 1).bind fun t342 => (if t342 < 0 then (some false) else (if t342 = bt340.1 then ((laws_toContactS.f k x0).bind fun t343 => ((laws_toCloudS.f k x1).bind fun t346 => ((impl_CutClouds.f k t343 t346).bind fun t349 => ((laws_eqContactS.f k t349 x6).bind fun t352 => (if t352 = true then ((laws_heldContactS.f k bt340.2 1).bind fun t353 => (if t353 < 0 then (some false) else (if t353 = bt340.1 then (some true) else (some false)))) else (some false)))))) else (some false)))))
def laws_FnExactCutClouds.f (k : Nat) (l0 : List (S85)) (l1 : List (S89)) : Option (Bool) := (laws_szContactS.f l0 1048576).bind fun t306 => (if t306 < 0 then (some true) else ((laws_szCloudS.f l1 t306).bind fun t307 => (if t307 < 0 then (some true) else ((laws_toContactS.f k l0).bind fun t308 => ((laws_toCloudS.f k l1).bind fun t311 => ((spec_CutClouds.f k t308 t311).bind fun t314 => ((laws_toContactS.f k l0).bind fun t317 => ((laws_toCloudS.f k l1).bind fun t320 => ((impl_CutClouds.f k t317 t320).bind fun t323 => ((laws_eqContactS.f k t323 t314).bind fun t326 => (if t326 = true then ((laws_toContactS.f k l0).bind fun t327 => ((laws_eqContactS.f k t317 t327).bind fun t330 => (if t330 = true then ((laws_toCloudS.f k l1).bind fun t331 => ((laws_eqCloudS.f k t320 t331).bind fun t334 => (if t334 = true then ((laws_markContactS.f k t317 1).bind fun bt335 => ((laws_markCloudS.f k t320 bt335.1).bind fun bt337 => (if bt337.1 < 0 then (laws_FnExactCutClouds.j0 k l0 l1 t314 t323 true) else ((laws_eqContactS.f k t323 t314).bind fun t339 => (laws_FnExactCutClouds.j0 k l0 l1 t314 t323 (!t339)))))) else (some false)))) else (some false)))) else (some false))))))))))))
theorem laws_FnExactCutClouds.mono_l : ∀ k, (∀ y0 y1 y2 y3 y4, LeO (laws_FnExactCutClouds.j0 k y0 y1 y2 y3 y4) (laws_FnExactCutClouds.j0 (k + 1) y0 y1 y2 y3 y4))
 | 0 => fun _ _ _ _ _ r h => by simp [laws_FnExactCutClouds.j0] at h
 | k + 1 => by
  have ih0 := laws_FnExactCutClouds.mono_l k
  ·intro y0 y1 y2 y3 y4
   unfold laws_FnExactCutClouds.j0
   repeat' first | (with_reducible first | exact ih0 _ _ _ _ _ | exact impl_CutClouds.mono _ _ _ | exact laws_eqCloudS.mono _ _ _ | exact laws_eqContactS.mono _ _ _ | exact laws_heldContactS.mono _ _ _ | exact laws_markCloudS.mono _ _ _ | exact laws_markContactS.mono _ _ _ | exact laws_toCloudS.mono _ _ | exact laws_toContactS.mono _ _ | exact spec_CutClouds.mono _ _ _ | exact LeO.refl _ | exact LeO.none _ | refine LeO.ite ?_ ?_ | refine LeO.bind ?_ (fun _ => ?_)) | exact LeO.none _ | refine LeO.ite ?_ ?_ | refine LeO.bind ?_ (fun _ => ?_)
theorem laws_FnExactCutClouds.mono : ∀ a0 a1 k, LeO (laws_FnExactCutClouds.f k a0 a1) (laws_FnExactCutClouds.f (k + 1) a0 a1) := by
 intro a0 a1 k
 have ih0 := laws_FnExactCutClouds.mono_l k
 unfold laws_FnExactCutClouds.f
 repeat' first | (with_reducible first | exact ih0 _ _ _ _ _ | exact impl_CutClouds.mono _ _ _ | exact laws_eqCloudS.mono _ _ _ | exact laws_eqContactS.mono _ _ _ | exact laws_heldContactS.mono _ _ _ | exact laws_markCloudS.mono _ _ _ | exact laws_markContactS.mono _ _ _ | exact laws_toCloudS.mono _ _ | exact laws_toContactS.mono _ _ | exact spec_CutClouds.mono _ _ _ | exact LeO.refl _ | exact LeO.none _ | refine LeO.ite ?_ ?_ | refine LeO.bind ?_ (fun _ => ?_)) | exact LeO.none _ | refine LeO.ite ?_ ?_ | refine LeO.bind ?_ (fun _ => ?_)
set_option maxHeartbeats 8000000 in
set_option maxRecDepth 100000 in
theorem laws_FnExactCutClouds.calls (k : Nat) (A0 : Option Addr) (c0 : Nat) (l0 : List (S85)) (A1 : Option Addr) (c1 : Nat) (l1 : List (S89)) (r : Bool) (w : World) (hr0 : Kd.C k85 w A0 l0.length l0) (hc0 : l0.length ≤ c0) (hr1 : Kd.C k89 w A1 l1.length l1) (hc1 : l1.length ≤ c1) (h : laws_FnExactCutClouds.f k l0 l1 = some r) (hT_ : r = true := by rfl) :
  Calls Try.prog 4 #[.slice A0 l0.length c0, .slice A1 l1.length c1] w fun e w' => e = .returned (.bool r) ∧ Below w.heap.size w w' := by
 have HR0 := Aside0.mk hr0
 have HC0 := Aside0.mk hc0
 clear hr0 hc0
 have HR1 := Aside0.mk hr1
 have HC1 := Aside0.mk hc1
 clear hr1 hc1
 have HB := Aside0.mk (Below.refl w.heap.size w)
 subst hT_
 have H := h
 clear h
 unfold laws_FnExactCutClouds.f at H
 replace H := bs_ H
 obtain ⟨t306, A3, H⟩ := H
 by_cases c4 : t306 < 0
 ·rw [if_pos c4] at H
  have c4b0 := decide_eq_true c4
  clear c4
  clear H
  go_enter Try.func4, Try.ntmps4
  go_wp2_with (first | ((with_reducible refine gate_callee (f := 18) rfl ?_); refine gl_ 16 Try.func18 (laws_szContactS.calls _ _ l0 1048576 t306 _ (cq_ HR0) HC0.out A3.out) ?_; rintro e w' ⟨rfl, ⟨nd, rfl⟩⟩; refine ⟨_, rfl, ?_⟩))
  go_ret
  exact ⟨er_, bl_ HB⟩
 ·rw [if_neg c4] at H
  have c4b0 := decide_eq_false c4
  clear c4
  replace H := bs_ H
  obtain ⟨t307, A5, H⟩ := H
  by_cases c6 : t307 < 0
  ·rw [if_pos c6] at H
   have c6b0 := decide_eq_true c6
   clear c6
   clear H
   go_enter Try.func4, Try.ntmps4
   go_wp2_with (first | ((with_reducible refine gate_callee (f := 18) rfl ?_); refine gl_ 16 Try.func18 (laws_szContactS.calls _ _ l0 1048576 t306 _ (cq_ HR0) HC0.out A3.out) ?_; rintro e w' ⟨rfl, ⟨nd, rfl⟩⟩; refine ⟨_, rfl, ?_⟩) | ((with_reducible refine gate_callee (f := 19) rfl ?_); refine gl_ 21 Try.func19 (laws_szCloudS.calls _ _ l1 t306 t307 _ (cq_ HR1) HC1.out A5.out) ?_; rintro e w' ⟨rfl, ⟨nd, rfl⟩⟩; refine ⟨_, rfl, ?_⟩))
   go_ret
   exact ⟨er_, bl_ HB⟩
  ·rw [if_neg c6] at H
   have c6b0 := decide_eq_false c6
   clear c6
   replace H := bs_ H
   obtain ⟨t308, A7, H⟩ := H
   replace H := bs_ H
   obtain ⟨t311, A8, H⟩ := H
   replace H := bs_ H
   obtain ⟨t314, A9, H⟩ := H
   replace H := bs_ H
   obtain ⟨t317, A10, H⟩ := H
   replace H := bs_ H
   obtain ⟨t320, A11, H⟩ := H
   replace H := bs_ H
   obtain ⟨t323, A12, H⟩ := H
   replace H := bs_ H
   obtain ⟨t326, A13, H⟩ := H
   by_cases c14 : t326 = true
   ·subst c14
    try rw [if_pos rfl] at H
    replace H := bs_ H
    obtain ⟨t327, A15, H⟩ := H
    replace H := bs_ H
    obtain ⟨t330, A16, H⟩ := H
    by_cases c17 : t330 = true
    ·subst c17
     try rw [if_pos rfl] at H
     replace H := bs_ H
     obtain ⟨t331, A18, H⟩ := H
     replace H := bs_ H
     obtain ⟨t334, A19, H⟩ := H
     by_cases c20 : t334 = true
     ·subst c20
      try rw [if_pos rfl] at H
      replace H := bs_ H
      obtain ⟨⟨t335, t336⟩, A21, H⟩ := H
      dsimp only at H
      replace H := bs_ H
      obtain ⟨⟨t337, t338⟩, A22, H⟩ := H
      dsimp only at H
      have HC23 := Aside0.mk H
      clear H
      go_enter Try.func4, Try.ntmps4
      go_upto_region 21 with (first | ((with_reducible refine gate_callee (f := 18) rfl ?_); refine gl_ 16 Try.func18 (laws_szContactS.calls _ _ l0 1048576 t306 _ (cq_ HR0) HC0.out A3.out) ?_; rintro e w' ⟨rfl, ⟨nd, rfl⟩⟩; refine ⟨_, rfl, ?_⟩) | ((with_reducible refine gate_callee (f := 19) rfl ?_); refine gl_ 21 Try.func19 (laws_szCloudS.calls _ _ l1 t306 t307 _ (cq_ HR1) HC1.out A5.out) ?_; rintro e w' ⟨rfl, ⟨nd, rfl⟩⟩; refine ⟨_, rfl, ?_⟩) | ((with_reducible refine gate_callee (f := 21) rfl ?_); refine gl_ 25 Try.func21 (laws_toContactS.calls k _ _ l0 t308 _ (cq_ HR0) HC0.out A7.out) ?_; rintro e w24 ⟨v309, rfl, ho0, hb⟩; refine ⟨_, rfl, sh2_ (Kd.R_lower ho0 (below_size (bl_ HB))) (below_step (bl_ HB) hb) ?_⟩; clear HB hb ho0; intro HO310 HB) | ((with_reducible refine gate_callee (f := 22) rfl ?_); refine gl_ 27 Try.func22 (laws_toCloudS.calls k _ _ l1 t311 _ (ck_ HR1 HB) HC1.out A8.out) ?_; rintro e w25 ⟨v312, rfl, ho0, hb⟩; refine ⟨_, rfl, sh3_ (Kd.R_below (ra_ HO310) hb) (Kd.R_lower ho0 (below_size (bl_ HB))) (below_step (bl_ HB) hb) ?_⟩; clear HO310 HB hb ho0; intro HO310 HO313 HB; obtain ⟨Ao26, co26, eo26⟩ := Kd.R_slice HO310.out; subst eo26; obtain ⟨Ao27, co27, eo27⟩ := Kd.R_slice HO313.out; subst eo27) | ((with_reducible refine gate_callee (f := 20) rfl ?_); refine gl_ 28 Try.func20 (spec_CutClouds.calls k _ _ t308 _ _ t311 t314 _ (cr_ HO310) (rl_ HO310) (cr_ HO313) (rl_ HO313) A9.out) ?_; rintro e w28 ⟨v315, rfl, ho0, hb⟩; refine ⟨_, rfl, sh4_ (Kd.R_elder' (ra_ HO310) (Kd.R_base ho0) hb) (Kd.R_below (ra_ HO313) hb) (Kd.R_lower (Kd.R_new' ho0 (Kd.R_lt (ra_ HO310))) (below_size (bl_ HB))) (below_step (bl_ HB) hb) ?_⟩; clear HO310 HO313 HB hb ho0; intro HO310 HO313 HO316 HB) | ((with_reducible refine gate_callee (f := 21) rfl ?_); refine gl_ 30 Try.func21 (laws_toContactS.calls k _ _ l0 t317 _ (ck_ HR0 HB) HC0.out A10.out) ?_; rintro e w29 ⟨v318, rfl, ho0, hb⟩; refine ⟨_, rfl, sh5_ (Kd.R_elder' (ra_ HO310) (Kd.R_base ho0) hb) (Kd.R_below (ra_ HO313) hb) (Kd.R_elder' (ra_ HO316) (Kd.R_base ho0) hb) (Kd.R_lower (Kd.R_new' (Kd.R_new' ho0 (Kd.R_lt (ra_ HO310))) (Kd.R_lt (ra_ HO316))) (below_size (bl_ HB))) (below_step (bl_ HB) hb) ?_⟩; clear HO310 HO313 HO316 HB hb ho0; intro HO310 HO313 HO316 HO319 HB) | ((with_reducible refine gate_callee (f := 22) rfl ?_); refine gl_ 32 Try.func22 (laws_toCloudS.calls k _ _ l1 t320 _ (ck_ HR1 HB) HC1.out A11.out) ?_; rintro e w30 ⟨v321, rfl, ho0, hb⟩; refine ⟨_, rfl, sh6_ (Kd.R_below (ra_ HO310) hb) (Kd.R_elder' (ra_ HO313) (Kd.R_base ho0) hb) (Kd.R_below (ra_ HO316) hb) (Kd.R_below (ra_ HO319) hb) (Kd.R_lower (Kd.R_new' ho0 (Kd.R_lt (ra_ HO313))) (below_size (bl_ HB))) (below_step (bl_ HB) hb) ?_⟩; clear HO310 HO313 HO316 HO319 HB hb ho0; intro HO310 HO313 HO316 HO319 HO322 HB; obtain ⟨Ao31, co31, eo31⟩ := Kd.R_slice HO319.out; subst eo31; obtain ⟨Ao32, co32, eo32⟩ := Kd.R_slice HO322.out; subst eo32) | ((with_reducible refine gate_callee (f := 23) rfl ?_); refine gl_ 35 Try.func23 (impl_CutClouds.calls k _ _ t317 _ _ t320 t323 _ (cr_ HO319) (rl_ HO319) (cr_ HO322) (rl_ HO322) A12.out) ?_; rintro e w33 ⟨v324, rfl, ho0, hb⟩; refine ⟨_, rfl, sh7_ (Kd.R_elder' (ra_ HO310) (Kd.R_base ho0) hb) (Kd.R_below (ra_ HO313) hb) (Kd.R_elder' (ra_ HO316) (Kd.R_base ho0) hb) (Kd.R_elder' (ra_ HO319) (Kd.R_base ho0) hb) (Kd.R_below (ra_ HO322) hb) (Kd.R_lower (Kd.R_new' (Kd.R_new' (Kd.R_new' ho0 (Kd.R_lt (ra_ HO310))) (Kd.R_lt (ra_ HO316))) (Kd.R_lt (ra_ HO319))) (below_size (bl_ HB))) (below_step (bl_ HB) hb) ?_⟩; clear HO310 HO313 HO316 HO319 HO322 HB hb ho0; intro HO310 HO313 HO316 HO319 HO322 HO325 HB; obtain ⟨Ao34, co34, eo34⟩ := Kd.R_slice HO325.out; subst eo34; obtain ⟨Ao35, co35, eo35⟩ := Kd.R_slice HO316.out; subst eo35) | ((with_reducible refine gate_callee (f := 24) rfl ?_); refine gl_ 38 Try.func24 (laws_eqContactS.calls k _ _ t323 _ _ t314 true _ (cr_ HO325) (rl_ HO325) (cr_ HO316) (rl_ HO316) A13.out) ?_; rintro e w36 ⟨rfl, hb⟩; refine ⟨_, rfl, sh7_ (Kd.R_below (ra_ HO310) hb) (Kd.R_below (ra_ HO313) hb) (Kd.R_below (ra_ HO316) hb) (Kd.R_below (ra_ HO319) hb) (Kd.R_below (ra_ HO322) hb) (Kd.R_below (ra_ HO325) hb) (below_step (bl_ HB) hb) ?_⟩; clear HO310 HO313 HO316 HO319 HO322 HO325 HB hb; intro HO310 HO313 HO316 HO319 HO322 HO325 HB) | ((with_reducible refine gate_callee (f := 21) rfl ?_); refine gl_ 42 Try.func21 (laws_toContactS.calls k _ _ l0 t327 _ (ck_ HR0 HB) HC0.out A15.out) ?_; rintro e w37 ⟨v328, rfl, ho0, hb⟩; refine ⟨_, rfl, sh8_ (Kd.R_elder' (ra_ HO310) (Kd.R_base ho0) hb) (Kd.R_below (ra_ HO313) hb) (Kd.R_elder' (ra_ HO316) (Kd.R_base ho0) hb) (Kd.R_elder' (ra_ HO319) (Kd.R_base ho0) hb) (Kd.R_below (ra_ HO322) hb) (Kd.R_elder' (ra_ HO325) (Kd.R_base ho0) hb) (Kd.R_lower (Kd.R_new' (Kd.R_new' (Kd.R_new' (Kd.R_new' ho0 (Kd.R_lt (ra_ HO310))) (Kd.R_lt (ra_ HO316))) (Kd.R_lt (ra_ HO319))) (Kd.R_lt (ra_ HO325))) (below_size (bl_ HB))) (below_step (bl_ HB) hb) ?_⟩; clear HO310 HO313 HO316 HO319 HO322 HO325 HB hb ho0; intro HO310 HO313 HO316 HO319 HO322 HO325 HO329 HB; obtain ⟨Ao38, co38, eo38⟩ := Kd.R_slice HO329.out; subst eo38) | ((with_reducible refine gate_callee (f := 24) rfl ?_); refine gl_ 43 Try.func24 (laws_eqContactS.calls k _ _ t317 _ _ t327 true _ (cr_ HO319) (rl_ HO319) (cr_ HO329) (rl_ HO329) A16.out) ?_; rintro e w39 ⟨rfl, hb⟩; refine ⟨_, rfl, sh8_ (Kd.R_below (ra_ HO310) hb) (Kd.R_below (ra_ HO313) hb) (Kd.R_below (ra_ HO316) hb) (Kd.R_below (ra_ HO319) hb) (Kd.R_below (ra_ HO322) hb) (Kd.R_below (ra_ HO325) hb) (Kd.R_below (ra_ HO329) hb) (below_step (bl_ HB) hb) ?_⟩; clear HO310 HO313 HO316 HO319 HO322 HO325 HO329 HB hb; intro HO310 HO313 HO316 HO319 HO322 HO325 HO329 HB) | ((with_reducible refine gate_callee (f := 22) rfl ?_); refine gl_ 47 Try.func22 (laws_toCloudS.calls k _ _ l1 t331 _ (ck_ HR1 HB) HC1.out A18.out) ?_; rintro e w40 ⟨v332, rfl, ho0, hb⟩; refine ⟨_, rfl, sh9_ (Kd.R_below (ra_ HO310) hb) (Kd.R_elder' (ra_ HO313) (Kd.R_base ho0) hb) (Kd.R_below (ra_ HO316) hb) (Kd.R_below (ra_ HO319) hb) (Kd.R_elder' (ra_ HO322) (Kd.R_base ho0) hb) (Kd.R_below (ra_ HO325) hb) (Kd.R_below (ra_ HO329) hb) (Kd.R_lower (Kd.R_new' (Kd.R_new' ho0 (Kd.R_lt (ra_ HO313))) (Kd.R_lt (ra_ HO322))) (below_size (bl_ HB))) (below_step (bl_ HB) hb) ?_⟩; clear HO310 HO313 HO316 HO319 HO322 HO325 HO329 HB hb ho0; intro HO310 HO313 HO316 HO319 HO322 HO325 HO329 HO333 HB; obtain ⟨Ao41, co41, eo41⟩ := Kd.R_slice HO333.out; subst eo41) | ((with_reducible refine gate_callee (f := 25) rfl ?_); refine gl_ 48 Try.func25 (laws_eqCloudS.calls k _ _ t320 _ _ t331 true _ (cr_ HO322) (rl_ HO322) (cr_ HO333) (rl_ HO333) A19.out) ?_; rintro e w42 ⟨rfl, hb⟩; refine ⟨_, rfl, sh9_ (Kd.R_below (ra_ HO310) hb) (Kd.R_below (ra_ HO313) hb) (Kd.R_below (ra_ HO316) hb) (Kd.R_below (ra_ HO319) hb) (Kd.R_below (ra_ HO322) hb) (Kd.R_below (ra_ HO325) hb) (Kd.R_below (ra_ HO329) hb) (Kd.R_below (ra_ HO333) hb) (below_step (bl_ HB) hb) ?_⟩; clear HO310 HO313 HO316 HO319 HO322 HO325 HO329 HO333 HB hb; intro HO310 HO313 HO316 HO319 HO322 HO325 HO329 HO333 HB) | ((with_reducible refine gate_callee (f := 26) rfl ?_); refine goesL_ (some 52) rfl rfl Try.func26 (by kernel_rfl) rfl #[.slice Ao31 t317.length co31, .int .i64 1] rfl mp_ ?_; (with_reducible refine (laws_markContactS.calls k (fun k_ => some k_ = (.slice Ao31 t317.length co31 : Value).ownBlock) (.slice Ao31 t317.length co31) t317 1 t335 t336 w _ ?side1 ?side2 A21.out).mono ?_); (case side1 => repeat (first | (with_reducible first | exact HB.out | apply below_alloc | apply pw_below_drewN | apply below_drew1) | exact HB.out)); (case side2 => exact Kd.R_tight rfl HO319.out); rintro e w43 ⟨rfl, hy0, hb, hkp⟩; refine ⟨_, rfl, sh9_ (Kd.R_mono (ok' := fun k_ => some k_ ≠ (.slice Ao35 t314.length co35 : Value).ownBlock ∧ some k_ ≠ (.slice Ao31 t317.length co31 : Value).ownBlock ∧ some k_ ≠ (.slice Ao34 t323.length co34 : Value).ownBlock ∧ some k_ ≠ (.slice Ao38 t327.length co38 : Value).ownBlock) (Kd.R_keptB (HO310.out) hkp (fun k_ hk_ hs_ => (hk_.1.1.2) hs_)) (fun k_ hk_ => ⟨hk_.1.1.1.1.2, hk_.1.1.1.2, hk_.1.1.2, hk_.1.2⟩)) (Kd.R_mono (ok' := fun k_ => some k_ ≠ (.slice Ao32 t320.length co32 : Value).ownBlock ∧ some k_ ≠ (.slice Ao41 t331.length co41 : Value).ownBlock) (Kd.R_keptB ((Kd.R_apart' HO313.out (Kd.R_typed HO319.out) (by decide))) hkp (fun k_ hk_ hs_ => (hk_.2) hs_)) (fun k_ hk_ => ⟨hk_.1.1.1.2, hk_.1.1.2⟩)) (Kd.R_mono (ok' := fun k_ => some k_ ≠ (.slice Ao26 t308.length co26 : Value).ownBlock ∧ some k_ ≠ (.slice Ao31 t317.length co31 : Value).ownBlock ∧ some k_ ≠ (.slice Ao34 t323.length co34 : Value).ownBlock ∧ some k_ ≠ (.slice Ao38 t327.length co38 : Value).ownBlock) (Kd.R_keptB (HO316.out) hkp (fun k_ hk_ hs_ => (hk_.1.1.2) hs_)) (fun k_ hk_ => ⟨hk_.1.1.1.1.2, hk_.1.1.1.2, hk_.1.1.2, hk_.1.2⟩)) (Kd.R_reok rfl hy0 (fun k_ e_ => HO319.out.1 k_ e_)) (Kd.R_mono (ok' := fun k_ => some k_ ≠ (.slice Ao27 t311.length co27 : Value).ownBlock ∧ some k_ ≠ (.slice Ao41 t331.length co41 : Value).ownBlock) (Kd.R_keptB ((Kd.R_apart' HO322.out (Kd.R_typed HO319.out) (by decide))) hkp (fun k_ hk_ hs_ => (hk_.2) hs_)) (fun k_ hk_ => ⟨hk_.1.1.1.2, hk_.1.1.2⟩)) (Kd.R_mono (ok' := fun k_ => some k_ ≠ (.slice Ao26 t308.length co26 : Value).ownBlock ∧ some k_ ≠ (.slice Ao35 t314.length co35 : Value).ownBlock ∧ some k_ ≠ (.slice Ao31 t317.length co31 : Value).ownBlock ∧ some k_ ≠ (.slice Ao38 t327.length co38 : Value).ownBlock) (Kd.R_keptB (HO325.out) hkp (fun k_ hk_ hs_ => (hk_.1.2) hs_)) (fun k_ hk_ => ⟨hk_.1.1.1.1.2, hk_.1.1.1.2, hk_.1.1.2, hk_.1.2⟩)) (Kd.R_mono (ok' := fun k_ => some k_ ≠ (.slice Ao26 t308.length co26 : Value).ownBlock ∧ some k_ ≠ (.slice Ao35 t314.length co35 : Value).ownBlock ∧ some k_ ≠ (.slice Ao31 t317.length co31 : Value).ownBlock ∧ some k_ ≠ (.slice Ao34 t323.length co34 : Value).ownBlock) (Kd.R_keptB (HO329.out) hkp (fun k_ hk_ hs_ => (hk_.1.2) hs_)) (fun k_ hk_ => ⟨hk_.1.1.1.1.2, hk_.1.1.1.2, hk_.1.1.2, hk_.1.2⟩)) (Kd.R_mono (ok' := fun k_ => some k_ ≠ (.slice Ao27 t311.length co27 : Value).ownBlock ∧ some k_ ≠ (.slice Ao32 t320.length co32 : Value).ownBlock) (Kd.R_keptB ((Kd.R_apart' HO333.out (Kd.R_typed HO319.out) (by decide))) hkp (fun k_ hk_ hs_ => (hk_.2) hs_)) (fun k_ hk_ => ⟨hk_.1.1.1.2, hk_.1.1.2⟩)) hb ?_⟩; clear HO310 HO313 HO316 HO319 HO322 HO325 HO329 HO333 HB hb hkp hy0; intro HO310 HO313 HO316 HO319 HO322 HO325 HO329 HO333 HB) | ((with_reducible refine gate_callee (f := 27) rfl ?_); refine goesL_ (some 55) rfl rfl Try.func27 (by kernel_rfl) rfl #[.slice Ao32 t320.length co32, .int .i64 t335] rfl mp_ ?_; (with_reducible refine (laws_markCloudS.calls k (fun k_ => some k_ = (.slice Ao32 t320.length co32 : Value).ownBlock) (.slice Ao32 t320.length co32) t320 t335 t337 t338 w _ ?side1 ?side2 A22.out).mono ?_); (case side1 => repeat (first | (with_reducible first | exact HB.out | apply below_alloc | apply pw_below_drewN | apply below_drew1) | exact HB.out)); (case side2 => exact Kd.R_tight rfl HO322.out); rintro e w44 ⟨rfl, hy0, hb, hkp⟩; refine ⟨_, rfl, sh9_ (Kd.R_mono (ok' := fun k_ => some k_ ≠ (.slice Ao35 t314.length co35 : Value).ownBlock ∧ some k_ ≠ (.slice Ao31 t317.length co31 : Value).ownBlock ∧ some k_ ≠ (.slice Ao34 t323.length co34 : Value).ownBlock ∧ some k_ ≠ (.slice Ao38 t327.length co38 : Value).ownBlock) (Kd.R_keptB ((Kd.R_apart' HO310.out (Kd.R_typed HO322.out) (by decide))) hkp (fun k_ hk_ hs_ => (hk_.2) hs_)) (fun k_ hk_ => ⟨hk_.1.1.1, hk_.1.1.2.1, hk_.1.1.2.2.1, hk_.1.1.2.2.2⟩)) (Kd.R_mono (ok' := fun k_ => some k_ ≠ (.slice Ao32 t320.length co32 : Value).ownBlock ∧ some k_ ≠ (.slice Ao41 t331.length co41 : Value).ownBlock) (Kd.R_keptB (HO313.out) hkp (fun k_ hk_ hs_ => (hk_.1) hs_)) (fun k_ hk_ => ⟨hk_.1.1, hk_.1.2⟩)) (Kd.R_mono (ok' := fun k_ => some k_ ≠ (.slice Ao26 t308.length co26 : Value).ownBlock ∧ some k_ ≠ (.slice Ao31 t317.length co31 : Value).ownBlock ∧ some k_ ≠ (.slice Ao34 t323.length co34 : Value).ownBlock ∧ some k_ ≠ (.slice Ao38 t327.length co38 : Value).ownBlock) (Kd.R_keptB ((Kd.R_apart' HO316.out (Kd.R_typed HO322.out) (by decide))) hkp (fun k_ hk_ hs_ => (hk_.2) hs_)) (fun k_ hk_ => ⟨hk_.1.1.1, hk_.1.1.2.1, hk_.1.1.2.2.1, hk_.1.1.2.2.2⟩)) (Kd.R_mono (ok' := fun k_ => some k_ ≠ (.slice Ao26 t308.length co26 : Value).ownBlock ∧ some k_ ≠ (.slice Ao35 t314.length co35 : Value).ownBlock ∧ some k_ ≠ (.slice Ao34 t323.length co34 : Value).ownBlock ∧ some k_ ≠ (.slice Ao38 t327.length co38 : Value).ownBlock) (Kd.R_keptB ((Kd.R_apart' HO319.out (Kd.R_typed HO322.out) (by decide))) hkp (fun k_ hk_ hs_ => (hk_.2) hs_)) (fun k_ hk_ => ⟨hk_.1.1.1.1.1.2, hk_.1.1.1.1.2, hk_.1.1.1.2, hk_.1.1.2⟩)) (Kd.R_reok rfl hy0 (fun k_ e_ => HO322.out.1 k_ e_)) (Kd.R_mono (ok' := fun k_ => some k_ ≠ (.slice Ao26 t308.length co26 : Value).ownBlock ∧ some k_ ≠ (.slice Ao35 t314.length co35 : Value).ownBlock ∧ some k_ ≠ (.slice Ao31 t317.length co31 : Value).ownBlock ∧ some k_ ≠ (.slice Ao38 t327.length co38 : Value).ownBlock) (Kd.R_keptB ((Kd.R_apart' HO325.out (Kd.R_typed HO322.out) (by decide))) hkp (fun k_ hk_ hs_ => (hk_.2) hs_)) (fun k_ hk_ => ⟨hk_.1.1.1, hk_.1.1.2.1, hk_.1.1.2.2.1, hk_.1.1.2.2.2⟩)) (Kd.R_mono (ok' := fun k_ => some k_ ≠ (.slice Ao26 t308.length co26 : Value).ownBlock ∧ some k_ ≠ (.slice Ao35 t314.length co35 : Value).ownBlock ∧ some k_ ≠ (.slice Ao31 t317.length co31 : Value).ownBlock ∧ some k_ ≠ (.slice Ao34 t323.length co34 : Value).ownBlock) (Kd.R_keptB ((Kd.R_apart' HO329.out (Kd.R_typed HO322.out) (by decide))) hkp (fun k_ hk_ hs_ => (hk_.2) hs_)) (fun k_ hk_ => ⟨hk_.1.1.1, hk_.1.1.2.1, hk_.1.1.2.2.1, hk_.1.1.2.2.2⟩)) (Kd.R_mono (ok' := fun k_ => some k_ ≠ (.slice Ao27 t311.length co27 : Value).ownBlock ∧ some k_ ≠ (.slice Ao32 t320.length co32 : Value).ownBlock) (Kd.R_keptB (HO333.out) hkp (fun k_ hk_ hs_ => (hk_.2) hs_)) (fun k_ hk_ => ⟨hk_.1.1, hk_.1.2⟩)) hb ?_⟩; clear HO310 HO313 HO316 HO319 HO322 HO325 HO329 HO333 HB hb hkp hy0; intro HO310 HO313 HO316 HO319 HO322 HO325 HO329 HO333 HB))
      (try simp only [Act.put, List.setIfInBounds_toArray, List.set_cons_zero, List.set_cons_succ])
      go_cut [63] (fun v63 wc => ∃ (kq : Nat) (x63_22 : Bool), v63 = .bool x63_22 ∧ Aside0 (laws_FnExactCutClouds.j0 kq l0 l1 t314 t323 x63_22 = some true) ∧ Aside0 (kq ≤ k) ∧ Aside0 (Kd.R k82 82 wc w.heap.size (fun k_ => some k_ ≠ ((.slice Ao34 t323.length co34) : Value).ownBlock) (.slice Ao35 t314.length co35) t314) ∧ Aside0 (Kd.R k82 82 wc w.heap.size (fun k_ => some k_ ≠ ((.slice Ao35 t314.length co35) : Value).ownBlock) (.slice Ao34 t323.length co34) t323) ∧ Aside0 (Below w.heap.size w wc))
      case first =>
       have H := HC23.out
       clear HC23
       by_cases c45 : t337 < 0
       ·rw [if_pos c45] at H
        have c45b0 := decide_eq_true c45
        clear c45
        (first | rw [c45b0] | (simp only [i64_w, i32_w]; rw [c45b0]) | skip)
        have H' := Aside0.mk H
        clear H
        go_wp2
        go_meet
        case rel => exact ⟨_, (true), (by first | rfl | (simp; done) | (simp [*]; done)), H', ⟨by first | omega | exact Nat.le_refl _⟩, ⟨by (with_reducible repeat (first | apply Kd.R_alloc | apply Kd.R_drewN | apply Kd.R_drew)); exact Kd.R_mono HO316.out (fun _ hk => hk.2.2.1)⟩, ⟨by (with_reducible repeat (first | apply Kd.R_alloc | apply Kd.R_drewN | apply Kd.R_drew)); exact Kd.R_mono HO325.out (fun _ hk => hk.2.1)⟩, ⟨bl_ HB⟩⟩
       ·rw [if_neg c45] at H
        have c45b0 := decide_eq_false c45
        clear c45
        (first | rw [c45b0] | (simp only [i64_w, i32_w]; rw [c45b0]) | skip)
        replace H := bs_ H
        obtain ⟨t339, A46, H⟩ := H
        have H' := Aside0.mk H
        clear H
        go_wp2_with (first | (go_at_call 24; (with_reducible refine (laws_eqContactS.calls k _ _ t323 _ _ t314 t339 _ ?side1 ?side2 ?side3 ?side4 A46.out).mono ?_); (case side1 => repeat (first | exact (Kd.R_reads' HO325.out).2.2 | (with_reducible refine Kd.C_alloc ?_ _) | (with_reducible refine Kd.C_drewN ?_ _) | (with_reducible refine Kd.C_drew ?_))); (case side2 => exact (Kd.R_reads' HO325.out).2.1); (case side3 => repeat (first | exact (Kd.R_reads' HO316.out).2.2 | (with_reducible refine Kd.C_alloc ?_ _) | (with_reducible refine Kd.C_drewN ?_ _) | (with_reducible refine Kd.C_drew ?_))); (case side4 => exact (Kd.R_reads' HO316.out).2.1); rintro e w47 ⟨rfl, hb⟩; refine sh9_ (Kd.R_below (ra_ HO310) hb) (Kd.R_below (ra_ HO313) hb) (Kd.R_below (ra_ HO316) hb) (Kd.R_below (ra_ HO319) hb) (Kd.R_below (ra_ HO322) hb) (Kd.R_below (ra_ HO325) hb) (Kd.R_below (ra_ HO329) hb) (Kd.R_below (ra_ HO333) hb) (below_step (bl_ HB) hb) ?_; clear HO310 HO313 HO316 HO319 HO322 HO325 HO329 HO333 HB hb; intro HO310 HO313 HO316 HO319 HO322 HO325 HO329 HO333 HB))
        go_meet
        case rel => exact ⟨_, (!t339), (by first | rfl | (simp; done) | (simp [*]; done)), H', ⟨by first | omega | exact Nat.le_refl _⟩, ⟨by (with_reducible repeat (first | apply Kd.R_alloc | apply Kd.R_drewN | apply Kd.R_drew)); exact Kd.R_mono HO316.out (fun _ hk => hk.2.2.1)⟩, ⟨by (with_reducible repeat (first | apply Kd.R_alloc | apply Kd.R_drewN | apply Kd.R_drew)); exact Kd.R_mono HO325.out (fun _ hk => hk.2.1)⟩, ⟨bl_ HB⟩⟩
      case rest =>
       clear HC23
       try clear c1
       try clear c2
       try clear p2
       try clear c4
       try clear c4b0
       try clear c6
       try clear c6b0
       try clear c14
       try clear c17
       try clear c18
       try clear c19
       try clear c20
       try clear c21
       try clear c22
       try clear c23
       try clear c24
       try clear c25
       try clear c26
       try clear c27
       try clear c45
       try clear c45b0
       obtain ⟨kq, x63_22, rfl, HA, HJ22, HO_6, HO_9, HB⟩ := hcut
       cases kq with
       | zero => exact absurd HA.out (by simp [laws_FnExactCutClouds.j0])
       | succ kj22 =>
        have H := HA.out
        clear HA
        simp only [laws_FnExactCutClouds.j0] at H
        by_cases c48 : x63_22 = true
        ·subst c48
         try rw [if_pos rfl] at H
         exact absurd H (by simp)
        ·replace c48 := Bool.eq_false_iff.mpr c48
         subst c48
         have H1 : ((laws_markContactS.f kj22 t323 1).bind fun bt340 => ((laws_heldContactS.f kj22 bt340.2 1).bind fun t342 => (if t342 < 0 then (some false) else (if t342 = bt340.1 then ((laws_toContactS.f kj22 l0).bind fun t343 => ((laws_toCloudS.f kj22 l1).bind fun t346 => ((impl_CutClouds.f kj22 t343 t346).bind fun t349 => ((laws_eqContactS.f kj22 t349 t314).bind fun t352 => (if t352 = true then ((laws_heldContactS.f kj22 bt340.2 1).bind fun t353 => (if t353 < 0 then (some false) else (if t353 = bt340.1 then (some true) else (some false)))) else (some false)))))) else (some false))))) = some true := by first | (rw [if_neg (show ¬ (false = true) by decide)] at H; exact H) | rfl
         clear H
         have H := H1
         clear H1
         replace H := bs_ H
         obtain ⟨⟨t340, t341⟩, A49, H⟩ := H
         dsimp only at H
         replace H := bs_ H
         obtain ⟨t342, A50, H⟩ := H
         by_cases c51 : t342 < 0
         ·rw [if_pos c51] at H
          have c51b0 := decide_eq_true c51
          clear c51
          exact absurd H (by simp)
         ·rw [if_neg c51] at H
          have c51b0 := decide_eq_false c51
          clear c51
          by_cases c52 : t342 = t340
          ·rw [if_pos c52] at H
           obtain ⟨c52b0, c52b1⟩ := bt_ c52
           clear c52
           replace H := bs_ H
           obtain ⟨t343, A53, H⟩ := H
           replace H := bs_ H
           obtain ⟨t346, A54, H⟩ := H
           replace H := bs_ H
           obtain ⟨t349, A55, H⟩ := H
           replace H := bs_ H
           obtain ⟨t352, A56, H⟩ := H
           by_cases c57 : t352 = true
           ·subst c57
            try rw [if_pos rfl] at H
            replace H := bs_ H
            obtain ⟨t353, A58, H⟩ := H
            by_cases c59 : t353 < 0
            ·rw [if_pos c59] at H
             have c59b0 := decide_eq_true c59
             clear c59
             exact absurd H (by simp)
            ·rw [if_neg c59] at H
             have c59b0 := decide_eq_false c59
             clear c59
             by_cases c60 : t353 = t340
             ·rw [if_pos c60] at H
              obtain ⟨c60b0, c60b1⟩ := bt_ c60
              clear c60
              clear H
              go_wp2_with (first | ((with_reducible refine gate_callee (f := 26) rfl ?_); refine goesL_ (some 66) rfl rfl Try.func26 (by kernel_rfl) rfl #[.slice Ao34 t323.length co34, .int .i64 1] rfl mp_ ?_; (with_reducible refine (laws_markContactS.calls kj22 (fun k_ => some k_ = (.slice Ao34 t323.length co34 : Value).ownBlock) (.slice Ao34 t323.length co34) t323 1 t340 t341 w _ ?side1 ?side2 A49.out).mono ?_); (case side1 => repeat (first | (with_reducible first | exact HB.out | apply below_alloc | apply pw_below_drewN | apply below_drew1) | exact HB.out)); (case side2 => exact Kd.R_tight rfl HO_9.out); rintro e w61 ⟨rfl, hy0, hb, hkp⟩; refine ⟨_, rfl, sh3_ (Kd.R_mono (ok' := fun k_ => some k_ ≠ (.slice Ao34 t323.length co34 : Value).ownBlock) (Kd.R_keptB (HO_6.out) hkp (fun k_ hk_ hs_ => (hk_) hs_)) (fun k_ hk_ => hk_.1)) (Kd.R_reok rfl hy0 (fun k_ e_ => HO_9.out.1 k_ e_)) hb ?_⟩; clear HO_6 HO_9 HB hb hkp hy0; intro HO_6 HO_9 HB) | ((with_reducible refine gate_callee (f := 28) rfl ?_); refine goesL_ (some 69) rfl rfl Try.func28 (by kernel_rfl) rfl #[.slice Ao34 t341.length co34, .int .i64 1] rfl (by (try simp only [List.map_toArray, List.map_cons, List.map_nil]); first | done | (rw [show t341.length = t323.length from (Kd.R_reads' HO_9.out).1.symm] <;> rfl) | rfl | (simp only [List.length_drop, List.length_take]; rfl)) ?_; (with_reducible refine (laws_heldContactS.calls kj22 _ _ t341 1 t342 _ ?side1 ?side2 A50.out).mono ?_); (case side1 => repeat (first | exact (Kd.R_reads' HO_9.out).2.2 | (with_reducible refine Kd.C_alloc ?_ _) | (with_reducible refine Kd.C_drewN ?_ _) | (with_reducible refine Kd.C_drew ?_))); (case side2 => rw [show t341.length = t323.length from (Kd.R_reads' HO_9.out).1.symm]; exact (Kd.R_reads' HO_9.out).2.1); rintro e w' ⟨rfl, ⟨nd, rfl⟩⟩; refine ⟨_, rfl, ?_⟩) | ((with_reducible refine gate_callee (f := 21) rfl ?_); refine goesL_ (some 76) rfl rfl Try.func21 (by kernel_rfl) rfl #[.slice A0 l0.length c0] rfl mp_ ?_; (with_reducible refine (laws_toContactS.calls kj22 _ _ l0 t343 _ ?side1 ?side2 A53.out).mono ?_); (case side1 => repeat (first | exact (Kd.C_below HR0.out (bl_ HB)) | (with_reducible refine Kd.C_alloc ?_ _) | (with_reducible refine Kd.C_drewN ?_ _) | (with_reducible refine Kd.C_drew ?_))); (case side2 => exact HC0.out); rintro e w62 ⟨v344, rfl, ho0, hb⟩; refine ⟨_, rfl, sh4_ (Kd.R_elder' (ra_ HO_6) (Kd.R_base ho0) hb) (Kd.R_elder' (ra_ HO_9) (Kd.R_base ho0) hb) (Kd.R_lower (Kd.R_new' (Kd.R_new' ho0 (Kd.R_lt (ra_ HO_6))) (Kd.R_lt (ra_ HO_9))) (below_size (bl_ HB))) (below_step (bl_ HB) hb) ?_⟩; clear HO_6 HO_9 HB hb ho0; intro HO_6 HO_9 HO345 HB) | ((with_reducible refine gate_callee (f := 22) rfl ?_); refine gl_ 78 Try.func22 (laws_toCloudS.calls kj22 _ _ l1 t346 _ (ck_ HR1 HB) HC1.out A54.out) ?_; rintro e w63 ⟨v347, rfl, ho0, hb⟩; refine ⟨_, rfl, sh5_ (Kd.R_below (ra_ HO_6) hb) (Kd.R_below (ra_ HO_9) hb) (Kd.R_below (ra_ HO345) hb) (Kd.R_lower ho0 (below_size (bl_ HB))) (below_step (bl_ HB) hb) ?_⟩; clear HO_6 HO_9 HO345 HB hb ho0; intro HO_6 HO_9 HO345 HO348 HB; obtain ⟨Ao64, co64, eo64⟩ := Kd.R_slice HO345.out; subst eo64; obtain ⟨Ao65, co65, eo65⟩ := Kd.R_slice HO348.out; subst eo65) | ((with_reducible refine gate_callee (f := 23) rfl ?_); refine gl_ 79 Try.func23 (impl_CutClouds.calls kj22 _ _ t343 _ _ t346 t349 _ (cr_ HO345) (rl_ HO345) (cr_ HO348) (rl_ HO348) A55.out) ?_; rintro e w66 ⟨v350, rfl, ho0, hb⟩; refine ⟨_, rfl, sh6_ (Kd.R_elder' (ra_ HO_6) (Kd.R_base ho0) hb) (Kd.R_elder' (ra_ HO_9) (Kd.R_base ho0) hb) (Kd.R_elder' (ra_ HO345) (Kd.R_base ho0) hb) (Kd.R_below (ra_ HO348) hb) (Kd.R_lower (Kd.R_new' (Kd.R_new' (Kd.R_new' ho0 (Kd.R_lt (ra_ HO_6))) (Kd.R_lt (ra_ HO_9))) (Kd.R_lt (ra_ HO345))) (below_size (bl_ HB))) (below_step (bl_ HB) hb) ?_⟩; clear HO_6 HO_9 HO345 HO348 HB hb ho0; intro HO_6 HO_9 HO345 HO348 HO351 HB; obtain ⟨Ao67, co67, eo67⟩ := Kd.R_slice HO351.out; subst eo67) | ((with_reducible refine gate_callee (f := 24) rfl ?_); refine gl_ 82 Try.func24 (laws_eqContactS.calls kj22 _ _ t349 _ _ t314 true _ (cr_ HO351) (rl_ HO351) (cr_ HO_6) (rl_ HO_6) A56.out) ?_; rintro e w68 ⟨rfl, hb⟩; refine ⟨_, rfl, sh6_ (Kd.R_below (ra_ HO_6) hb) (Kd.R_below (ra_ HO_9) hb) (Kd.R_below (ra_ HO345) hb) (Kd.R_below (ra_ HO348) hb) (Kd.R_below (ra_ HO351) hb) (below_step (bl_ HB) hb) ?_⟩; clear HO_6 HO_9 HO345 HO348 HO351 HB hb; intro HO_6 HO_9 HO345 HO348 HO351 HB) | ((with_reducible refine gate_callee (f := 28) rfl ?_); refine goesL_ (some 86) rfl rfl Try.func28 (by kernel_rfl) rfl #[.slice Ao34 t341.length co34, .int .i64 1] rfl (by (try simp only [List.map_toArray, List.map_cons, List.map_nil]); first | done | (rw [show t341.length = t323.length from (Kd.R_reads' HO_9.out).1.symm] <;> rfl) | rfl | (simp only [List.length_drop, List.length_take]; rfl)) ?_; (with_reducible refine (laws_heldContactS.calls kj22 _ _ t341 1 t353 _ ?side1 ?side2 A58.out).mono ?_); (case side1 => repeat (first | exact (Kd.R_reads' HO_9.out).2.2 | (with_reducible refine Kd.C_alloc ?_ _) | (with_reducible refine Kd.C_drewN ?_ _) | (with_reducible refine Kd.C_drew ?_))); (case side2 => rw [show t341.length = t323.length from (Kd.R_reads' HO_9.out).1.symm]; exact (Kd.R_reads' HO_9.out).2.1); rintro e w' ⟨rfl, ⟨nd, rfl⟩⟩; refine ⟨_, rfl, ?_⟩))
              go_ret
              exact ⟨er_, bl_ HB⟩
             ·rw [if_neg c60] at H
              obtain ⟨c60b0, c60b1⟩ := bn_ c60
              exact absurd H (by simp)
           ·replace c57 := Bool.eq_false_iff.mpr c57
            subst c57
            have H1 : (some false) = some true := by first | (rw [if_neg (show ¬ (false = true) by decide)] at H; exact H) | rfl
            clear H
            have H := H1
            clear H1
            exact absurd H (by simp)
          ·rw [if_neg c52] at H
           obtain ⟨c52b0, c52b1⟩ := bn_ c52
           exact absurd H (by simp)
     ·replace c20 := Bool.eq_false_iff.mpr c20
      subst c20
      have H1 : (some false) = some true := by first | (rw [if_neg (show ¬ (false = true) by decide)] at H; exact H) | rfl
      clear H
      have H := H1
      clear H1
      exact absurd H (by simp)
    ·replace c17 := Bool.eq_false_iff.mpr c17
     subst c17
     have H1 : (some false) = some true := by first | (rw [if_neg (show ¬ (false = true) by decide)] at H; exact H) | rfl
     clear H
     have H := H1
     clear H1
     exact absurd H (by simp)
   ·replace c14 := Bool.eq_false_iff.mpr c14
    subst c14
    have H1 : (some false) = some true := by first | (rw [if_neg (show ¬ (false = true) by decide)] at H; exact H) | rfl
    clear H
    have H := H1
    clear H1
    exact absurd H (by simp)

end Go.Proofs.Ytcjfalmhohcifaa.PFnExactCutClouds
