-- Written by a program of this session for this claim (the kit's printer with changes).
import Derived.Shelf.SortM.Plain
import Derived.Shelf.SortM.SortNone
import Derived.Ground.SlgmProg
import Derived.Shelf.SlicesG.CompactI
import Derived.Ground.SlgnProg
import Derived.Test.YtlljhblilicnfaaQFnExactDistancesTox0
import Derived.Test.YtlljhblilicnfaaQFnExactDistancesTox2
namespace Go.Proofs.Ytlljhblilicnfaa.PFnExactDistancesTo
open Go.RowKit Go.Proofs.YtlljhblilicnfaaW.PrintWords Go.Proofs.YtlljhblilicnfaaW.PrintLast Go.Proofs.YtlljhblilicnfaaW.PrintMore
attribute [local go_sem] max2_int min2_int max_two min_two max_three min_three max_four min_four   -- for this text's walks alone
set_option linter.unusedVariables false
set_option linter.unusedSimpArgs false

/-! ### spec_l1In: function 110 -/
def spec_l1In.f (a0 : Int) (a1 : Int) (a2 : Int) : Option (Bool) := if a0 ≥ a1 then (some (decide (a0 ≤ a2))) else (some false)
set_option maxHeartbeats 8000000 in
set_option maxRecDepth 100000 in
theorem spec_l1In.calls (a0 : Int) (a1 : Int) (a2 : Int) (r : Bool) (w : World) (h : spec_l1In.f a0 a1 a2 = some r) :
  Calls Try.prog 110 #[.int .i64 a0, .int .i64 a1, .int .i64 a2] w fun e w' => e = .returned (.bool r) ∧ Drawn0 w w' := by
 have H := h
 clear h
 unfold spec_l1In.f at H
 by_cases c4 : a0 ≥ a1
 ·rw [if_pos c4] at H
  have c4b0 : decide (a1 ≤ a0) = true := decide_eq_true c4
  clear c4
  obtain rfl := Option.some.inj H
  go_enter Try.func110, Try.ntmps110
  go_wp2
  go_ret
  exact ⟨by first | rfl | (simp; done) | (simp [*]; done), by repeat (first | exact Drawn0.refl _ | apply Drawn0.step)⟩
 ·rw [if_neg c4] at H
  have c4b0 : decide (a1 ≤ a0) = false := decide_eq_false c4
  clear c4
  obtain rfl := Option.some.inj H
  go_enter Try.func110, Try.ntmps110
  go_wp2
  go_ret
  exact ⟨by first | rfl | (simp; done) | (simp [*]; done), by repeat (first | exact Drawn0.refl _ | apply Drawn0.step)⟩

/-! ### spec_l14Ok: function 109 -/
def spec_l14Ok.f (a0 : Int) (a1 : Int) : Option (Bool) := (spec_l1In.f a0 1 12).bind fun t200 => (if t200 = true then ((spec_l1In.f a1 0 (wrap64 (a0 - 1))).bind fun t201 => (some t201)) else (some false))
set_option maxHeartbeats 8000000 in
set_option maxRecDepth 100000 in
theorem spec_l14Ok.calls (a0 : Int) (a1 : Int) (r : Bool) (w : World) (h : spec_l14Ok.f a0 a1 = some r) :
  Calls Try.prog 109 #[.int .i64 a0, .int .i64 a1] w fun e w' => e = .returned (.bool r) ∧ Drawn0 w w' := by
 have H := h
 clear h
 unfold spec_l14Ok.f at H
 replace H := bs_ H
 obtain ⟨t200, A3, H⟩ := H
 by_cases c4 : t200 = true
 ·subst c4
  rw [if_pos rfl] at H
  replace H := bs_ H
  obtain ⟨t201, A5, H⟩ := H
  obtain rfl := Option.some.inj H
  go_enter Try.func109, Try.ntmps109
  go_wp2_with (first | ((with_reducible refine gate_callee (f := 110) rfl ?_); refine gl_ 6 Try.func110 (spec_l1In.calls a0 1 12 true _ A3.out) ?_; rintro e w' ⟨rfl, ⟨nd, rfl⟩⟩; refine ⟨_, rfl, ?_⟩) | (go_at_call 110; (with_reducible refine (spec_l1In.calls a1 0 (wrap64 (a0 - 1)) t201 _ A5.out).mono ?_); rintro e w' ⟨rfl, ⟨nd, rfl⟩⟩))
  go_ret
  exact ⟨by first | rfl | (simp; done) | (simp [*]; done), by repeat (first | exact Drawn0.refl _ | apply Drawn0.step)⟩
 ·replace c4 := Bool.eq_false_iff.mpr c4
  subst c4
  have H1 : (some false) = some r := by rw [if_neg (show ¬ (false = true) by decide)] at H; exact H
  clear H
  have H := H1
  clear H1
  obtain rfl := Option.some.inj H
  go_enter Try.func109, Try.ntmps109
  go_wp2_with (first | ((with_reducible refine gate_callee (f := 110) rfl ?_); refine gl_ 6 Try.func110 (spec_l1In.calls a0 1 12 false _ A3.out) ?_; rintro e w' ⟨rfl, ⟨nd, rfl⟩⟩; refine ⟨_, rfl, ?_⟩))
  go_ret
  exact ⟨by first | rfl | (simp; done) | (simp [*]; done), by repeat (first | exact Drawn0.refl _ | apply Drawn0.step)⟩

/-! ### spec_DistancesTo: function 58 -/
mutual
def spec_DistancesTo.l0 : Nat → List (S103) → Int → Int → Int → List Int → Int → Option (List Int)
 | 0, _, _, _, _, _, _ => none
 | k + 1, x0, x1, x2, x3, x9, x10 => if x10 < x1 then (if x9.length < 17592186044416 then (spec_DistancesTo.l0 k x0 x1 x2 x3 (x9 ++ [(-1)]) (wrap64 (x10 + 1))) else (none)) else (if 0 ≤ x3 then (if x3 < (x9.length : Int) then (spec_DistancesTo.l1 k x0 x1 x2 x3 (x9.set (x3 : Int).toNat 0) (([x3] : List Int)) 0) else (none)) else (none))
def spec_DistancesTo.l1 : Nat → List (S103) → Int → Int → Int → List Int → List Int → Int → Option (List Int)
 | 0, _, _, _, _, _, _, _ => none
 | k + 1, x0, x1, x2, x3, x9, x11, x12 => if x12 < (x11.length : Int) then (if 0 ≤ x12 then (if (rd x11 x12) = x3 then (spec_DistancesTo.j2 k x0 x1 x2 x3 x9 x11 x12 (rd x11 x12) false) else (spec_DistancesTo.j2 k x0 x1 x2 x3 x9 x11 x12 (rd x11 x12) (decide ((rd x11 x12) ≥ x2)))) else (none)) else (some x9)
def spec_DistancesTo.j2 : Nat → List (S103) → Int → Int → Int → List Int → List Int → Int → Int → Bool → Option (List Int)
 | 0, _, _, _, _, _, _, _, _, _ => none
 | k + 1, x0, x1, x2, x3, x9, x11, x12, x13, x52 => if x52 = true then (spec_DistancesTo.l1 k x0 x1 x2 x3 x9 x11 (wrap64 (x12 + 1))) else ((spec_NeighborsIn.f k x0 x13).bind fun t217 => (spec_DistancesTo.l2 k x0 x1 x2 x3 x9 x11 x12 x13 t217 0))
def spec_DistancesTo.l2 : Nat → List (S103) → Int → Int → Int → List Int → List Int → Int → Int → List Int → Int → Option (List Int)
 | 0, _, _, _, _, _, _, _, _, _, _ => none
 | k + 1, x0, x1, x2, x3, x9, x11, x12, x13, x14, x15 => if x15 < (x14.length : Int) then (if 0 ≤ x15 then ((spec_l1In.f (rd x14 x15) 0 (wrap64 (x1 - 1))).bind fun t221 => (if t221 = true then (if 0 ≤ (rd x14 x15) then (if (rd x14 x15) < (x9.length : Int) then (if (rd x9 (rd x14 x15)) < 0 then (if 0 ≤ x13 then (if x13 < (x9.length : Int) then (if x11.length < 17592186044416 then (spec_DistancesTo.l2 k x0 x1 x2 x3 (x9.set ((rd x14 x15) : Int).toNat (wrap64 ((rd x9 x13) + 1))) (x11 ++ [rd x14 x15]) x12 x13 x14 (wrap64 (x15 + 1))) else (none)) else (none)) else (none)) else (spec_DistancesTo.l2 k x0 x1 x2 x3 x9 x11 x12 x13 x14 (wrap64 (x15 + 1)))) else (none)) else (none)) else (spec_DistancesTo.l2 k x0 x1 x2 x3 x9 x11 x12 x13 x14 (wrap64 (x15 + 1))))) else (none)) else (spec_DistancesTo.l1 k x0 x1 x2 x3 x9 x11 (wrap64 (x12 + 1)))
end
def spec_DistancesTo.f (k : Nat) (l0 : List (S103)) (a1 : Int) (a2 : Int) (a3 : Int) : Option (List Int) := (spec_l14Ok.f a1 a3).bind fun t202 => (if t202 = true then (spec_DistancesTo.l0 k l0 a1 a2 a3 (([] : List Int)) 0) else (some (([] : List Int))))
theorem spec_DistancesTo.mono_l : ∀ k, (∀ y0 y1 y2 y3 y4 y5, LeO (spec_DistancesTo.l0 k y0 y1 y2 y3 y4 y5) (spec_DistancesTo.l0 (k + 1) y0 y1 y2 y3 y4 y5)) ∧ (∀ y0 y1 y2 y3 y4 y5 y6, LeO (spec_DistancesTo.l1 k y0 y1 y2 y3 y4 y5 y6) (spec_DistancesTo.l1 (k + 1) y0 y1 y2 y3 y4 y5 y6)) ∧ (∀ y0 y1 y2 y3 y4 y5 y6 y7 y8, LeO (spec_DistancesTo.j2 k y0 y1 y2 y3 y4 y5 y6 y7 y8) (spec_DistancesTo.j2 (k + 1) y0 y1 y2 y3 y4 y5 y6 y7 y8)) ∧ (∀ y0 y1 y2 y3 y4 y5 y6 y7 y8 y9, LeO (spec_DistancesTo.l2 k y0 y1 y2 y3 y4 y5 y6 y7 y8 y9) (spec_DistancesTo.l2 (k + 1) y0 y1 y2 y3 y4 y5 y6 y7 y8 y9))
 | 0 => ⟨fun _ _ _ _ _ _ r h => by simp [spec_DistancesTo.l0] at h, fun _ _ _ _ _ _ _ r h => by simp [spec_DistancesTo.l1] at h, fun _ _ _ _ _ _ _ _ _ r h => by simp [spec_DistancesTo.j2] at h, fun _ _ _ _ _ _ _ _ _ _ r h => by simp [spec_DistancesTo.l2] at h⟩
 | k + 1 => by
  obtain ⟨ih0, ih1, ih2, ih3⟩ := spec_DistancesTo.mono_l k
  refine ⟨?_, ?_, ?_, ?_⟩
  ·intro y0 y1 y2 y3 y4 y5
   unfold spec_DistancesTo.l0
   repeat' first | (with_reducible first | exact ih0 _ _ _ _ _ _ | exact ih1 _ _ _ _ _ _ _ | exact ih2 _ _ _ _ _ _ _ _ _ | exact ih3 _ _ _ _ _ _ _ _ _ _ | exact spec_NeighborsIn.mono _ _ _ | exact LeO.refl _ | exact LeO.none _ | refine LeO.ite ?_ ?_ | refine LeO.bind ?_ (fun _ => ?_)) | exact LeO.none _ | refine LeO.ite ?_ ?_ | refine LeO.bind ?_ (fun _ => ?_)
  ·intro y0 y1 y2 y3 y4 y5 y6
   unfold spec_DistancesTo.l1
   repeat' first | (with_reducible first | exact ih0 _ _ _ _ _ _ | exact ih1 _ _ _ _ _ _ _ | exact ih2 _ _ _ _ _ _ _ _ _ | exact ih3 _ _ _ _ _ _ _ _ _ _ | exact spec_NeighborsIn.mono _ _ _ | exact LeO.refl _ | exact LeO.none _ | refine LeO.ite ?_ ?_ | refine LeO.bind ?_ (fun _ => ?_)) | exact LeO.none _ | refine LeO.ite ?_ ?_ | refine LeO.bind ?_ (fun _ => ?_)
  ·intro y0 y1 y2 y3 y4 y5 y6 y7 y8
   unfold spec_DistancesTo.j2
   repeat' first | (with_reducible first | exact ih0 _ _ _ _ _ _ | exact ih1 _ _ _ _ _ _ _ | exact ih2 _ _ _ _ _ _ _ _ _ | exact ih3 _ _ _ _ _ _ _ _ _ _ | exact spec_NeighborsIn.mono _ _ _ | exact LeO.refl _ | exact LeO.none _ | refine LeO.ite ?_ ?_ | refine LeO.bind ?_ (fun _ => ?_)) | exact LeO.none _ | refine LeO.ite ?_ ?_ | refine LeO.bind ?_ (fun _ => ?_)
  ·intro y0 y1 y2 y3 y4 y5 y6 y7 y8 y9
   unfold spec_DistancesTo.l2
   repeat' first | (with_reducible first | exact ih0 _ _ _ _ _ _ | exact ih1 _ _ _ _ _ _ _ | exact ih2 _ _ _ _ _ _ _ _ _ | exact ih3 _ _ _ _ _ _ _ _ _ _ | exact spec_NeighborsIn.mono _ _ _ | exact LeO.refl _ | exact LeO.none _ | refine LeO.ite ?_ ?_ | refine LeO.bind ?_ (fun _ => ?_)) | exact LeO.none _ | refine LeO.ite ?_ ?_ | refine LeO.bind ?_ (fun _ => ?_)
theorem spec_DistancesTo.mono : ∀ a0 a1 a2 a3 k, LeO (spec_DistancesTo.f k a0 a1 a2 a3) (spec_DistancesTo.f (k + 1) a0 a1 a2 a3) := by
 intro a0 a1 a2 a3 k
 obtain ⟨ih0, ih1, ih2, ih3⟩ := spec_DistancesTo.mono_l k
 unfold spec_DistancesTo.f
 repeat' first | (with_reducible first | exact ih0 _ _ _ _ _ _ | exact ih1 _ _ _ _ _ _ _ | exact ih2 _ _ _ _ _ _ _ _ _ | exact ih3 _ _ _ _ _ _ _ _ _ _ | exact spec_NeighborsIn.mono _ _ _ | exact LeO.refl _ | exact LeO.none _ | refine LeO.ite ?_ ?_ | refine LeO.bind ?_ (fun _ => ?_)) | exact LeO.none _ | refine LeO.ite ?_ ?_ | refine LeO.bind ?_ (fun _ => ?_)
def spec_DistancesTo.T20 : Bool × List (List Nat × List Nat) := (true, [([], []), ([], []), ([], []), ([1, 2], [1, 2]), ([3], [3]), ([], []), ([], []), ([5, 6], [5, 6]), ([7], [7]), ([8], [8]), ([0, 4, 0, 1, 2, 3, 4, 5, 6, 7, 8, 9], [0, 4]), ([10, 9, 0, 1, 2, 3, 4, 5, 6, 7, 8, 9], [9, 10])])
def spec_DistancesTo.B20 : List Nat := [0, 0, 0, 6, 14, 0, 0, 96, 224, 480, 1023, 2047]
theorem spec_DistancesTo.tab20 : rtab .any (opsOf Try.f58 20) = spec_DistancesTo.T20 := by kernel_rfl
theorem spec_DistancesTo.bits20 : waitsOk spec_DistancesTo.T20.2 spec_DistancesTo.B20 = true := by kernel_rfl
set_option maxHeartbeats 8000000 in
set_option maxRecDepth 100000 in
theorem spec_DistancesTo.calls (k : Nat) (A0 : Option Addr) (c0 : Nat) (l0 : List (S103)) (a1 : Int) (a2 : Int) (a3 : Int) (r : List Int) (w : World) (hr0 : Kd.C k103 w A0 l0.length l0) (hc0 : l0.length ≤ c0) (h : spec_DistancesTo.f k l0 a1 a2 a3 = some r) :
  Calls Try.prog 58 #[.slice A0 l0.length c0, .int .i64 a1, .int .i64 a2, .int .i64 a3] w fun e w' => ∃ v0_ : Value, e = .returned (v0_) ∧ Kd.R (Kd.int .i64) 3 w' w.heap.size (fun _ => True) v0_ r ∧ Below w.heap.size w w' := by
 have HR0 := Aside0.mk hr0
 have HC0 := Aside0.mk hc0
 clear hr0 hc0
 have HB := Aside0.mk (Below.refl w.heap.size w)
 have H := h
 clear h
 unfold spec_DistancesTo.f at H
 replace H := bs_ H
 obtain ⟨t202, A5, H⟩ := H
 by_cases c6 : t202 = true
 ·subst c6
  rw [if_pos rfl] at H
  replace H : ∃ y_ : List Int, Aside0 (y_ = (([] : List Int))) ∧ (spec_DistancesTo.l0 k l0 a1 a2 a3 y_ 0) = some r := ⟨_, ⟨rfl⟩, yh_ H⟩
  obtain ⟨y206, Ny206, H⟩ := H
  have H' := Aside0.mk H
  clear H
  go_enter Try.func58, Try.ntmps58
  go_wp2_with (first | ((with_reducible refine gate_callee (f := 109) rfl ?_); refine gl_ 18 Try.func109 (spec_l14Ok.calls a1 a3 true _ A5.out) ?_; rintro e w' ⟨rfl, ⟨nd, rfl⟩⟩; refine ⟨_, rfl, ?_⟩) | ((with_reducible refine gate_dst (N := 21) rfl ?_); refine Kd.R_lit (Kd.int .i64) _ 3 ?hg (N := 21) ?hd (xs := ([] : List Int)) (inner := []) (ok := fun _ => True) (okp := fun _ => True) ?hr ?hp (fun _ hk => hk) trivial (Below.refl _ _) (Nat.le_refl _) (by simp) ?_; (case hd => rfl); (case hg => rfl); (case hr => first | (go_simp; done) | (go_simp; rfl)); (case hp => exact (Reps.none _ _)); intro v207 w7 ho8 hb hg_ hnew_; clear hg_ hnew_; (first | rw [← Ny206.out] at ho8 | (simp only [Int.reduceToNat] at ho8; rw [← Ny206.out] at ho8)); refine sh2_ (Kd.R_lower ho8 (below_size (bl_ HB))) (below_step (bl_ HB) hb) ?_; clear HB hb ho8; intro HO208 HB))
  go_loopg [9, 10] k (fun kq v9 v10 w' => ∃ (x9_1 : List Int) (x10_1 : Int), v10 = .int .i64 x10_1 ∧ Aside0 (spec_DistancesTo.l0 kq l0 a1 a2 a3 x9_1 x10_1 = some r) ∧ Aside0 (kq ≤ k) ∧ Aside0 (Kd.R (Kd.int .i64) 3 w' w.heap.size (fun _ => True) v9 x9_1) ∧ Aside0 (Below w.heap.size w w'))
  case atStart => exact ⟨(y206), (0), (by first | rfl | (simp; done) | (simp [*]; done)), H', ⟨Nat.le_refl _⟩, ⟨ra_ HO208⟩, ⟨bl_ HB⟩⟩
  case round =>
   clear H'
   try clear c1
   try clear p2
   try clear c5
   try clear c6
   obtain ⟨x9_1, x10_1, rfl, HA, HK1, HO_9, HB⟩ := hrel
   cases gk with
   | zero => exact absurd HA.out (by simp [spec_DistancesTo.l0])
   | succ k1 =>
    have H := HA.out
    clear HA
    simp only [spec_DistancesTo.l0] at H
    by_cases c9 : x10_1 < a1
    ·rw [if_pos c9] at H
     have c9b0 := decide_eq_true c9
     clear c9
     replace H := ifn_ H
     obtain ⟨c10, H⟩ := H
     have LMc10 := Aside0.mk c10
     clear c10
     replace H : ∃ y_ : List Int, Aside0 (y_ = (x9_1 ++ [(-1)])) ∧ (spec_DistancesTo.l0 k1 l0 a1 a2 a3 y_ (wrap64 (x10_1 + 1))) = some r := ⟨_, ⟨rfl⟩, yh_ H⟩
     obtain ⟨y209, Ny209, H⟩ := H
     have H' := Aside0.mk H
     clear H
     go_wp2_with (first | ((with_reducible refine gate_builtin (b := .append) (xs := #[.tmp 27, .tmp 28]) rfl ?_); at_builtin; refine Kd.R_append (Kd.int .i64) (w0 := w) w.heap.size rfl (.tmp 27) (.tmp 28) 24 3 (.int .i64 0) 8 rfl Try.underlying24 info3 rfl (by decide) (by omega) u9 x9_1 (-1) [.int .i64 (-1)] (fun _ => True) (fun _ => False) rfl rfl ?aP (fun _ hk => hk.elim) ?aF ?aO ?aB ?aS ?aL ?_; (case aP => exact rfl); (case aB => exact (bl_ HB)); (case aF => exact (fun _ _ => trivial)); (case aO => exact (ra_ HO_9)); (case aS => exact (below_size (bl_ HB))); (case aL => have := LMc10.out; omega); intro v210 w11 ho hb hg hat; rw [← Ny209.out] at ho; refine sh2_ hb ho ?_; clear HB HO_9 ho hb hg hat; intro HB HO211))
     go_roundg k1
     case measure => have := HK1.out; omega
     case rel => exact ⟨(y209), (wrap64 (x10_1 + 1)), (by first | rfl | (simp; done) | (simp [*]; done)), H', ⟨by have := HK1.out; omega⟩, ⟨ra_ HO211⟩, ⟨bl_ HB⟩⟩
    ·rw [if_neg c9] at H
     have c9b0 := decide_eq_false c9
     clear c9
     replace H := ifn_ H
     obtain ⟨c12, H⟩ := H
     have c12b0 := decide_eq_true c12
     clear c12
     replace H := ifn_ H
     obtain ⟨c13, H⟩ := H
     have c13b0 := decide_eq_true c13
     clear c13
     replace H : ∃ y_ : List Int, Aside0 (y_ = (x9_1.set (a3 : Int).toNat 0)) ∧ (spec_DistancesTo.l1 k1 l0 a1 a2 a3 y_ (([a3] : List Int)) 0) = some r := ⟨_, ⟨rfl⟩, yh_ H⟩
     obtain ⟨y212, Ny212, H⟩ := H
     replace H : ∃ y_ : List Int, Aside0 (y_ = (([a3] : List Int))) ∧ (spec_DistancesTo.l1 k1 l0 a1 a2 a3 y212 y_ 0) = some r := ⟨_, ⟨rfl⟩, yh_ H⟩
     obtain ⟨y213, Ny213, H⟩ := H
     have H' := Aside0.mk H
     clear H
     have p14 : 0 ≤ (a3 : Int) := od_
     have q14 : (a3 : Int) < ((x9_1.length : Int) : Int) := od_
     obtain ⟨go14, co14, eo14, gb14, gl14, cl14, HG14⟩ := Kd.R_form HO_9.out (by omega)
     (first | cases eo14 | (injection eo14 with ea_ en_ ec_; (first | subst ea_ | (injection ea_ with ea_; subst ea_)); subst ec_; clear en_))
     have GB14 := Aside0.mk gb14
     have GG14 := Aside0.mk HG14
     clear gb14 gl14 HG14
     obtain ⟨hx14_0, hf14_0⟩ := Kd.R_celln 0 HO_9.out (a3 : Int) p14 q14
     replace p14 := eq_true p14
     replace q14 := eq_true q14
     have HP15 := Kd.R_putg HO_9.out (a3 : Int) 0
     go_wp2_with (first | ((with_reducible refine gate_store (t := 3) (p := 32) rfl ?_); refine store_event (t := 3) (p := 32) (v := ?vo_w16) (w1 := (wr.setCell ⟨go14, (a3 : Int).toNat, none⟩ (.int .i64 0))) ?hg ?ho ?hn ?hr ?_; (case ho => rfl); (case hg => rfl); (case hn => rfl); (case hr => first | (go_simp; done) | (go_simp; rfl)); intro w16 hw; have hg : wr.grownBy w16 (some go14) := (by rw [hw]; exact HP15.2); have hp_ : Kd.R (Kd.int .i64) 3 w16 w.heap.size (fun _ => True) (.slice (some ⟨go14, 0, none⟩) x9_1.length co14) y212 := (by rw [hw, Ny212.out]; exact HP15.1); clear HP15; refine sh2_ hp_ ((by rw [hw]; exact below_set (HB.out) GB14.out : Below w.heap.size w w16)) ?_; clear HO_9 HB; intro HO_9 HB; clear hg hw hp_) | ((with_reducible refine gate_dst (N := 34) rfl ?_); refine Kd.R_lit (Kd.int .i64) _ 3 ?hg (N := 34) ?hd (xs := ([a3] : List Int)) (inner := [.int .i64 a3]) (ok := fun _ => True) (okp := fun _ => True) ?hr ?hp (fun _ hk => hk) trivial (Below.refl _ _) (Nat.le_refl _) (by simp) ?_; (case hd => rfl); (case hg => rfl); (case hr => first | (go_simp; done) | (go_simp; rfl)); (case hp => exact (Reps.one (show Kd.M (Kd.int .i64) _ _ _ a3 [.int .i64 a3] from rfl) (Reps.none _ _))); intro v214 w17 ho18 hb hg_ hnew_; clear hg_ hnew_; (first | rw [← Ny213.out] at ho18 | (simp only [Int.reduceToNat] at ho18; rw [← Ny213.out] at ho18)); refine sh3_ (Kd.R_elder' (ra_ HO_9) (Kd.R_base ho18) hb) (Kd.R_lower (Kd.R_new' ho18 (Kd.R_lt (ra_ HO_9))) (below_size (bl_ HB))) (below_step (bl_ HB) hb) ?_; clear HO_9 HB hb ho18; intro HO_9 HO215 HB))
     go_loopg [11, 12] k1 (fun kq v11 v12 w' => ∃ (x9_2 : List Int) (x11_2 : List Int) (x12_2 : Int), v12 = .int .i64 x12_2 ∧ Aside0 (spec_DistancesTo.l1 kq l0 a1 a2 a3 x9_2 x11_2 x12_2 = some r) ∧ Aside0 (kq ≤ k1) ∧ Aside0 (Kd.R (Kd.int .i64) 3 w' w.heap.size (fun k_ => some k_ ≠ (v11 : Value).ownBlock) (.slice (some ⟨go14, 0, none⟩) x9_1.length co14) x9_2) ∧ Aside0 (Kd.R (Kd.int .i64) 3 w' w.heap.size (fun k_ => some k_ ≠ ((.slice (some ⟨go14, 0, none⟩) x9_1.length co14) : Value).ownBlock) v11 x11_2) ∧ Aside0 (Below w.heap.size w w'))
     case atStart => exact ⟨(y212), (y213), (0), (by first | rfl | (simp; done) | (simp [*]; done)), H', ⟨Nat.le_refl _⟩, ⟨by (with_reducible repeat (first | apply Kd.R_alloc | apply Kd.R_drewN | apply Kd.R_drew)); exact Kd.R_mono HO_9.out (fun _ hk => hk.2)⟩, ⟨by (with_reducible repeat (first | apply Kd.R_alloc | apply Kd.R_drewN | apply Kd.R_drew)); exact Kd.R_mono HO215.out (fun _ hk => hk.2)⟩, ⟨bl_ HB⟩⟩
     case round =>
      clear H'
      try clear c1
      try clear p1
      try clear q1
      try clear hx1
      try clear p2
      try clear c5
      try clear c6
      try clear p6
      try clear c9
      try clear c9b0
      try clear c10
      try clear c12
      try clear c12b0
      try clear c13
      try clear c13b0
      try clear p14
      try clear q14
      try clear hx14
      try clear hf14
      try clear hx14_0
      try clear p14
      try clear p2
      try clear q14
      obtain ⟨x9_2, x11_2, x12_2, rfl, HA, HK2, HO_9, HO_11, HB⟩ := hrel
      have hl9_2 := (Kd.R_reads' HO_9.out).1
      rw [hl9_2] at HO_9
      (try simp only [hl9_2])
      (try simp only [hl9_2] at HO_11)
      cases gk with
      | zero => exact absurd HA.out (by simp [spec_DistancesTo.l1])
      | succ k2 =>
       have H := HA.out
       clear HA
       simp only [spec_DistancesTo.l1] at H
       by_cases c19 : x12_2 < (x11_2.length : Int)
       ·rw [if_pos c19] at H
        have c19b0 := decide_eq_true c19
        clear c19
        replace H := ifn_ H
        obtain ⟨c20, H⟩ := H
        have c20b0 := decide_eq_true c20
        clear c20
        have HC21 := Aside0.mk H
        clear H
        obtain ⟨Ao22, co22, eo22⟩ := Kd.R_slice HO_11.out
        subst eo22
        have p216 : 0 ≤ (x12_2 : Int) := od_
        have q216 : x12_2 < (x11_2.length : Int) := od_
        obtain ⟨ad216, e216, hx216_0⟩ := Kd.at_int (Kd.R_reads' HO_11.out).2.2 x12_2 p216 q216
        cases e216
        replace p216 := eq_true p216
        replace q216 := eq_true q216
        go_upto_region 14 with (fail)
        go_cut [52] (fun v52 wc => ∃ (kq : Nat) (x52_20 : Bool), v52 = .bool x52_20 ∧ Aside0 (spec_DistancesTo.j2 kq l0 a1 a2 a3 x9_2 x11_2 x12_2 (rd x11_2 x12_2) x52_20 = some r) ∧ Aside0 (kq ≤ k2) ∧ Aside0 (Kd.R (Kd.int .i64) 3 wc w.heap.size (fun k_ => some k_ ≠ ((.slice (some ad216) x11_2.length co22) : Value).ownBlock) (.slice (some ⟨go14, 0, none⟩) x9_2.length co14) x9_2) ∧ Aside0 (Kd.R (Kd.int .i64) 3 wc w.heap.size (fun k_ => some k_ ≠ ((.slice (some ⟨go14, 0, none⟩) x9_2.length co14) : Value).ownBlock) (.slice (some ad216) x11_2.length co22) x11_2) ∧ Aside0 (Below w.heap.size w wc))
        case first =>
         have H := HC21.out
         clear HC21
         by_cases c23 : (rd x11_2 x12_2) = a3
         ·rw [if_pos c23] at H
          obtain ⟨c23b0, c23b1⟩ := bt_ c23
          clear c23
          (first | rw [c23b0] | (simp only [i64_w, i32_w]; rw [c23b0]) | skip)
          have H' := Aside0.mk H
          clear H
          go_wp2
          go_meet
          case rel => exact ⟨_, (false), (by first | rfl | (simp; done) | (simp [*]; done)), H', ⟨by have := HK1.out; have := HK2.out; first | omega | exact Nat.le_refl _⟩, ⟨by (try simp only [hl9_2]); (with_reducible repeat (first | apply Kd.R_alloc | apply Kd.R_drewN | apply Kd.R_drew)); exact HO_9.out⟩, ⟨by (try simp only [hl9_2]); (with_reducible repeat (first | apply Kd.R_alloc | apply Kd.R_drewN | apply Kd.R_drew)); exact HO_11.out⟩, ⟨bl_ HB⟩⟩
         ·rw [if_neg c23] at H
          obtain ⟨c23b0, c23b1⟩ := bn_ c23
          (first | rw [c23b0] | (simp only [i64_w, i32_w]; rw [c23b0]) | skip)
          have H' := Aside0.mk H
          clear H
          go_wp2
          go_meet
          case rel => exact ⟨_, (decide ((rd x11_2 x12_2) ≥ a2)), (by first | rfl | (simp; done) | (simp [*]; done)), H', ⟨by have := HK1.out; have := HK2.out; first | omega | exact Nat.le_refl _⟩, ⟨by (try simp only [hl9_2]); (with_reducible repeat (first | apply Kd.R_alloc | apply Kd.R_drewN | apply Kd.R_drew)); exact HO_9.out⟩, ⟨by (try simp only [hl9_2]); (with_reducible repeat (first | apply Kd.R_alloc | apply Kd.R_drewN | apply Kd.R_drew)); exact HO_11.out⟩, ⟨bl_ HB⟩⟩
        case rest =>
         clear HC21
         try clear c1
         try clear p1
         try clear q1
         try clear hx1
         try clear c2
         try clear p2
         try clear q2
         try clear hx2
         try clear c5
         try clear c6
         try clear p6
         try clear c9
         try clear c9b0
         try clear c10
         try clear c12
         try clear c12b0
         try clear c13
         try clear c13b0
         try clear p14
         try clear q14
         try clear hx14
         try clear hf14
         try clear c19
         try clear c19b0
         try clear c20
         try clear c20b0
         try clear p21
         try clear q21
         try clear hx21
         try clear c23
         try clear c23b0
         try clear c23b1
         try clear hx14_0
         try clear hx216_0
         try clear p1
         try clear p14
         try clear p2
         try clear p216
         try clear p6
         try clear q1
         try clear q14
         try clear q216
         obtain ⟨kq, x52_20, rfl, HA, HJ20, HO_9, HO_11, HB⟩ := hcut
         cases kq with
         | zero => exact absurd HA.out (by simp [spec_DistancesTo.j2])
         | succ kj20 =>
          have H := HA.out
          clear HA
          simp only [spec_DistancesTo.j2] at H
          by_cases c24 : x52_20 = true
          ·subst c24
           rw [if_pos rfl] at H
           have H' := Aside0.mk H
           clear H
           go_wp2
           (try simp only [← hl9_2])
           go_roundg kj20
           case measure => have := HK1.out; have := HK2.out; have := HJ20.out; omega
           case rel => exact ⟨(x9_2), (x11_2), (wrap64 (x12_2 + 1)), (by first | rfl | (simp; done) | (simp [*]; done)), H', ⟨by have := HK1.out; have := HK2.out; have := HJ20.out; omega⟩, ⟨by (try simp only [hl9_2]); (with_reducible repeat (first | apply Kd.R_alloc | apply Kd.R_drewN | apply Kd.R_drew)); exact HO_9.out⟩, ⟨by (try simp only [hl9_2]); (with_reducible repeat (first | apply Kd.R_alloc | apply Kd.R_drewN | apply Kd.R_drew)); exact HO_11.out⟩, ⟨bl_ HB⟩⟩
          ·replace c24 := Bool.eq_false_iff.mpr c24
           subst c24
           have H1 : ((spec_NeighborsIn.f kj20 l0 (rd x11_2 x12_2)).bind fun t217 => (spec_DistancesTo.l2 kj20 l0 a1 a2 a3 x9_2 x11_2 x12_2 (rd x11_2 x12_2) t217 0)) = some r := by rw [if_neg (show ¬ (false = true) by decide)] at H; exact H
           clear H
           have H := H1
           clear H1
           replace H := bs_ H
           obtain ⟨t217, A25, H⟩ := H
           have H' := Aside0.mk H
           clear H
           go_wp2_with (first | ((with_reducible refine gate_callee (f := 55) rfl ?_); refine gl_ 55 Try.func55 (spec_NeighborsIn.calls kj20 _ _ l0 (rd x11_2 x12_2) t217 _ (ck_ HR0 HB) HC0.out A25.out) ?_; rintro e w26 ⟨v218, rfl, ho0, hb⟩; refine ⟨_, rfl, sh4_ (Kd.R_elder' (ra_ HO_9) (Kd.R_base ho0) hb) (Kd.R_elder' (ra_ HO_11) (Kd.R_base ho0) hb) (Kd.R_lower (Kd.R_new' (Kd.R_new' ho0 (Kd.R_lt (ra_ HO_9))) (Kd.R_lt (ra_ HO_11))) (below_size (bl_ HB))) (below_step (bl_ HB) hb) ?_⟩; clear HO_9 HO_11 HB hb ho0; intro HO_9 HO_11 HO219 HB))
           go_loopg [11, 15] kj20 (fun kq v11 v15 w' => ∃ (x9_4 : List Int) (x11_4 : List Int) (x15_4 : Int), v15 = .int .i64 x15_4 ∧ Aside0 (spec_DistancesTo.l2 kq l0 a1 a2 a3 x9_4 x11_4 x12_2 (rd x11_2 x12_2) t217 x15_4 = some r) ∧ Aside0 (kq ≤ kj20) ∧ Aside0 (Kd.R (Kd.int .i64) 3 w' w.heap.size (fun k_ => some k_ ≠ (v11 : Value).ownBlock ∧ some k_ ≠ (v218 : Value).ownBlock) (.slice (some ⟨go14, 0, none⟩) x9_2.length co14) x9_4) ∧ Aside0 (Kd.R (Kd.int .i64) 3 w' w.heap.size (fun k_ => some k_ ≠ ((.slice (some ⟨go14, 0, none⟩) x9_2.length co14) : Value).ownBlock ∧ some k_ ≠ (v218 : Value).ownBlock) v11 x11_4) ∧ Aside0 (Kd.R (Kd.int .i64) 3 w' w.heap.size (fun k_ => some k_ ≠ ((.slice (some ⟨go14, 0, none⟩) x9_2.length co14) : Value).ownBlock ∧ some k_ ≠ (v11 : Value).ownBlock) v218 t217) ∧ Aside0 (Below w.heap.size w w'))
           case atStart => exact ⟨(x9_2), (x11_2), (0), (by first | rfl | (simp; done) | (simp [*]; done)), H', ⟨Nat.le_refl _⟩, ⟨by (try simp only [hl9_2]); (with_reducible repeat (first | apply Kd.R_alloc | apply Kd.R_drewN | apply Kd.R_drew)); exact HO_9.out⟩, ⟨by (try simp only [hl9_2]); (with_reducible repeat (first | apply Kd.R_alloc | apply Kd.R_drewN | apply Kd.R_drew)); exact HO_11.out⟩, ⟨by (try simp only [hl9_2]); (with_reducible repeat (first | apply Kd.R_alloc | apply Kd.R_drewN | apply Kd.R_drew)); exact Kd.R_mono HO219.out (fun _ hk => ⟨hk.1.2, hk.2⟩)⟩, ⟨bl_ HB⟩⟩
           case round =>
            clear H'
            try clear c1
            try clear p1
            try clear q1
            try clear hx1
            try clear c2
            try clear p2
            try clear q2
            try clear hx2
            try clear c5
            try clear c6
            try clear p6
            try clear c9
            try clear c9b0
            try clear c10
            try clear c12
            try clear c12b0
            try clear c13
            try clear c13b0
            try clear p14
            try clear q14
            try clear hx14
            try clear hf14
            try clear c19
            try clear c19b0
            try clear c20
            try clear c20b0
            try clear p21
            try clear q21
            try clear hx21
            try clear c23
            try clear c23b0
            try clear c23b1
            try clear c24
            try clear hx14_0
            try clear hx216_0
            try clear p1
            try clear p14
            try clear p2
            try clear p21
            try clear p216
            try clear p6
            try clear q1
            try clear q14
            try clear q2
            try clear q21
            try clear q216
            obtain ⟨x9_4, x11_4, x15_4, rfl, HA, HK4, HO_9, HO_11, HO_14, HB⟩ := hrel
            have hl9_4 := (Kd.R_reads' HO_9.out).1
            rw [hl9_4] at HO_9
            (try simp only [hl9_4])
            (try simp only [hl9_4] at HO_11)
            (try simp only [hl9_4] at HO_14)
            cases gk with
            | zero => exact absurd HA.out (by simp [spec_DistancesTo.l2])
            | succ k4 =>
             have H := HA.out
             clear HA
             simp only [spec_DistancesTo.l2] at H
             by_cases c27 : x15_4 < (t217.length : Int)
             ·rw [if_pos c27] at H
              have c27b0 := decide_eq_true c27
              clear c27
              replace H := ifn_ H
              obtain ⟨c28, H⟩ := H
              have c28b0 := decide_eq_true c28
              clear c28
              replace H := bs_ H
              obtain ⟨t221, A29, H⟩ := H
              by_cases c30 : t221 = true
              ·subst c30
               rw [if_pos rfl] at H
               replace H := ifn_ H
               obtain ⟨c31, H⟩ := H
               have c31b0 := decide_eq_true c31
               clear c31
               replace H := ifn_ H
               obtain ⟨c32, H⟩ := H
               have c32b0 := decide_eq_true c32
               clear c32
               by_cases c33 : (rd x9_4 (rd t217 x15_4)) < 0
               ·rw [if_pos c33] at H
                have c33b0 := decide_eq_true c33
                clear c33
                replace H := ifn_ H
                obtain ⟨c34, H⟩ := H
                have c34b0 := decide_eq_true c34
                clear c34
                replace H := ifn_ H
                obtain ⟨c35, H⟩ := H
                have c35b0 := decide_eq_true c35
                clear c35
                replace H : ∃ y_ : List Int, Aside0 (y_ = (x9_4.set ((rd t217 x15_4) : Int).toNat (wrap64 ((rd x9_4 (rd x11_2 x12_2)) + 1)))) ∧ (if x11_4.length < 17592186044416 then (spec_DistancesTo.l2 k4 l0 a1 a2 a3 y_ (x11_4 ++ [rd t217 x15_4]) x12_2 (rd x11_2 x12_2) t217 (wrap64 (x15_4 + 1))) else (none)) = some r := ⟨_, ⟨rfl⟩, yh_ H⟩
                obtain ⟨y226, Ny226, H⟩ := H
                replace H := ifn_ H
                obtain ⟨c37, H⟩ := H
                have LMc37 := Aside0.mk c37
                clear c37
                replace H : ∃ y_ : List Int, Aside0 (y_ = (x11_4 ++ [rd t217 x15_4])) ∧ (spec_DistancesTo.l2 k4 l0 a1 a2 a3 y226 y_ x12_2 (rd x11_2 x12_2) t217 (wrap64 (x15_4 + 1))) = some r := ⟨_, ⟨rfl⟩, yh_ H⟩
                obtain ⟨y228, Ny228, H⟩ := H
                have H' := Aside0.mk H
                clear H
                obtain ⟨Ao38, co38, eo38⟩ := Kd.R_slice HO_14.out
                subst eo38
                have p220 : 0 ≤ (x15_4 : Int) := od_
                have q220 : x15_4 < (t217.length : Int) := od_
                obtain ⟨ad220, e220, hx220_0⟩ := Kd.at_int (Kd.R_reads' HO_14.out).2.2 x15_4 p220 q220
                cases e220
                replace p220 := eq_true p220
                replace q220 := eq_true q220
                try go_wp2_with (first | ((with_reducible refine gate_callee (f := 110) rfl ?_); refine gl_ 68 Try.func110 (spec_l1In.calls (rd t217 x15_4) 0 (wrap64 (a1 - 1)) true _ A29.out) ?_; rintro e w' ⟨rfl, ⟨nd, rfl⟩⟩; refine ⟨_, rfl, ?_⟩; (try (rw [drewN_self wr]; generalize hq_ : World.drewN wr _ = wr; have n0_ : Aside0 (Kd.R (Kd.int .i64) 3 wr w.heap.size (fun k_ => some k_ ≠ (.slice (some ⟨go14, 0, none⟩) x9_4.length co14 : Value).ownBlock ∧ some k_ ≠ (.slice (some ad220) t217.length co38 : Value).ownBlock) u11 x11_4) := ⟨by rw [← hq_]; exact (ra_ HO_11)⟩; have n1_ : Aside0 (Kd.R (Kd.int .i64) 3 wr w.heap.size (fun k_ => some k_ ≠ (.slice (some ⟨go14, 0, none⟩) x9_4.length co14 : Value).ownBlock ∧ some k_ ≠ (u11 : Value).ownBlock) (.slice (some ad220) t217.length co38) t217) := ⟨by rw [← hq_]; exact (ra_ HO_14)⟩; have n2_ : Aside0 (Kd.R (Kd.int .i64) 3 wr w.heap.size (fun k_ => some k_ ≠ (u11 : Value).ownBlock ∧ some k_ ≠ (.slice (some ad220) t217.length co38 : Value).ownBlock) (.slice (some ⟨go14, 0, none⟩) x9_4.length co14) x9_4) := ⟨by rw [← hq_]; exact (ra_ HO_9)⟩; have n3_ : Aside0 (Below w.heap.size w wr) := ⟨by rw [← hq_]; exact (bl_ HB)⟩; clear HO_11 HO_14 HO_9 HB hq_; have HO_11 := n0_; have HO_14 := n1_; have HO_9 := n2_; have HB := n3_; clear n0_ n1_ n2_ n3_)); have p222 : 0 ≤ (x15_4 : Int) := od_; have q222 : x15_4 < (t217.length : Int) := od_; obtain ⟨ad222, e222, hx222_0⟩ := Kd.at_int (Kd.R_reads' HO_14.out).2.2 x15_4 p222 q222; obtain rfl : ad220 = ad222 := (by injection e222); replace p222 := eq_true p222; replace q222 := eq_true q222; have p223 : 0 ≤ ((rd t217 x15_4) : Int) := od_; have q223 : (rd t217 x15_4) < (x9_4.length : Int) := od_; obtain ⟨ad223, e223, hx223_0⟩ := Kd.at_int (Kd.R_reads' HO_9.out).2.2 (rd t217 x15_4) p223 q223; obtain rfl : (⟨go14, 0, none⟩ : Addr) = ad223 := (by injection e223); (first | simp only [add_plain] at hx223_0 | simp only [add_at] at hx223_0 | simp only [Addr.add, Nat.zero_add] at hx223_0 | skip); replace p223 := eq_true p223; replace q223 := eq_true q223))
                refine sh4_ (Kd.R_drew HO_9.out) (Kd.R_drew HO_11.out) (Kd.R_drew HO_14.out) (below_drew1 HB.out) ?_
                clear HO_9 HO_11 HO_14 HB
                intro HO_9 HO_11 HO_14 HB
                have p224 : 0 ≤ (x15_4 : Int) := od_
                have q224 : x15_4 < (t217.length : Int) := od_
                obtain ⟨ad224, e224, hx224_0⟩ := Kd.at_int (Kd.R_reads' HO_14.out).2.2 x15_4 p224 q224
                obtain rfl : ad220 = ad224 := (by injection e224)
                replace p224 := eq_true p224
                replace q224 := eq_true q224
                have p225 : 0 ≤ ((rd x11_2 x12_2) : Int) := od_
                have q225 : (rd x11_2 x12_2) < (x9_4.length : Int) := od_
                obtain ⟨ad225, e225, hx225_0⟩ := Kd.at_int (Kd.R_reads' HO_9.out).2.2 (rd x11_2 x12_2) p225 q225
                obtain rfl : (⟨go14, 0, none⟩ : Addr) = ad225 := (by injection e225)
                (first | simp only [add_plain] at hx225_0 | simp only [add_at] at hx225_0 | simp only [Addr.add, Nat.zero_add] at hx225_0 | skip)
                replace p225 := eq_true p225
                replace q225 := eq_true q225
                have p36 : 0 ≤ ((rd t217 x15_4) : Int) := od_
                have q36 : ((rd t217 x15_4) : Int) < ((x9_4.length : Int) : Int) := od_
                obtain ⟨hx36_0, hf36_0⟩ := Kd.R_celln 0 HO_9.out ((rd t217 x15_4) : Int) p36 q36
                replace p36 := eq_true p36
                replace q36 := eq_true q36
                have HP40 := Kd.R_putn HO_9.out ((rd t217 x15_4) : Int) (wrap64 ((rd x9_4 (rd x11_2 x12_2)) + 1))
                rw [← Ny226.out] at HP40
                have HQ40 := Aside0.mk HP40
                clear HP40
                refine start_ (n := 12) (S := fun w' => w'.cell? (ad220.add (x15_4).toNat) = some (.int .i64 (rd t217 x15_4)) ∧ w'.cell? ⟨go14, ((rd x11_2 x12_2)).toNat, none⟩ = some (.int .i64 (rd x9_4 (rd x11_2 x12_2)))) (ds := [11]) #[false, false, false, false, false, false, false, false, false, false, false, false] (by kernel_rfl) rfl rfl ⟨hx224_0, hx225_0⟩ (fun hHeld => ?_); refine with_tabW spec_DistancesTo.tab20 spec_DistancesTo.bits20 (fun HT_ HW_ => ?_)
                generalize wr.drew = w39 at HO_9 HO_11 HO_14 HB HQ40 hf36_0 hx224_0 hx225_0 hx36_0 hHeld ⊢
                refine pur_ 0 #[true, false, false, false, false, false, false, false, false, false, false, false] (some 79) HT_ ?_
                refine pur_ 1 #[true, true, false, false, false, false, false, false, false, false, false, false] (some 80) HT_ ?_
                refine pur_ 2 #[true, true, true, false, false, false, false, false, false, false, false, false] (some 81) HT_ ?_
                refine pur_ 3 #[true, true, true, true, false, false, false, false, false, false, false, false] (some 82) HT_ ?_
                refine pur_ 5 #[true, true, true, true, false, true, false, false, false, false, false, false] (some 84) HT_ ?_
                refine pur_ 6 #[true, true, true, true, false, true, true, false, false, false, false, false] (some 85) HT_ ?_
                refine pur_ 7 #[true, true, true, true, false, true, true, true, false, false, false, false] (some 86) HT_ ?_
                refine tak_ 4 #[true, true, true, true, true, true, true, true, false, false, false, false] (some 83) HT_ HW_ hHeld ?_
                refine tak_ 8 #[true, true, true, true, true, true, true, true, true, false, false, false] (some 87) HT_ HW_ hHeld ?_
                refine pur_ 9 #[true, true, true, true, true, true, true, true, true, true, false, false] (some 88) HT_ ?_
                refine pur_ 10 #[true, true, true, true, true, true, true, true, true, true, true, false] (some 89) HT_ ?_
                refine last_ (i := 11) (N := none) #[true, true, true, true, true, true, true, true, true, true, true, true] rfl rfl (one_of HT_.out (by kernel_rfl)) (by decide) (fun K hK => ?_)
                refine skip_ (w1 := ?_) (by rfl) rfl ?_ ?_
                rotate_left
                ·go_simp
                 rfl
                refine hK.out _ _ ?_
                clear hK K
                refine done_ (done_of HT_.out (by kernel_rfl)) ?_
                have p227 : 0 ≤ (x15_4 : Int) := od_
                have q227 : x15_4 < (t217.length : Int) := od_
                obtain ⟨ad227, e227, hx227_0⟩ := Kd.at_int (Kd.R_reads' HO_14.out).2.2 x15_4 p227 q227
                obtain rfl : ad220 = ad227 := (by injection e227)
                have hn227_0 : ad220.block ≠ go14 := (fun e_ => (HO_9.out.1 _ rfl).2 (by rw [← e_]; rfl))
                replace hx227_0 := (cell_far (p := ⟨go14, ((rd t217 x15_4) : Int).toNat, none⟩) (by first | (rw [add_block]; exact hn227_0) | (show (Addr.add _ _).block ≠ _; rw [add_block]; exact hn227_0) | exact hn227_0) (.int .i64 (wrap64 ((rd x9_4 (rd x11_2 x12_2)) + 1)))).trans hx227_0
                clear hn227_0
                replace p227 := eq_true p227
                replace q227 := eq_true q227
                try go_wp2_with (first | ((with_reducible refine gate_builtin (b := .append) (xs := #[.tmp 90, .tmp 95]) rfl ?_); at_builtin; refine Kd.R_append (Kd.int .i64) (w0 := w) w.heap.size rfl (.tmp 90) (.tmp 95) 24 3 (.int .i64 0) 8 rfl Try.underlying24 info3 rfl (by decide) (by omega) u11 x11_4 (rd t217 x15_4) [.int .i64 (rd t217 x15_4)] (fun k_ => some k_ ≠ (.slice (some ⟨go14, 0, none⟩) x9_4.length co14 : Value).ownBlock ∧ some k_ ≠ (.slice (some ad220) t217.length co38 : Value).ownBlock) (fun _ => False) rfl (by first | (go_simp; done) | (go_simp; rfl)) ?aP (fun _ hk => hk.elim) ?aF ?aO ?aB ?aS ?aL ?_; (case aP => exact rfl); (case aB => exact (by repeat (first | (with_reducible first | exact HB.out | apply below_alloc | apply pw_below_drewN | apply below_drew1 | refine below_set ?_ GB14.out) | exact HB.out))); (case aF => exact (fun k_ hk => ⟨Kd.fresh' (Kd.R_lt (ra_ HQ40)) k_ hk, Kd.fresh' (Kd.R_lt (by (with_reducible repeat (first | apply Kd.R_alloc | apply Kd.R_drewN | apply Kd.R_drew)); exact (Kd.R_mono (Kd.R_far (p := ⟨go14, ((rd t217 x15_4) : Int).toNat, none⟩) (Kd.R_mono HO_14.out (fun k_ hk => (⟨hk, fun e_ => hk.1 (by rw [e_]; rfl)⟩ : _ ∧ k_ ≠ go14))) (fun _ hk => hk.2) (.int .i64 (wrap64 ((rd x9_4 (rd x11_2 x12_2)) + 1)))) (fun _ h_ => h_.1)))) k_ hk⟩)); (case aO => exact (by (with_reducible repeat (first | apply Kd.R_alloc | apply Kd.R_drewN | apply Kd.R_drew)); exact Kd.R_mono (Kd.R_far (p := ⟨go14, ((rd t217 x15_4) : Int).toNat, none⟩) (Kd.R_mono HO_11.out (fun k_ hk => (⟨hk, fun e_ => hk.1 (by rw [e_]; rfl)⟩ : _ ∧ k_ ≠ go14))) (fun _ hk => hk.2) (.int .i64 (wrap64 ((rd x9_4 (rd x11_2 x12_2)) + 1)))) (fun _ hk => ⟨hk.1.1, hk.1.2⟩))); (case aS => exact (below_size (by repeat (first | (with_reducible first | exact HB.out | apply below_alloc | apply pw_below_drewN | apply below_drew1 | refine below_set ?_ GB14.out) | exact HB.out)))); (case aL => have := LMc37.out; omega); intro v229 w41 ho hb hg hat; rw [← Ny228.out] at ho; refine sh4_ (Kd.R_after (ok := (fun k_ => some k_ ≠ (.slice (some ad220) t217.length co38 : Value).ownBlock)) (by (with_reducible repeat (first | apply Kd.R_alloc | apply Kd.R_drewN | apply Kd.R_drew)); exact Kd.R_mono HQ40.out (fun _ hk => ⟨hk.2, hk.1⟩)) hg hat) (Kd.R_after (ok := (fun k_ => some k_ ≠ (.slice (some ⟨go14, 0, none⟩) x9_4.length co14 : Value).ownBlock)) (by (with_reducible repeat (first | apply Kd.R_alloc | apply Kd.R_drewN | apply Kd.R_drew)); exact Kd.R_mono (Kd.R_far (p := ⟨go14, ((rd t217 x15_4) : Int).toNat, none⟩) (Kd.R_mono HO_14.out (fun k_ hk => (⟨hk, fun e_ => hk.1 (by rw [e_]; rfl)⟩ : _ ∧ k_ ≠ go14))) (fun _ hk => hk.2) (.int .i64 (wrap64 ((rd x9_4 (rd x11_2 x12_2)) + 1)))) (fun _ hk => ⟨hk.1.1, hk.1.2⟩)) hg hat) hb ho ?_; clear HO_9 HO_14 HB HO_11 ho hb hg hat; intro HO_9 HO_14 HB HO230))
                (try simp only [← hl9_4])
                go_roundg k4
                case measure => have := HK1.out; have := HK2.out; have := HJ20.out; have := HK4.out; omega
                case rel => exact ⟨(y226), (y228), (wrap64 (x15_4 + 1)), (by first | rfl | (simp; done) | (simp [*]; done)), H', ⟨by have := HK1.out; have := HK2.out; have := HJ20.out; have := HK4.out; omega⟩, ⟨by (try simp only [hl9_2]); (try simp only [hl9_4]); (with_reducible repeat (first | apply Kd.R_alloc | apply Kd.R_drewN | apply Kd.R_drew)); exact Kd.R_mono HO_9.out (fun _ hk => ⟨hk.2, hk.1⟩)⟩, ⟨by (try simp only [hl9_2]); (try simp only [hl9_4]); (with_reducible repeat (first | apply Kd.R_alloc | apply Kd.R_drewN | apply Kd.R_drew)); exact HO230.out⟩, ⟨by (try simp only [hl9_2]); (try simp only [hl9_4]); (with_reducible repeat (first | apply Kd.R_alloc | apply Kd.R_drewN | apply Kd.R_drew)); exact HO_14.out⟩, ⟨bl_ HB⟩⟩
               ·rw [if_neg c33] at H
                have c33b0 : decide ((rd x9_4 (rd t217 x15_4)) < 0) = false := decide_eq_false c33
                clear c33
                have H' := Aside0.mk H
                clear H
                obtain ⟨Ao42, co42, eo42⟩ := Kd.R_slice HO_14.out
                subst eo42
                have p220 : 0 ≤ (x15_4 : Int) := od_
                have q220 : x15_4 < (t217.length : Int) := od_
                obtain ⟨ad220, e220, hx220_0⟩ := Kd.at_int (Kd.R_reads' HO_14.out).2.2 x15_4 p220 q220
                cases e220
                replace p220 := eq_true p220
                replace q220 := eq_true q220
                go_wp2_with (first | ((with_reducible refine gate_callee (f := 110) rfl ?_); refine gl_ 68 Try.func110 (spec_l1In.calls (rd t217 x15_4) 0 (wrap64 (a1 - 1)) true _ A29.out) ?_; rintro e w' ⟨rfl, ⟨nd, rfl⟩⟩; refine ⟨_, rfl, ?_⟩; have p222 : 0 ≤ (x15_4 : Int) := od_; have q222 : x15_4 < (t217.length : Int) := od_; obtain ⟨ad222, e222, hx222_0⟩ := Kd.at_int (Kd.R_reads' HO_14.out).2.2 x15_4 p222 q222; obtain rfl : ad220 = ad222 := (by injection e222); replace p222 := eq_true p222; replace q222 := eq_true q222; have p223 : 0 ≤ ((rd t217 x15_4) : Int) := od_; have q223 : (rd t217 x15_4) < (x9_4.length : Int) := od_; obtain ⟨ad223, e223, hx223_0⟩ := Kd.at_int (Kd.R_reads' HO_9.out).2.2 (rd t217 x15_4) p223 q223; obtain rfl : (⟨go14, 0, none⟩ : Addr) = ad223 := (by injection e223); (first | simp only [add_plain] at hx223_0 | simp only [add_at] at hx223_0 | simp only [Addr.add, Nat.zero_add] at hx223_0 | skip); replace p223 := eq_true p223; replace q223 := eq_true q223))
                (try simp only [← hl9_4])
                go_roundg k4
                case measure => have := HK1.out; have := HK2.out; have := HJ20.out; have := HK4.out; omega
                case rel => exact ⟨(x9_4), (x11_4), (wrap64 (x15_4 + 1)), (by first | rfl | (simp; done) | (simp [*]; done)), H', ⟨by have := HK1.out; have := HK2.out; have := HJ20.out; have := HK4.out; omega⟩, ⟨by (try simp only [hl9_2]); (try simp only [hl9_4]); (with_reducible repeat (first | apply Kd.R_alloc | apply Kd.R_drewN | apply Kd.R_drew)); exact HO_9.out⟩, ⟨by (try simp only [hl9_2]); (try simp only [hl9_4]); (with_reducible repeat (first | apply Kd.R_alloc | apply Kd.R_drewN | apply Kd.R_drew)); exact HO_11.out⟩, ⟨by (try simp only [hl9_2]); (try simp only [hl9_4]); (with_reducible repeat (first | apply Kd.R_alloc | apply Kd.R_drewN | apply Kd.R_drew)); exact HO_14.out⟩, ⟨bl_ HB⟩⟩
              ·replace c30 := Bool.eq_false_iff.mpr c30
               subst c30
               have H1 : (spec_DistancesTo.l2 k4 l0 a1 a2 a3 x9_4 x11_4 x12_2 (rd x11_2 x12_2) t217 (wrap64 (x15_4 + 1))) = some r := by rw [if_neg (show ¬ (false = true) by decide)] at H; exact H
               clear H
               have H := H1
               clear H1
               have H' := Aside0.mk H
               clear H
               obtain ⟨Ao43, co43, eo43⟩ := Kd.R_slice HO_14.out
               subst eo43
               have p220 : 0 ≤ (x15_4 : Int) := od_
               have q220 : x15_4 < (t217.length : Int) := od_
               obtain ⟨ad220, e220, hx220_0⟩ := Kd.at_int (Kd.R_reads' HO_14.out).2.2 x15_4 p220 q220
               cases e220
               replace p220 := eq_true p220
               replace q220 := eq_true q220
               go_wp2_with (first | ((with_reducible refine gate_callee (f := 110) rfl ?_); refine gl_ 68 Try.func110 (spec_l1In.calls (rd t217 x15_4) 0 (wrap64 (a1 - 1)) false _ A29.out) ?_; rintro e w' ⟨rfl, ⟨nd, rfl⟩⟩; refine ⟨_, rfl, ?_⟩))
               (try simp only [← hl9_4])
               go_roundg k4
               case measure => have := HK1.out; have := HK2.out; have := HJ20.out; have := HK4.out; omega
               case rel => exact ⟨(x9_4), (x11_4), (wrap64 (x15_4 + 1)), (by first | rfl | (simp; done) | (simp [*]; done)), H', ⟨by have := HK1.out; have := HK2.out; have := HJ20.out; have := HK4.out; omega⟩, ⟨by (try simp only [hl9_2]); (try simp only [hl9_4]); (with_reducible repeat (first | apply Kd.R_alloc | apply Kd.R_drewN | apply Kd.R_drew)); exact HO_9.out⟩, ⟨by (try simp only [hl9_2]); (try simp only [hl9_4]); (with_reducible repeat (first | apply Kd.R_alloc | apply Kd.R_drewN | apply Kd.R_drew)); exact HO_11.out⟩, ⟨by (try simp only [hl9_2]); (try simp only [hl9_4]); (with_reducible repeat (first | apply Kd.R_alloc | apply Kd.R_drewN | apply Kd.R_drew)); exact HO_14.out⟩, ⟨bl_ HB⟩⟩
             ·rw [if_neg c27] at H
              have c27b0 : decide (x15_4 < (t217.length : Int)) = false := decide_eq_false c27
              clear c27
              have H' := Aside0.mk H
              clear H
              obtain ⟨Ao44, co44, eo44⟩ := Kd.R_slice HO_14.out
              subst eo44
              go_wp2
              (try simp only [← hl9_2, ← hl9_4])
              go_roundg k4
              case measure => have := HK1.out; have := HK2.out; have := HJ20.out; have := HK4.out; omega
              case rel => exact ⟨(x9_4), (x11_4), (wrap64 (x12_2 + 1)), (by first | rfl | (simp; done) | (simp [*]; done)), H', ⟨by have := HK1.out; have := HK2.out; have := HJ20.out; have := HK4.out; omega⟩, ⟨by (try simp only [hl9_2]); (try simp only [hl9_4]); (with_reducible repeat (first | apply Kd.R_alloc | apply Kd.R_drewN | apply Kd.R_drew)); exact Kd.R_mono HO_9.out (fun _ hk => hk.1)⟩, ⟨by (try simp only [hl9_2]); (try simp only [hl9_4]); (with_reducible repeat (first | apply Kd.R_alloc | apply Kd.R_drewN | apply Kd.R_drew)); exact Kd.R_mono HO_11.out (fun _ hk => hk.1)⟩, ⟨bl_ HB⟩⟩
       ·rw [if_neg c19] at H
        have c19b0 : decide (x12_2 < (x11_2.length : Int)) = false := decide_eq_false c19
        clear c19
        obtain rfl := Option.some.inj H
        obtain ⟨Ao45, co45, eo45⟩ := Kd.R_slice HO_11.out
        subst eo45
        go_wp2
        go_ret
        exact ⟨_, er_, by (with_reducible repeat (first | apply Kd.R_alloc | apply Kd.R_drewN | apply Kd.R_drew)); exact Kd.R_mono HO_9.out (fun _ hk => trivial), bl_ HB⟩
 ·replace c6 := Bool.eq_false_iff.mpr c6
  subst c6
  have H1 : (some (([] : List Int))) = some r := by rw [if_neg (show ¬ (false = true) by decide)] at H; exact H
  clear H
  have H := H1
  clear H1
  replace H : ∃ y_ : List Int, Aside0 (y_ = (([] : List Int))) ∧ (some y_) = some r := ⟨_, ⟨rfl⟩, yh_ H⟩
  obtain ⟨y203, Ny203, H⟩ := H
  obtain rfl := Option.some.inj H
  go_enter Try.func58, Try.ntmps58
  go_wp2_with (first | ((with_reducible refine gate_callee (f := 109) rfl ?_); refine gl_ 18 Try.func109 (spec_l14Ok.calls a1 a3 false _ A5.out) ?_; rintro e w' ⟨rfl, ⟨nd, rfl⟩⟩; refine ⟨_, rfl, ?_⟩) | ((with_reducible refine gate_dst (N := 20) rfl ?_); refine Kd.R_lit (Kd.int .i64) _ 3 ?hg (N := 20) ?hd (xs := ([] : List Int)) (inner := []) (ok := fun _ => True) (okp := fun _ => True) ?hr ?hp (fun _ hk => hk) trivial (Below.refl _ _) (Nat.le_refl _) (by simp) ?_; (case hd => rfl); (case hg => rfl); (case hr => first | (go_simp; done) | (go_simp; rfl)); (case hp => exact (Reps.none _ _)); intro v204 w46 ho47 hb hg_ hnew_; clear hg_ hnew_; (first | rw [← Ny203.out] at ho47 | (simp only [Int.reduceToNat] at ho47; rw [← Ny203.out] at ho47)); refine sh2_ (Kd.R_lower ho47 (below_size (bl_ HB))) (below_step (bl_ HB) hb) ?_; clear HB hb ho47; intro HO205 HB))
  go_ret
  exact ⟨_, er_, ra_ HO205, bl_ HB⟩

/-! ### sc108: slices.Sort, then slices.Compact, by the kit's contracts -/
def sc108.f (l : List Int) : Option (List Int) := if l.length < 4611686018427387904 then some (Go.Lib.compact (l.mergeSort fun x y => decide (x ≤ y))) else none
open Go.Shelf in
def sortL107_ren : Go.Shelf.Ren := ⟨fun | 5 => 107 | 8 => 126 | 7 => 125 | 19 => 142 | 20 => 143 | 10 => 133 | 11 => 134 | 12 => 135 | 13 => 136 | 14 => 137 | 15 => 138 | 16 => 139 | 17 => 140 | 18 => 141 | 30 => 146 | 31 => 147 | 32 => 148 | 33 => 149 | 34 => 150 | 35 => 121 | 40 => 151 | n => n, fun | 23 => 24 | 25 => 3 | 3 => 3 | 32 => 131 | 22 => 24 | 0 => 0 | 44 => 147 | 46 => 149 | 4 => 4 | 36 => 140 | 35 => 139 | 41 => 144 | 5 => 5 | 9 => 9 | 53 => 151 | 57 => 155 | 63 => 157 | 64 => 158 | n => n, fun | n => n⟩
theorem sortL107 : Go.Proofs.SlLaysM.n5 Try.prog sortL107_ren := {
 mixed := by kernel_rfl
 f5 := ⟨Try.f107.name, by decide, Try.func107.trans (congrArg some (by kernel_rfl))⟩
 f7 := ⟨Try.f125.name, by decide, Try.func125.trans (congrArg some (by kernel_rfl))⟩
 f8 := Try.func126.trans (congrArg some (by kernel_rfl))
 f10 := ⟨Try.f133.name, by decide, Try.func133.trans (congrArg some (by kernel_rfl))⟩
 f11 := ⟨Try.f134.name, by decide, Try.func134.trans (congrArg some (by kernel_rfl))⟩
 f12 := ⟨Try.f135.name, by decide, Try.func135.trans (congrArg some (by kernel_rfl))⟩
 f13 := ⟨Try.f136.name, by decide, Try.func136.trans (congrArg some (by kernel_rfl))⟩
 f14 := ⟨Try.f137.name, by decide, Try.func137.trans (congrArg some (by kernel_rfl))⟩
 f15 := ⟨Try.f138.name, by decide, Try.func138.trans (congrArg some (by kernel_rfl))⟩
 f16 := ⟨Try.f139.name, by decide, Try.func139.trans (congrArg some (by kernel_rfl))⟩
 f17 := ⟨Try.f140.name, by decide, Try.func140.trans (congrArg some (by kernel_rfl))⟩
 f18 := ⟨Try.f141.name, by decide, Try.func141.trans (congrArg some (by kernel_rfl))⟩
 f19 := Try.func142.trans (congrArg some (by kernel_rfl))
 f20 := Try.func143.trans (congrArg some (by kernel_rfl))
 f30 := ⟨Try.f146.name, by decide, Try.func146.trans (congrArg some (by kernel_rfl))⟩
 f31 := Try.func147.trans (congrArg some (by kernel_rfl))
 f32 := Try.func148.trans (congrArg some (by kernel_rfl))
 f33 := ⟨Try.f149.name, by decide, Try.func149.trans (congrArg some (by kernel_rfl))⟩
 f34 := ⟨Try.f150.name, by decide, Try.func150.trans (congrArg some (by kernel_rfl))⟩
 f35 := ⟨Try.f121.name, by decide, Try.func121.trans (congrArg some (by kernel_rfl))⟩
 f40 := ⟨Try.f151.name, by decide, Try.func151.trans (congrArg some (by kernel_rfl))⟩
 t0 := Try.underlying0
 a0 := Try.isAgg0
 z0 := Try.sizeOf0
 v0 := Try.zeroValue0
 t3 := Try.underlying3
 a3 := Try.isAgg3
 z3 := Try.sizeOf3
 v3 := Try.zeroValue3
 t4 := Try.underlying4
 a4 := Try.isAgg4
 z4 := Try.sizeOf4
 v4 := Try.zeroValue4
 t5 := Try.underlying5
 a5 := Try.isAgg5
 z5 := Try.sizeOf5
 v5 := Try.zeroValue5
 t9 := Try.underlying9
 a9 := Try.isAgg9
 z9 := Try.sizeOf9
 v9 := Try.zeroValue9
 t22 := Try.underlying24
 a22 := Try.isAgg24
 z22 := Try.sizeOf24
 v22 := Try.zeroValue24
 t23 := Try.underlying24
 a23 := Try.isAgg24
 z23 := Try.sizeOf24
 v23 := Try.zeroValue24
 t25 := Try.underlying3
 a25 := Try.isAgg3
 z25 := Try.sizeOf3
 v25 := Try.zeroValue3
 t32 := Try.underlying131
 a32 := Try.isAgg131
 z32 := Try.sizeOf131
 v32 := Try.zeroValue131
 t35 := Try.underlying139
 a35 := Try.isAgg139
 z35 := Try.sizeOf139
 v35 := Try.zeroValue139
 t36 := Try.underlying140
 a36 := Try.isAgg140
 z36 := Try.sizeOf140
 v36 := Try.zeroValue140
 t41 := Try.underlying144
 a41 := Try.isAgg144
 z41 := Try.sizeOf144
 v41 := Try.zeroValue144
 t44 := Try.underlying147
 a44 := Try.isAgg147
 z44 := Try.sizeOf147
 v44 := Try.zeroValue147
 t46 := Try.underlying149
 a46 := Try.isAgg149
 z46 := Try.sizeOf149
 v46 := Try.zeroValue149
 t53 := Try.underlying151
 a53 := Try.isAgg151
 z53 := Try.sizeOf151
 v53 := Try.zeroValue151
 t57 := Try.underlying155
 a57 := Try.isAgg155
 z57 := Try.sizeOf155
 v57 := Try.zeroValue155
 t63 := Try.underlying157
 a63 := Try.isAgg157
 z63 := Try.sizeOf157
 v63 := Try.zeroValue157
 t64 := Try.underlying158
 a64 := Try.isAgg158
 z64 := Try.sizeOf158
 v64 := Try.zeroValue158 }
open Go.Shelf in
def compL108_ren : Go.Shelf.Ren := ⟨fun | 43 => 108 | n => n, fun | 22 => 24 | 23 => 3 | 3 => 3 | 4 => 4 | 0 => 0 | n => n, fun | n => n⟩
theorem compL108 : Go.Proofs.SlLaysN.n43 Try.prog compL108_ren := {
 mixed := by kernel_rfl
 f43 := ⟨Try.f108.name, by decide, Try.func108.trans (congrArg some (by kernel_rfl))⟩
 t0 := Try.underlying0
 a0 := Try.isAgg0
 z0 := Try.sizeOf0
 v0 := Try.zeroValue0
 t3 := Try.underlying3
 a3 := Try.isAgg3
 z3 := Try.sizeOf3
 v3 := Try.zeroValue3
 t4 := Try.underlying4
 a4 := Try.isAgg4
 z4 := Try.sizeOf4
 v4 := Try.zeroValue4
 t22 := Try.underlying24
 a22 := Try.isAgg24
 z22 := Try.sizeOf24
 v22 := Try.zeroValue24
 t23 := Try.underlying3
 a23 := Try.isAgg3
 z23 := Try.sizeOf3
 v23 := Try.zeroValue3
 i23 := by kernel_rfl }
theorem putOwn_ {w : World} {base g cap n : Nat} {e : TypeId} {xs : List Int} (h : w.ownsRow base e 1 (.slice (some ⟨g, 0, none⟩) n cap) n (encs (Value.int .i64) xs)) (ys : List Int) (hy : ys.length = n) (m : Nat) (hm : m ≤ n) (q : Nat) (os : Array Obj) :
  (Go.Sort.grow (Go.Sort.putRow (Value.int .i64) (Go.Sort.ahead w q) g 0 ys.toArray) os).ownsRow base e 1 (.slice (some ⟨g, 0, none⟩) m cap) m (encs (Value.int .i64) (ys.take m)) ∧ w.grownBy (Go.Sort.grow (Go.Sort.putRow (Value.int .i64) (Go.Sort.ahead w q) g 0 ys.toArray) os) (some g) := by
 obtain ⟨_, h2⟩ := h
 rcases h2 with ⟨h2, _⟩ | ⟨g', cap', cur, hv, hg, hh, hn, hc, hs, ht⟩
 ·cases h2
 injection hv with hv1 _ hv2
 injection hv1 with hv1
 injection hv1 with hv1
 subst hv1 hv2
 have hlt : g < w.heap.size := (Array.getElem?_eq_some_iff.1 hh).1
 have hw : (Go.Sort.grow (Go.Sort.putRow (Value.int .i64) (Go.Sort.ahead w q) g 0 ys.toArray) os).heap = w.heap.modify g (Go.Sort.onCells (Go.Sort.putCells (Value.int .i64) 0 ys.toArray)) ++ os := rfl
 have hg2 : (Go.Sort.grow (Go.Sort.putRow (Value.int .i64) (Go.Sort.ahead w q) g 0 ys.toArray) os).heap[g]? = some (.cells (Go.Sort.putCells (Value.int .i64) 0 ys.toArray cur) e (0, 0)) := by
  rw [hw, Array.getElem?_append_left (by simpa using hlt), Array.getElem?_modify, if_pos rfl, hh]
  rfl
 refine ⟨⟨by simp [encs]; omega, .inr ⟨g, cap, _, rfl, hg, hg2, by omega, hc, ?_, ?_⟩⟩, ⟨rfl, rfl, rfl, ?_, ?_⟩⟩
 ·simp only [Go.Sort.putCells, Array.size_mapIdx]
  exact hs
 ·apply List.ext_getElem?
  intro j
  rw [List.getElem?_take]
  by_cases hj : j < m * 1
  ·have hjn : j < n := by omega
   have hjc : j < cur.size := by omega
   rw [if_pos hj]
   simp only [Go.Sort.putCells, Array.getElem?_toList, Array.getElem?_mapIdx, Array.getElem?_eq_getElem hjc, Option.map_some, encs, List.getElem?_map]
   rw [List.getElem?_take, if_pos (show j < m by omega), List.getElem?_eq_getElem (show j < ys.length by omega), Option.map_some]
   split
   ·congr 2
    simp only [Nat.sub_zero]
    rw [getElem!_pos _ j (by simpa using (show j < ys.length by omega))]
    simp
   ·exact absurd (show j < 0 + ys.toArray.size by simp; omega) (by omega)
  ·rw [if_neg hj]
   simp only [encs, List.getElem?_map]
   rw [List.getElem?_eq_none (by simp; omega)]
   rfl
 ·rw [hw]
  simp
 ·intro k hk hne
  rw [hw, Array.getElem?_append_left (by simpa using hk), Array.getElem?_modify, if_neg (fun e_ => hne (by rw [e_]))]
theorem holds_ {w : World} {base g cap n : Nat} {e : TypeId} {xs : List Int} (h : w.ownsRow base e 1 (.slice (some ⟨g, 0, none⟩) n cap) n (encs (Value.int .i64) xs)) : Go.Sort.Holds (Value.int .i64) w g 0 xs.toArray ∧ xs.length = n ∧ g < w.heap.size ∧ n ≤ cap ∧ cap ≤ maxLen ∧ base ≤ g := by
 have hx : xs.length = n := by simpa [encs] using h.1
 obtain ⟨_, h2⟩ := h
 rcases h2 with ⟨h2, _⟩ | ⟨g', cap', cur, hv, hg, hh, hn, hc, hs, ht⟩
 ·cases h2
 injection hv with hv1 _ hv2
 injection hv1 with hv1
 injection hv1 with hv1
 subst hv1 hv2
 refine ⟨fun j hj => ?_, hx, (Array.getElem?_eq_some_iff.1 hh).1, hn, hc, hg⟩
 have hj' : j < xs.length := by simpa using hj
 have hc2 := congrArg (fun l => l[j]?) ht
 simp only [List.getElem?_take, encs, List.getElem?_map] at hc2
 rw [if_pos (by omega), List.getElem?_eq_getElem hj', Option.map_some] at hc2
 rw [Nat.zero_add]
 refine ⟨?_, blk_frozen hh j⟩
 rw [blk_cell hh j]
 rw [Array.getElem?_toList] at hc2
 rw [hc2, getElem!_pos _ j hj]
 simp
theorem sortR_ {w : World} {base : Nat} {e : TypeId} {ok : Nat → Prop} {v : Value} {xs : List Int} (h : (Kd.int .i64).R e w base ok v xs) (hl : xs.length < 4611686018427387904) :
  Calls Try.prog 107 #[v] w fun en w' => en = .returned (.tuple #[]) ∧ (Kd.int .i64).R e w' base ok v (xs.mergeSort fun x y => decide (x ≤ y)) ∧ w.grownBy w' v.ownBlock := by
 have ho := Kd.own_of_R h
 by_cases h0 : xs.length = 0
 ·obtain ⟨A, c, rfl⟩ := own_slice ho
  have hx : xs = [] := List.length_eq_zero_iff.1 h0
  subst hx
  refine (AnyM.slices_Sort_int_none sortL107 A c w).mono ?_
  rintro en w' ⟨rfl, rfl⟩
  exact ⟨rfl, by simpa using h, ⟨rfl, rfl, rfl, Nat.le_refl _, fun _ _ _ => rfl⟩⟩
 ·have ho' := ho
  rcases ho.2 with ⟨_, h2⟩ | ⟨g, cap, cur, rfl, _⟩
  ·exact absurd h2 h0
  obtain ⟨hH, _, hlt, hn, hc, hg⟩ := holds_ ho
  refine (AnyM.slices_Sort_int sortL107 g 0 cap xs w hH hlt hl).mono ?_
  rintro en w' ⟨rfl, n, os, rfl⟩
  obtain ⟨p1, p2⟩ := putOwn_ ho (xs.mergeSort fun x y => decide (x ≤ y)) (List.length_mergeSort _) xs.length (Nat.le_refl _) n os
  refine ⟨rfl, Kd.R_of_own ?_ h.1, p2⟩
  rw [List.take_of_length_le (by rw [List.length_mergeSort]; exact Nat.le_refl _)] at p1
  rw [List.length_mergeSort]
  exact p1
theorem compactR_ {w : World} {base n : Nat} {e : TypeId} {ok : Nat → Prop} {A : Option Addr} {c : Nat} {xs : List Int} (h : (Kd.int .i64).R e w base ok (.slice A n c) xs) :
  Calls Try.prog 108 #[.slice A n c] w fun en w' => ∃ v, en = .returned v ∧ (Kd.int .i64).R e w' base ok v (Go.Lib.compact xs) ∧ w.grownBy w' (Value.slice A n c).ownBlock := by
 have hle : (Go.Lib.compact xs).length ≤ xs.length := by unfold Go.Lib.compact Go.Lib.compactUpTo; rw [List.length_map]; exact Nat.le_trans (List.length_filter_le _ _) (by simp)
 have ho := Kd.own_of_R h
 have hn : n = xs.length := (Kd.R_reads' h).1
 subst hn
 by_cases h0 : xs.length = 0
 ·have hx : xs = [] := List.length_eq_zero_iff.1 h0
  subst hx
  refine (AnyG.slices_Compact_int_empty compL108 A c w).mono ?_
  rintro en w' ⟨rfl, rfl⟩
  exact ⟨_, rfl, by have e_ : Go.Lib.compact ([] : List Int) = [] := List.length_eq_zero_iff.1 (by simpa using hle); rw [e_]; exact h, ⟨rfl, rfl, rfl, Nat.le_refl _, fun _ _ _ => rfl⟩⟩
 ·rcases ho.2 with ⟨_, h2⟩ | ⟨g, cap, cur, hv, _⟩
  ·exact absurd h2 h0
  obtain ⟨rfl, rfl⟩ : A = some ⟨g, 0, none⟩ ∧ c = cap := by injection hv with h1 _ h3; exact ⟨h1, h3⟩
  obtain ⟨hH, _, hlt, hn, hc, hg⟩ := holds_ ho
  refine (AnyG.slices_Compact_int compL108 g 0 c xs w hH (by unfold maxLen at hc; omega) hn).mono ?_
  rintro en w' ⟨rfl, q, rfl⟩
  obtain ⟨p1, p2⟩ := putOwn_ ho (Go.Lib.compact xs ++ List.replicate (xs.length - (Go.Lib.compact xs).length) 0) (by simp; omega) (Go.Lib.compact xs).length hle q #[]
  have e_ : ∀ w : World, Go.Sort.grow w #[] = w := fun w => by simp [Go.Sort.grow]
  rw [e_] at p1 p2
  rw [List.take_left] at p1
  exact ⟨_, rfl, Kd.R_of_own p1 (fun k hk => h.1 k hk), p2⟩

theorem sc108.out {l r : List Int} (h : sc108.f l = some r) : l.length < 4611686018427387904 ∧ r = Go.Lib.compact (l.mergeSort fun x y => decide (x ≤ y)) := by
 unfold sc108.f at h
 split at h
 ·exact ⟨by assumption, (Option.some.inj h).symm⟩
 ·cases h
theorem sortX_ {W w : World} {e : TypeId} {ok : Nat → Prop} {v : Value} {xs : List Int} (h : (Kd.int .i64).R e w W.heap.size ok v xs) (hB : Below W.heap.size W w) (hl : xs.length < 4611686018427387904) :
  Calls Try.prog 107 #[v] w fun en w' => en = .returned (.tuple #[]) ∧ (Kd.int .i64).R e w' W.heap.size ok v (xs.mergeSort fun x y => decide (x ≤ y)) ∧ Below W.heap.size W w' := by
 refine (sortR_ h hl).mono ?_
 rintro en w' ⟨h1, h2, h3⟩
 exact ⟨h1, h2, pw_below_grown hB v.ownBlock (below_size hB) h3 (Kd.R_base h)⟩
theorem compactX_ {W w : World} {n : Nat} {e : TypeId} {ok : Nat → Prop} {A : Option Addr} {c : Nat} {xs r : List Int} (h : (Kd.int .i64).R e w W.heap.size ok (.slice A n c) (xs.mergeSort fun x y => decide (x ≤ y))) (hB : Below W.heap.size W w) (hs : sc108.f xs = some r) :
  Calls Try.prog 108 #[.slice A n c] w fun en w' => ∃ v, en = .returned v ∧ (Kd.int .i64).R e w' W.heap.size ok v r ∧ Below W.heap.size W w' := by
 refine (compactR_ h).mono ?_
 rintro en w' ⟨v, h1, h2, h3⟩
 refine ⟨v, h1, ?_, pw_below_grown hB _ (below_size hB) h3 (Kd.R_base h)⟩
 rw [(sc108.out hs).2]
 exact h2

/-! ### impl_NeighborsIn: function 57 -/
def impl_NeighborsIn.l0 : Nat → Int → List Int → List (S103) → Int → Int → Option (List Int)
 | 0, _, _, _, _, _ => none
 | k + 1, x1, x5, x9, x10, x11 => if x11 < x10 then (if 0 ≤ x11 then (if x11 < (x9.length : Int) then (if ((rd_T103 x9 x11).f0) = x1 then (if x5.length < 17592186044416 then ((some (x5 ++ [(rd_T103 x9 x11).f1] : List Int)).bind fun y239 => (if ((rd_T103 x9 x11).f1) = x1 then (if y239.length < 17592186044416 then (impl_NeighborsIn.l0 k x1 (y239 ++ [(rd_T103 x9 x11).f0]) x9 x10 (wrap64 (x11 + 1))) else (none)) else (impl_NeighborsIn.l0 k x1 y239 x9 x10 (wrap64 (x11 + 1))))) else (none)) else (if ((rd_T103 x9 x11).f1) = x1 then (if x5.length < 17592186044416 then (impl_NeighborsIn.l0 k x1 (x5 ++ [(rd_T103 x9 x11).f0]) x9 x10 (wrap64 (x11 + 1))) else (none)) else (impl_NeighborsIn.l0 k x1 x5 x9 x10 (wrap64 (x11 + 1))))) else (none)) else (none)) else ((sc108.f x5).bind fun t234 => (some t234))
def impl_NeighborsIn.f (k : Nat) (l0 : List (S103)) (a1 : Int) : Option (List Int) := impl_NeighborsIn.l0 k a1 (([] : List Int)) l0 (l0.length : Int) 0
theorem impl_NeighborsIn.mono_l : ∀ k, (∀ y0 y1 y2 y3 y4, LeO (impl_NeighborsIn.l0 k y0 y1 y2 y3 y4) (impl_NeighborsIn.l0 (k + 1) y0 y1 y2 y3 y4))
 | 0 => fun _ _ _ _ _ r h => by simp [impl_NeighborsIn.l0] at h
 | k + 1 => by
  have ih0 := impl_NeighborsIn.mono_l k
  ·intro y0 y1 y2 y3 y4
   unfold impl_NeighborsIn.l0
   repeat' first | (with_reducible first | exact ih0 _ _ _ _ _ | exact LeO.refl _ | exact LeO.none _ | refine LeO.ite ?_ ?_ | refine LeO.bind ?_ (fun _ => ?_)) | exact LeO.none _ | refine LeO.ite ?_ ?_ | refine LeO.bind ?_ (fun _ => ?_)
theorem impl_NeighborsIn.mono : ∀ a0 a1 k, LeO (impl_NeighborsIn.f k a0 a1) (impl_NeighborsIn.f (k + 1) a0 a1) := by
 intro a0 a1 k
 have ih0 := impl_NeighborsIn.mono_l k
 unfold impl_NeighborsIn.f
 repeat' first | (with_reducible first | exact ih0 _ _ _ _ _ | exact LeO.refl _ | exact LeO.none _ | refine LeO.ite ?_ ?_ | refine LeO.bind ?_ (fun _ => ?_)) | exact LeO.none _ | refine LeO.ite ?_ ?_ | refine LeO.bind ?_ (fun _ => ?_)
set_option maxHeartbeats 8000000 in
set_option maxRecDepth 100000 in
theorem impl_NeighborsIn.calls (k : Nat) (A0 : Option Addr) (c0 : Nat) (l0 : List (S103)) (a1 : Int) (r : List Int) (w : World) (hr0 : Kd.C k103 w A0 l0.length l0) (hc0 : l0.length ≤ c0) (h : impl_NeighborsIn.f k l0 a1 = some r) :
  Calls Try.prog 57 #[.slice A0 l0.length c0, .int .i64 a1] w fun e w' => ∃ v0_ : Value, e = .returned (v0_) ∧ Kd.R (Kd.int .i64) 3 w' w.heap.size (fun _ => True) v0_ r ∧ Below w.heap.size w w' := by
 have hu103 := Try.underlying103
 have HR0 := Aside0.mk hr0
 have HC0 := Aside0.mk hc0
 clear hr0 hc0
 have HB := Aside0.mk (Below.refl w.heap.size w)
 have H := h
 clear h
 unfold impl_NeighborsIn.f at H
 replace H : ∃ y_ : List Int, Aside0 (y_ = (([] : List Int))) ∧ (impl_NeighborsIn.l0 k a1 y_ l0 (l0.length : Int) 0) = some r := ⟨_, ⟨rfl⟩, yh_ H⟩
 obtain ⟨y231, Ny231, H⟩ := H
 have H' := Aside0.mk H
 clear H
 go_enter Try.func57, Try.ntmps57
 go_wp2_with (first | ((with_reducible refine gate_dst (N := 8) rfl ?_); refine Kd.R_lit (Kd.int .i64) _ 3 ?hg (N := 8) ?hd (xs := ([] : List Int)) (inner := []) (ok := fun _ => True) (okp := fun _ => True) ?hr ?hp (fun _ hk => hk) trivial (Below.refl _ _) (Nat.le_refl _) (by simp) ?_; (case hd => rfl); (case hg => rfl); (case hr => first | (go_simp; done) | (go_simp; rfl)); (case hp => exact (Reps.none _ _)); intro v232 w3 ho4 hb hg_ hnew_; clear hg_ hnew_; (first | rw [← Ny231.out] at ho4 | (simp only [Int.reduceToNat] at ho4; rw [← Ny231.out] at ho4)); refine sh2_ (Kd.R_lower ho4 (below_size (bl_ HB))) (below_step (bl_ HB) hb) ?_; clear HB hb ho4; intro HO233 HB))
 go_loopg [5, 11] k (fun kq v5 v11 w' => ∃ (x5_1 : List Int) (x11_1 : Int), v11 = .int .i64 x11_1 ∧ Aside0 (impl_NeighborsIn.l0 kq a1 x5_1 l0 (l0.length : Int) x11_1 = some r) ∧ Aside0 (kq ≤ k) ∧ Aside0 (Kd.R (Kd.int .i64) 3 w' w.heap.size (fun _ => True) v5 x5_1) ∧ Aside0 (Below w.heap.size w w'))
 case atStart => exact ⟨(y231), (0), (by first | rfl | (simp; done) | (simp [*]; done)), H', ⟨Nat.le_refl _⟩, ⟨ra_ HO233⟩, ⟨bl_ HB⟩⟩
 case round =>
  clear H'
  try clear p2
  obtain ⟨x5_1, x11_1, rfl, HA, HK1, HO_5, HB⟩ := hrel
  cases gk with
  | zero => exact absurd HA.out (by simp [impl_NeighborsIn.l0])
  | succ k1 =>
   have H := HA.out
   clear HA
   simp only [impl_NeighborsIn.l0] at H
   by_cases c5 : x11_1 < (l0.length : Int)
   ·rw [if_pos c5] at H
    have c5b0 := decide_eq_true c5
    clear c5
    replace H := ifn_ H
    obtain ⟨c6, H⟩ := H
    have c6b0 := decide_eq_true c6
    clear c6
    replace H := ifn_ H
    obtain ⟨c7, H⟩ := H
    have c7b0 := decide_eq_true c7
    clear c7
    by_cases c8 : ((rd_T103 l0 x11_1).f0) = a1
    ·rw [if_pos c8] at H
     obtain ⟨c8b0, c8b1⟩ := bt_ c8
     clear c8
     replace H := ifn_ H
     obtain ⟨c9, H⟩ := H
     have LMc9 := Aside0.mk c9
     clear c9
     replace H : ∃ y_ : List Int, Aside0 (y_ = (x5_1 ++ [(rd_T103 l0 x11_1).f1])) ∧ (if ((rd_T103 l0 x11_1).f1) = a1 then (if y_.length < 17592186044416 then (impl_NeighborsIn.l0 k1 a1 (y_ ++ [(rd_T103 l0 x11_1).f0]) l0 (l0.length : Int) (wrap64 (x11_1 + 1))) else (none)) else (impl_NeighborsIn.l0 k1 a1 y_ l0 (l0.length : Int) (wrap64 (x11_1 + 1)))) = some r := ⟨_, ⟨rfl⟩, yh_ H⟩
     obtain ⟨y239, Ny239, H⟩ := H
     by_cases c10 : ((rd_T103 l0 x11_1).f1) = a1
     ·rw [if_pos c10] at H
      obtain ⟨c10b0, c10b1⟩ := bt_ c10
      clear c10
      replace H := ifn_ H
      obtain ⟨c11, H⟩ := H
      have LMc11 := Aside0.mk c11
      clear c11
      replace H : ∃ y_ : List Int, Aside0 (y_ = (y239 ++ [(rd_T103 l0 x11_1).f0])) ∧ (impl_NeighborsIn.l0 k1 a1 y_ l0 (l0.length : Int) (wrap64 (x11_1 + 1))) = some r := ⟨_, ⟨rfl⟩, yh_ H⟩
      obtain ⟨y242, Ny242, H⟩ := H
      have H' := Aside0.mk H
      clear H
      have p237 : 0 ≤ (x11_1 : Int) := od_
      have q237 : x11_1 < (l0.length : Int) := od_
      obtain ⟨ad237, e237, hx237_0, hx237_1⟩ := at_T103 HR0.out x11_1 p237 q237
      cases e237
      replace hx237_0 := hbc_ HB hx237_0
      replace hx237_1 := hbc_ HB hx237_1
      replace p237 := eq_true p237
      replace q237 := eq_true q237
      go_wp2_with (first | ((with_reducible refine gd_ 7 ?_); refine bx_ 7 103 #[.int .i64 0, .int .i64 0] ?_; intro gb238 hg w12 hbox hb; refine sh5_ (Kd.R_below (ra_ HO_5) hb) (below_step (bl_ HB) hb) hbox (ge_ hg (bl_ HB)) (ge_ hg (bl_ HB)) ?_; clear HO_5 HB hb hbox hg; intro HO_5 HB BK238 GW238 GE238; have hcz13 := cf2_ BK238) | ((with_reducible refine gate_builtin (b := .append) (xs := #[.tmp 19, .tmp 22]) rfl ?_); at_builtin; refine Kd.R_append (Kd.int .i64) (w0 := w) w.heap.size rfl (.tmp 19) (.tmp 22) 24 3 (.int .i64 0) 8 rfl Try.underlying24 info3 rfl (by decide) (by omega) u5 x5_1 ((rd_T103 l0 x11_1).f1) [.int .i64 ((rd_T103 l0 x11_1).f1)] (fun _ => True) (fun _ => False) rfl (by first | (go_simp; done) | (go_simp; rfl)) ?aP (fun _ hk => hk.elim) ?aF ?aO ?aB ?aS ?aL ?_; (case aP => exact rfl); (case aB => exact (bl1_ HB GE238)); (case aF => exact (fun _ _ => trivial)); (case aO => exact (by (with_reducible repeat (first | apply Kd.R_alloc | apply Kd.R_drewN | apply Kd.R_drew)); exact Kd.R_mono (Kd.R_far (p := ⟨gb238, 1, none⟩) (Kd.R_far (p := ⟨gb238, 0, none⟩) (Kd.R_types HO_5.out BK238.out (by decide)) (fun _ hk => hk.2) (.int .i64 ((rd_T103 l0 x11_1).f0))) (fun _ hk => hk.2) (.int .i64 ((rd_T103 l0 x11_1).f1))) (fun _ hk => trivial))); (case aS => exact (below_size (bl1_ HB GE238))); (case aL => have := LMc9.out; omega); intro v240 w14 ho hb hg hat; rw [← Ny239.out] at ho; refine sh3_ (blk_grown (g := gb238) (o := .cells #[.int .i64 ((rd_T103 l0 x11_1).f0), .int .i64 ((rd_T103 l0 x11_1).f1)] 103 (0, 0)) (by (with_reducible repeat (first | refine blk_drewN ?_ _ | refine blk_drew ?_ | refine blk_alloc ?_ _)); refine blk_put (cs := #[.int .i64 ((rd_T103 l0 x11_1).f0), .int .i64 0]) ?_ 1 _ rfl; (with_reducible repeat (first | refine blk_drewN ?_ _ | refine blk_drew ?_ | refine blk_alloc ?_ _)); refine blk_put (cs := #[.int .i64 0, .int .i64 0]) ?_ 0 _ rfl; (with_reducible repeat (first | refine blk_drewN ?_ _ | refine blk_drew ?_ | refine blk_alloc ?_ _)); exact BK238.out) hg (Kd.R_ne HO_5.out BK238.out (by decide))) hb ho ?_; clear BK238 HB HO_5 ho hb hg hat; intro BK238 HB HO241; have hcz15 := cf2_ BK238) | ((with_reducible refine gate_builtin (b := .append) (xs := #[.tmp 28, .tmp 31]) rfl ?_); at_builtin; refine Kd.R_append (Kd.int .i64) (w0 := w) w.heap.size rfl (.tmp 28) (.tmp 31) 24 3 (.int .i64 0) 8 rfl Try.underlying24 info3 rfl (by decide) (by omega) v240 y239 ((rd_T103 l0 x11_1).f0) [.int .i64 ((rd_T103 l0 x11_1).f0)] (fun _ => True) (fun _ => False) rfl rfl ?aP (fun _ hk => hk.elim) ?aF ?aO ?aB ?aS ?aL ?_; (case aP => exact rfl); (case aB => exact (bl1_ HB GE238)); (case aF => exact (fun _ _ => trivial)); (case aO => exact (ra_ HO241)); (case aS => exact (below_size (bl1_ HB GE238))); (case aL => have := LMc11.out; omega); intro v243 w16 ho hb hg hat; rw [← Ny242.out] at ho; refine sh3_ (blk_grown (g := gb238) (o := .cells #[.int .i64 ((rd_T103 l0 x11_1).f0), .int .i64 ((rd_T103 l0 x11_1).f1)] 103 (0, 0)) (bk_ BK238) hg (Kd.R_ne HO241.out BK238.out (by decide))) hb ho ?_; clear BK238 HB HO241 ho hb hg hat; intro BK238 HB HO244))
      go_roundg k1
      case measure => have := HK1.out; omega
      case rel => exact ⟨(y242), (wrap64 (x11_1 + 1)), (by first | rfl | (simp; done) | (simp [*]; done)), H', ⟨by have := HK1.out; omega⟩, ⟨ra_ HO244⟩, ⟨bl1_ HB GE238⟩⟩
     ·rw [if_neg c10] at H
      obtain ⟨c10b0, c10b1⟩ := bn_ c10
      have H' := Aside0.mk H
      clear H
      have p237 : 0 ≤ (x11_1 : Int) := od_
      have q237 : x11_1 < (l0.length : Int) := od_
      obtain ⟨ad237, e237, hx237_0, hx237_1⟩ := at_T103 HR0.out x11_1 p237 q237
      cases e237
      replace hx237_0 := hbc_ HB hx237_0
      replace hx237_1 := hbc_ HB hx237_1
      replace p237 := eq_true p237
      replace q237 := eq_true q237
      go_wp2_with (first | ((with_reducible refine gd_ 7 ?_); refine bx_ 7 103 #[.int .i64 0, .int .i64 0] ?_; intro gb238 hg w17 hbox hb; refine sh5_ (Kd.R_below (ra_ HO_5) hb) (below_step (bl_ HB) hb) hbox (ge_ hg (bl_ HB)) (ge_ hg (bl_ HB)) ?_; clear HO_5 HB hb hbox hg; intro HO_5 HB BK238 GW238 GE238; have hcz18 := cf2_ BK238) | ((with_reducible refine gate_builtin (b := .append) (xs := #[.tmp 19, .tmp 22]) rfl ?_); at_builtin; refine Kd.R_append (Kd.int .i64) (w0 := w) w.heap.size rfl (.tmp 19) (.tmp 22) 24 3 (.int .i64 0) 8 rfl Try.underlying24 info3 rfl (by decide) (by omega) u5 x5_1 ((rd_T103 l0 x11_1).f1) [.int .i64 ((rd_T103 l0 x11_1).f1)] (fun _ => True) (fun _ => False) rfl (by first | (go_simp; done) | (go_simp; rfl)) ?aP (fun _ hk => hk.elim) ?aF ?aO ?aB ?aS ?aL ?_; (case aP => exact rfl); (case aB => exact (bl1_ HB GE238)); (case aF => exact (fun _ _ => trivial)); (case aO => exact (by (with_reducible repeat (first | apply Kd.R_alloc | apply Kd.R_drewN | apply Kd.R_drew)); exact Kd.R_mono (Kd.R_far (p := ⟨gb238, 1, none⟩) (Kd.R_far (p := ⟨gb238, 0, none⟩) (Kd.R_types HO_5.out BK238.out (by decide)) (fun _ hk => hk.2) (.int .i64 ((rd_T103 l0 x11_1).f0))) (fun _ hk => hk.2) (.int .i64 ((rd_T103 l0 x11_1).f1))) (fun _ hk => trivial))); (case aS => exact (below_size (bl1_ HB GE238))); (case aL => have := LMc9.out; omega); intro v240 w19 ho hb hg hat; rw [← Ny239.out] at ho; refine sh3_ (blk_grown (g := gb238) (o := .cells #[.int .i64 ((rd_T103 l0 x11_1).f0), .int .i64 ((rd_T103 l0 x11_1).f1)] 103 (0, 0)) (by (with_reducible repeat (first | refine blk_drewN ?_ _ | refine blk_drew ?_ | refine blk_alloc ?_ _)); refine blk_put (cs := #[.int .i64 ((rd_T103 l0 x11_1).f0), .int .i64 0]) ?_ 1 _ rfl; (with_reducible repeat (first | refine blk_drewN ?_ _ | refine blk_drew ?_ | refine blk_alloc ?_ _)); refine blk_put (cs := #[.int .i64 0, .int .i64 0]) ?_ 0 _ rfl; (with_reducible repeat (first | refine blk_drewN ?_ _ | refine blk_drew ?_ | refine blk_alloc ?_ _)); exact BK238.out) hg (Kd.R_ne HO_5.out BK238.out (by decide))) hb ho ?_; clear BK238 HB HO_5 ho hb hg hat; intro BK238 HB HO241; have hcz20 := cf2_ BK238))
      go_roundg k1
      case measure => have := HK1.out; omega
      case rel => exact ⟨(y239), (wrap64 (x11_1 + 1)), (by first | rfl | (simp; done) | (simp [*]; done)), H', ⟨by have := HK1.out; omega⟩, ⟨ra_ HO241⟩, ⟨bl1_ HB GE238⟩⟩
    ·rw [if_neg c8] at H
     obtain ⟨c8b0, c8b1⟩ := bn_ c8
     by_cases c21 : ((rd_T103 l0 x11_1).f1) = a1
     ·rw [if_pos c21] at H
      obtain ⟨c21b0, c21b1⟩ := bt_ c21
      clear c21
      replace H := ifn_ H
      obtain ⟨c22, H⟩ := H
      have LMc22 := Aside0.mk c22
      clear c22
      replace H : ∃ y_ : List Int, Aside0 (y_ = (x5_1 ++ [(rd_T103 l0 x11_1).f0])) ∧ (impl_NeighborsIn.l0 k1 a1 y_ l0 (l0.length : Int) (wrap64 (x11_1 + 1))) = some r := ⟨_, ⟨rfl⟩, yh_ H⟩
      obtain ⟨y245, Ny245, H⟩ := H
      have H' := Aside0.mk H
      clear H
      have p237 : 0 ≤ (x11_1 : Int) := od_
      have q237 : x11_1 < (l0.length : Int) := od_
      obtain ⟨ad237, e237, hx237_0, hx237_1⟩ := at_T103 HR0.out x11_1 p237 q237
      cases e237
      replace hx237_0 := hbc_ HB hx237_0
      replace hx237_1 := hbc_ HB hx237_1
      replace p237 := eq_true p237
      replace q237 := eq_true q237
      go_wp2_with (first | ((with_reducible refine gd_ 7 ?_); refine bx_ 7 103 #[.int .i64 0, .int .i64 0] ?_; intro gb238 hg w23 hbox hb; refine sh5_ (Kd.R_below (ra_ HO_5) hb) (below_step (bl_ HB) hb) hbox (ge_ hg (bl_ HB)) (ge_ hg (bl_ HB)) ?_; clear HO_5 HB hb hbox hg; intro HO_5 HB BK238 GW238 GE238; have hcz24 := cf2_ BK238) | ((with_reducible refine gate_builtin (b := .append) (xs := #[.tmp 28, .tmp 31]) rfl ?_); at_builtin; refine Kd.R_append (Kd.int .i64) (w0 := w) w.heap.size rfl (.tmp 28) (.tmp 31) 24 3 (.int .i64 0) 8 rfl Try.underlying24 info3 rfl (by decide) (by omega) u5 x5_1 ((rd_T103 l0 x11_1).f0) [.int .i64 ((rd_T103 l0 x11_1).f0)] (fun _ => True) (fun _ => False) rfl (by first | (go_simp; done) | (go_simp; rfl)) ?aP (fun _ hk => hk.elim) ?aF ?aO ?aB ?aS ?aL ?_; (case aP => exact rfl); (case aB => exact (bl1_ HB GE238)); (case aF => exact (fun _ _ => trivial)); (case aO => exact (by (with_reducible repeat (first | apply Kd.R_alloc | apply Kd.R_drewN | apply Kd.R_drew)); exact Kd.R_mono (Kd.R_far (p := ⟨gb238, 1, none⟩) (Kd.R_far (p := ⟨gb238, 0, none⟩) (Kd.R_types HO_5.out BK238.out (by decide)) (fun _ hk => hk.2) (.int .i64 ((rd_T103 l0 x11_1).f0))) (fun _ hk => hk.2) (.int .i64 ((rd_T103 l0 x11_1).f1))) (fun _ hk => trivial))); (case aS => exact (below_size (bl1_ HB GE238))); (case aL => have := LMc22.out; omega); intro v246 w25 ho hb hg hat; rw [← Ny245.out] at ho; refine sh3_ (blk_grown (g := gb238) (o := .cells #[.int .i64 ((rd_T103 l0 x11_1).f0), .int .i64 ((rd_T103 l0 x11_1).f1)] 103 (0, 0)) (by (with_reducible repeat (first | refine blk_drewN ?_ _ | refine blk_drew ?_ | refine blk_alloc ?_ _)); refine blk_put (cs := #[.int .i64 ((rd_T103 l0 x11_1).f0), .int .i64 0]) ?_ 1 _ rfl; (with_reducible repeat (first | refine blk_drewN ?_ _ | refine blk_drew ?_ | refine blk_alloc ?_ _)); refine blk_put (cs := #[.int .i64 0, .int .i64 0]) ?_ 0 _ rfl; (with_reducible repeat (first | refine blk_drewN ?_ _ | refine blk_drew ?_ | refine blk_alloc ?_ _)); exact BK238.out) hg (Kd.R_ne HO_5.out BK238.out (by decide))) hb ho ?_; clear BK238 HB HO_5 ho hb hg hat; intro BK238 HB HO247))
      go_roundg k1
      case measure => have := HK1.out; omega
      case rel => exact ⟨(y245), (wrap64 (x11_1 + 1)), (by first | rfl | (simp; done) | (simp [*]; done)), H', ⟨by have := HK1.out; omega⟩, ⟨ra_ HO247⟩, ⟨bl1_ HB GE238⟩⟩
     ·rw [if_neg c21] at H
      obtain ⟨c21b0, c21b1⟩ := bn_ c21
      have H' := Aside0.mk H
      clear H
      have p237 : 0 ≤ (x11_1 : Int) := od_
      have q237 : x11_1 < (l0.length : Int) := od_
      obtain ⟨ad237, e237, hx237_0, hx237_1⟩ := at_T103 HR0.out x11_1 p237 q237
      cases e237
      replace hx237_0 := hbc_ HB hx237_0
      replace hx237_1 := hbc_ HB hx237_1
      replace p237 := eq_true p237
      replace q237 := eq_true q237
      go_wp2_with (first | ((with_reducible refine gd_ 7 ?_); refine bx_ 7 103 #[.int .i64 0, .int .i64 0] ?_; intro gb238 hg w26 hbox hb; refine sh5_ (Kd.R_below (ra_ HO_5) hb) (below_step (bl_ HB) hb) hbox (ge_ hg (bl_ HB)) (ge_ hg (bl_ HB)) ?_; clear HO_5 HB hb hbox hg; intro HO_5 HB BK238 GW238 GE238; have hcz27 := cf2_ BK238))
      go_roundg k1
      case measure => have := HK1.out; omega
      case rel => exact ⟨(x5_1), (wrap64 (x11_1 + 1)), (by first | rfl | (simp; done) | (simp [*]; done)), H', ⟨by have := HK1.out; omega⟩, ⟨by (with_reducible repeat (first | apply Kd.R_alloc | apply Kd.R_drewN | apply Kd.R_drew)); exact Kd.R_mono (Kd.R_far (p := ⟨gb238, 1, none⟩) (Kd.R_far (p := ⟨gb238, 0, none⟩) (Kd.R_types HO_5.out BK238.out (by decide)) (fun _ hk => hk.2) (.int .i64 ((rd_T103 l0 x11_1).f0))) (fun _ hk => hk.2) (.int .i64 ((rd_T103 l0 x11_1).f1))) (fun _ hk => trivial)⟩, ⟨bl1_ HB GE238⟩⟩
   ·rw [if_neg c5] at H
    have c5b0 : decide (x11_1 < (l0.length : Int)) = false := decide_eq_false c5
    clear c5
    replace H := bs_ H
    obtain ⟨t234, A28, H⟩ := H
    obtain rfl := Option.some.inj H
    obtain ⟨Ao29, co29, eo29⟩ := Kd.R_slice HO_5.out
    subst eo29
    go_wp2_with (first | ((with_reducible refine gate_callee (f := 107) rfl ?_); refine goesL_ (some 35) rfl rfl Try.func107 (by kernel_rfl) rfl #[.slice Ao29 x5_1.length co29] rfl mp_ ?_; (with_reducible refine (sortX_ (e := 3) (W := w) (ok := fun _ => True) (v := .slice Ao29 x5_1.length co29) (xs := x5_1) ?side1 ?side2 (sc108.out A28.out).1).mono ?_); (case side1 => (with_reducible repeat (first | apply Kd.R_alloc | apply Kd.R_drewN | apply Kd.R_drew)); exact HO_5.out); (case side2 => repeat (first | (with_reducible first | exact HB.out | apply below_alloc | apply pw_below_drewN | apply below_drew1) | exact HB.out)); rintro e w930 ⟨rfl, ho0, hb⟩; refine ⟨_, rfl, ?_⟩; have n0_ := Aside0.mk ho0; have n1_ := Aside0.mk hb; clear HO_5; clear HB; have HO_5 := n0_; have HB := n1_; clear n0_ n1_ ho0 hb) | ((with_reducible refine gate_callee (f := 108) rfl ?_); refine goesL_ (some 37) rfl rfl Try.func108 (by kernel_rfl) rfl #[.slice Ao29 x5_1.length co29] rfl mp_ ?_; (with_reducible refine (compactX_ (e := 3) (W := w) (ok := fun _ => True) (xs := x5_1) ?side1 ?side2 A28.out).mono ?_); (case side1 => (with_reducible repeat (first | apply Kd.R_alloc | apply Kd.R_drewN | apply Kd.R_drew)); exact HO_5.out); (case side2 => repeat (first | (with_reducible first | exact HB.out | apply below_alloc | apply pw_below_drewN | apply below_drew1) | exact HB.out)); rintro e w30 ⟨v235, rfl, ho0, hb⟩; refine ⟨_, rfl, ?_⟩; have n0_ := Aside0.mk ho0; have n1_ := Aside0.mk hb; clear HO_5; clear HB; have HO236 := n0_; have HB := n1_; clear n0_ n1_ ho0 hb))
    go_ret
    exact ⟨_, er_, by (with_reducible repeat (first | apply Kd.R_alloc | apply Kd.R_drewN | apply Kd.R_drew)); exact Kd.R_mono HO236.out (fun _ hk => trivial), bl_ HB⟩

/-! ### impl_isIndex: function 73 -/
def impl_isIndex.f (a0 : Int) (a1 : Int) : Option (Bool) := if a0 ≥ 0 then (some (decide (a0 < a1))) else (some false)
set_option maxHeartbeats 8000000 in
set_option maxRecDepth 100000 in
theorem impl_isIndex.calls (a0 : Int) (a1 : Int) (r : Bool) (w : World) (h : impl_isIndex.f a0 a1 = some r) :
  Calls Try.prog 73 #[.int .i64 a0, .int .i64 a1] w fun e w' => e = .returned (.bool r) ∧ Drawn0 w w' := by
 have H := h
 clear h
 unfold impl_isIndex.f at H
 by_cases c3 : a0 ≥ 0
 ·rw [if_pos c3] at H
  have c3b0 : decide (0 ≤ a0) = true := decide_eq_true c3
  clear c3
  obtain rfl := Option.some.inj H
  go_enter Try.func73, Try.ntmps73
  go_wp2
  go_ret
  exact ⟨by first | rfl | (simp; done) | (simp [*]; done), by repeat (first | exact Drawn0.refl _ | apply Drawn0.step)⟩
 ·rw [if_neg c3] at H
  have c3b0 : decide (0 ≤ a0) = false := decide_eq_false c3
  clear c3
  obtain rfl := Option.some.inj H
  go_enter Try.func73, Try.ntmps73
  go_wp2
  go_ret
  exact ⟨by first | rfl | (simp; done) | (simp [*]; done), by repeat (first | exact Drawn0.refl _ | apply Drawn0.step)⟩

/-! ### impl_InRange: function 75 -/
def impl_InRange.f (a0 : Int) (a1 : Int) (a2 : Int) : Option (Bool) := if a1 ≤ a0 then (some (decide (a0 ≤ a2))) else (some false)
set_option maxHeartbeats 8000000 in
set_option maxRecDepth 100000 in
theorem impl_InRange.calls (a0 : Int) (a1 : Int) (a2 : Int) (r : Bool) (w : World) (h : impl_InRange.f a0 a1 a2 = some r) :
  Calls Try.prog 75 #[.int .i64 a0, .int .i64 a1, .int .i64 a2] w fun e w' => e = .returned (.bool r) ∧ Drawn0 w w' := by
 have H := h
 clear h
 unfold impl_InRange.f at H
 by_cases c4 : a1 ≤ a0
 ·rw [if_pos c4] at H
  have c4b0 := decide_eq_true c4
  clear c4
  obtain rfl := Option.some.inj H
  go_enter Try.func75, Try.ntmps75
  go_wp2
  go_ret
  exact ⟨by first | rfl | (simp; done) | (simp [*]; done), by repeat (first | exact Drawn0.refl _ | apply Drawn0.step)⟩
 ·rw [if_neg c4] at H
  have c4b0 := decide_eq_false c4
  clear c4
  obtain rfl := Option.some.inj H
  go_enter Try.func75, Try.ntmps75
  go_wp2
  go_ret
  exact ⟨by first | rfl | (simp; done) | (simp [*]; done), by repeat (first | exact Drawn0.refl _ | apply Drawn0.step)⟩

/-! ### impl_isNumber: function 111 -/
def impl_isNumber.f (a0 : Int) : Option (Bool) := (impl_InRange.f a0 1 12).bind fun t248 => (some t248)
set_option maxHeartbeats 8000000 in
set_option maxRecDepth 100000 in
theorem impl_isNumber.calls (a0 : Int) (r : Bool) (w : World) (h : impl_isNumber.f a0 = some r) :
  Calls Try.prog 111 #[.int .i64 a0] w fun e w' => e = .returned (.bool r) ∧ Drawn0 w w' := by
 have H := h
 clear h
 unfold impl_isNumber.f at H
 replace H := bs_ H
 obtain ⟨t248, A2, H⟩ := H
 obtain rfl := Option.some.inj H
 go_enter Try.func111, Try.ntmps111
 go_wp2_with (first | ((with_reducible refine gate_callee (f := 75) rfl ?_); refine gl_ 4 Try.func75 (impl_InRange.calls a0 1 12 t248 _ A2.out) ?_; rintro e w' ⟨rfl, ⟨nd, rfl⟩⟩; refine ⟨_, rfl, ?_⟩))
 go_ret
 exact ⟨by first | rfl | (simp; done) | (simp [*]; done), by repeat (first | exact Drawn0.refl _ | apply Drawn0.step)⟩

end Go.Proofs.Ytlljhblilicnfaa.PFnExactDistancesTo
