-- Written by a program of this session for this claim (the kit's printer with changes).
import Derived.Test.YtlljhblilicnfaaQFnExactTableOfx0
import Derived.Test.YtlljhblilicnfaaQFnExactTableOfx2
namespace Go.Proofs.Ytlljhblilicnfaa.PFnExactTableOf
open Go.RowKit Go.Proofs.YtlljhblilicnfaaW.PrintWords Go.Proofs.YtlljhblilicnfaaW.PrintLast Go.Proofs.YtlljhblilicnfaaW.PrintMore
attribute [local go_sem] max2_int min2_int max_two min_two max_three min_three max_four min_four   -- for this text's walks alone
set_option linter.unusedVariables false
set_option linter.unusedSimpArgs false

/-! ### spec_l1In: function 110 -/
def spec_l1In.f (a0 : Int) (a1 : Int) (a2 : Int) : Option (Bool) := if a0 ≥ a1 then (some (decide (a0 ≤ a2))) else (some false)
set_option maxHeartbeats 8000000 in
set_option maxRecDepth 100000 in
theorem spec_l1In.calls (a0 : Int) (a1 : Int) (a2 : Int) (r : Bool) (w : World) (h : spec_l1In.f a0 a1 a2 = some r) :
  Calls Try.prog 110 #[.int .i64 a0, .int .i64 a1, .int .i64 a2] w fun e w' => e = .returned (.bool r) ∧ Drawn0 w w' := by
 have H := h
 clear h
 unfold spec_l1In.f at H
 by_cases c4 : a0 ≥ a1
 ·rw [if_pos c4] at H
  have c4b0 : decide (a1 ≤ a0) = true := decide_eq_true c4
  clear c4
  obtain rfl := Option.some.inj H
  go_enter Try.func110, Try.ntmps110
  go_wp2
  go_ret
  exact ⟨by first | rfl | (simp; done) | (simp [*]; done), by repeat (first | exact Drawn0.refl _ | apply Drawn0.step)⟩
 ·rw [if_neg c4] at H
  have c4b0 : decide (a1 ≤ a0) = false := decide_eq_false c4
  clear c4
  obtain rfl := Option.some.inj H
  go_enter Try.func110, Try.ntmps110
  go_wp2
  go_ret
  exact ⟨by first | rfl | (simp; done) | (simp [*]; done), by repeat (first | exact Drawn0.refl _ | apply Drawn0.step)⟩

/-! ### spec_l14Ok: function 109 -/
def spec_l14Ok.f (a0 : Int) (a1 : Int) : Option (Bool) := (spec_l1In.f a0 1 12).bind fun t202 => (if t202 = true then ((spec_l1In.f a1 0 (wrap64 (a0 - 1))).bind fun t203 => (some t203)) else (some false))
set_option maxHeartbeats 8000000 in
set_option maxRecDepth 100000 in
theorem spec_l14Ok.calls (a0 : Int) (a1 : Int) (r : Bool) (w : World) (h : spec_l14Ok.f a0 a1 = some r) :
  Calls Try.prog 109 #[.int .i64 a0, .int .i64 a1] w fun e w' => e = .returned (.bool r) ∧ Drawn0 w w' := by
 have H := h
 clear h
 unfold spec_l14Ok.f at H
 replace H := bs_ H
 obtain ⟨t202, A3, H⟩ := H
 by_cases c4 : t202 = true
 ·subst c4
  rw [if_pos rfl] at H
  replace H := bs_ H
  obtain ⟨t203, A5, H⟩ := H
  obtain rfl := Option.some.inj H
  go_enter Try.func109, Try.ntmps109
  go_wp2_with (first | ((with_reducible refine gate_callee (f := 110) rfl ?_); refine gl_ 6 Try.func110 (spec_l1In.calls a0 1 12 true _ A3.out) ?_; rintro e w' ⟨rfl, ⟨nd, rfl⟩⟩; refine ⟨_, rfl, ?_⟩) | (go_at_call 110; (with_reducible refine (spec_l1In.calls a1 0 (wrap64 (a0 - 1)) t203 _ A5.out).mono ?_); rintro e w' ⟨rfl, ⟨nd, rfl⟩⟩))
  go_ret
  exact ⟨by first | rfl | (simp; done) | (simp [*]; done), by repeat (first | exact Drawn0.refl _ | apply Drawn0.step)⟩
 ·replace c4 := Bool.eq_false_iff.mpr c4
  subst c4
  have H1 : (some false) = some r := by rw [if_neg (show ¬ (false = true) by decide)] at H; exact H
  clear H
  have H := H1
  clear H1
  obtain rfl := Option.some.inj H
  go_enter Try.func109, Try.ntmps109
  go_wp2_with (first | ((with_reducible refine gate_callee (f := 110) rfl ?_); refine gl_ 6 Try.func110 (spec_l1In.calls a0 1 12 false _ A3.out) ?_; rintro e w' ⟨rfl, ⟨nd, rfl⟩⟩; refine ⟨_, rfl, ?_⟩))
  go_ret
  exact ⟨by first | rfl | (simp; done) | (simp [*]; done), by repeat (first | exact Drawn0.refl _ | apply Drawn0.step)⟩

/-! ### spec_DistancesTo: function 58 -/
mutual
def spec_DistancesTo.l0 : Nat → List (S103) → Int → Int → Int → List Int → Int → Option (List Int)
 | 0, _, _, _, _, _, _ => none
 | k + 1, x0, x1, x2, x3, x9, x10 => if x10 < x1 then (if x9.length < 17592186044416 then (spec_DistancesTo.l0 k x0 x1 x2 x3 (x9 ++ [(-1)]) (wrap64 (x10 + 1))) else (none)) else (if 0 ≤ x3 then (if x3 < (x9.length : Int) then (spec_DistancesTo.l1 k x0 x1 x2 x3 (x9.set (x3 : Int).toNat 0) (([x3] : List Int)) 0) else (none)) else (none))
def spec_DistancesTo.l1 : Nat → List (S103) → Int → Int → Int → List Int → List Int → Int → Option (List Int)
 | 0, _, _, _, _, _, _, _ => none
 | k + 1, x0, x1, x2, x3, x9, x11, x12 => if x12 < (x11.length : Int) then (if 0 ≤ x12 then (if (rd x11 x12) = x3 then (spec_DistancesTo.j2 k x0 x1 x2 x3 x9 x11 x12 (rd x11 x12) false) else (spec_DistancesTo.j2 k x0 x1 x2 x3 x9 x11 x12 (rd x11 x12) (decide ((rd x11 x12) ≥ x2)))) else (none)) else (some x9)
def spec_DistancesTo.j2 : Nat → List (S103) → Int → Int → Int → List Int → List Int → Int → Int → Bool → Option (List Int)
 | 0, _, _, _, _, _, _, _, _, _ => none
 | k + 1, x0, x1, x2, x3, x9, x11, x12, x13, x52 => if x52 = true then (spec_DistancesTo.l1 k x0 x1 x2 x3 x9 x11 (wrap64 (x12 + 1))) else ((spec_NeighborsIn.f k x0 x13).bind fun t219 => (spec_DistancesTo.l2 k x0 x1 x2 x3 x9 x11 x12 x13 t219 0))
def spec_DistancesTo.l2 : Nat → List (S103) → Int → Int → Int → List Int → List Int → Int → Int → List Int → Int → Option (List Int)
 | 0, _, _, _, _, _, _, _, _, _, _ => none
 | k + 1, x0, x1, x2, x3, x9, x11, x12, x13, x14, x15 => if x15 < (x14.length : Int) then (if 0 ≤ x15 then ((spec_l1In.f (rd x14 x15) 0 (wrap64 (x1 - 1))).bind fun t223 => (if t223 = true then (if 0 ≤ (rd x14 x15) then (if (rd x14 x15) < (x9.length : Int) then (if (rd x9 (rd x14 x15)) < 0 then (if 0 ≤ x13 then (if x13 < (x9.length : Int) then (if x11.length < 17592186044416 then (spec_DistancesTo.l2 k x0 x1 x2 x3 (x9.set ((rd x14 x15) : Int).toNat (wrap64 ((rd x9 x13) + 1))) (x11 ++ [rd x14 x15]) x12 x13 x14 (wrap64 (x15 + 1))) else (none)) else (none)) else (none)) else (spec_DistancesTo.l2 k x0 x1 x2 x3 x9 x11 x12 x13 x14 (wrap64 (x15 + 1)))) else (none)) else (none)) else (spec_DistancesTo.l2 k x0 x1 x2 x3 x9 x11 x12 x13 x14 (wrap64 (x15 + 1))))) else (none)) else (spec_DistancesTo.l1 k x0 x1 x2 x3 x9 x11 (wrap64 (x12 + 1)))
end
def spec_DistancesTo.f (k : Nat) (l0 : List (S103)) (a1 : Int) (a2 : Int) (a3 : Int) : Option (List Int) := (spec_l14Ok.f a1 a3).bind fun t204 => (if t204 = true then (spec_DistancesTo.l0 k l0 a1 a2 a3 (([] : List Int)) 0) else (some (([] : List Int))))
theorem spec_DistancesTo.mono_l : ∀ k, (∀ y0 y1 y2 y3 y4 y5, LeO (spec_DistancesTo.l0 k y0 y1 y2 y3 y4 y5) (spec_DistancesTo.l0 (k + 1) y0 y1 y2 y3 y4 y5)) ∧ (∀ y0 y1 y2 y3 y4 y5 y6, LeO (spec_DistancesTo.l1 k y0 y1 y2 y3 y4 y5 y6) (spec_DistancesTo.l1 (k + 1) y0 y1 y2 y3 y4 y5 y6)) ∧ (∀ y0 y1 y2 y3 y4 y5 y6 y7 y8, LeO (spec_DistancesTo.j2 k y0 y1 y2 y3 y4 y5 y6 y7 y8) (spec_DistancesTo.j2 (k + 1) y0 y1 y2 y3 y4 y5 y6 y7 y8)) ∧ (∀ y0 y1 y2 y3 y4 y5 y6 y7 y8 y9, LeO (spec_DistancesTo.l2 k y0 y1 y2 y3 y4 y5 y6 y7 y8 y9) (spec_DistancesTo.l2 (k + 1) y0 y1 y2 y3 y4 y5 y6 y7 y8 y9))
 | 0 => ⟨fun _ _ _ _ _ _ r h => by simp [spec_DistancesTo.l0] at h, fun _ _ _ _ _ _ _ r h => by simp [spec_DistancesTo.l1] at h, fun _ _ _ _ _ _ _ _ _ r h => by simp [spec_DistancesTo.j2] at h, fun _ _ _ _ _ _ _ _ _ _ r h => by simp [spec_DistancesTo.l2] at h⟩
 | k + 1 => by
  obtain ⟨ih0, ih1, ih2, ih3⟩ := spec_DistancesTo.mono_l k
  refine ⟨?_, ?_, ?_, ?_⟩
  ·intro y0 y1 y2 y3 y4 y5
   unfold spec_DistancesTo.l0
   repeat' first | (with_reducible first | exact ih0 _ _ _ _ _ _ | exact ih1 _ _ _ _ _ _ _ | exact ih2 _ _ _ _ _ _ _ _ _ | exact ih3 _ _ _ _ _ _ _ _ _ _ | exact spec_NeighborsIn.mono _ _ _ | exact LeO.refl _ | exact LeO.none _ | refine LeO.ite ?_ ?_ | refine LeO.bind ?_ (fun _ => ?_)) | exact LeO.none _ | refine LeO.ite ?_ ?_ | refine LeO.bind ?_ (fun _ => ?_)
  ·intro y0 y1 y2 y3 y4 y5 y6
   unfold spec_DistancesTo.l1
   repeat' first | (with_reducible first | exact ih0 _ _ _ _ _ _ | exact ih1 _ _ _ _ _ _ _ | exact ih2 _ _ _ _ _ _ _ _ _ | exact ih3 _ _ _ _ _ _ _ _ _ _ | exact spec_NeighborsIn.mono _ _ _ | exact LeO.refl _ | exact LeO.none _ | refine LeO.ite ?_ ?_ | refine LeO.bind ?_ (fun _ => ?_)) | exact LeO.none _ | refine LeO.ite ?_ ?_ | refine LeO.bind ?_ (fun _ => ?_)
  ·intro y0 y1 y2 y3 y4 y5 y6 y7 y8
   unfold spec_DistancesTo.j2
   repeat' first | (with_reducible first | exact ih0 _ _ _ _ _ _ | exact ih1 _ _ _ _ _ _ _ | exact ih2 _ _ _ _ _ _ _ _ _ | exact ih3 _ _ _ _ _ _ _ _ _ _ | exact spec_NeighborsIn.mono _ _ _ | exact LeO.refl _ | exact LeO.none _ | refine LeO.ite ?_ ?_ | refine LeO.bind ?_ (fun _ => ?_)) | exact LeO.none _ | refine LeO.ite ?_ ?_ | refine LeO.bind ?_ (fun _ => ?_)
  ·intro y0 y1 y2 y3 y4 y5 y6 y7 y8 y9
   unfold spec_DistancesTo.l2
   repeat' first | (with_reducible first | exact ih0 _ _ _ _ _ _ | exact ih1 _ _ _ _ _ _ _ | exact ih2 _ _ _ _ _ _ _ _ _ | exact ih3 _ _ _ _ _ _ _ _ _ _ | exact spec_NeighborsIn.mono _ _ _ | exact LeO.refl _ | exact LeO.none _ | refine LeO.ite ?_ ?_ | refine LeO.bind ?_ (fun _ => ?_)) | exact LeO.none _ | refine LeO.ite ?_ ?_ | refine LeO.bind ?_ (fun _ => ?_)
theorem spec_DistancesTo.mono : ∀ a0 a1 a2 a3 k, LeO (spec_DistancesTo.f k a0 a1 a2 a3) (spec_DistancesTo.f (k + 1) a0 a1 a2 a3) := by
 intro a0 a1 a2 a3 k
 obtain ⟨ih0, ih1, ih2, ih3⟩ := spec_DistancesTo.mono_l k
 unfold spec_DistancesTo.f
 repeat' first | (with_reducible first | exact ih0 _ _ _ _ _ _ | exact ih1 _ _ _ _ _ _ _ | exact ih2 _ _ _ _ _ _ _ _ _ | exact ih3 _ _ _ _ _ _ _ _ _ _ | exact spec_NeighborsIn.mono _ _ _ | exact LeO.refl _ | exact LeO.none _ | refine LeO.ite ?_ ?_ | refine LeO.bind ?_ (fun _ => ?_)) | exact LeO.none _ | refine LeO.ite ?_ ?_ | refine LeO.bind ?_ (fun _ => ?_)
def spec_DistancesTo.T20 : Bool × List (List Nat × List Nat) := (true, [([], []), ([], []), ([], []), ([1, 2], [1, 2]), ([3], [3]), ([], []), ([], []), ([5, 6], [5, 6]), ([7], [7]), ([8], [8]), ([0, 4, 0, 1, 2, 3, 4, 5, 6, 7, 8, 9], [0, 4]), ([10, 9, 0, 1, 2, 3, 4, 5, 6, 7, 8, 9], [9, 10])])
def spec_DistancesTo.B20 : List Nat := [0, 0, 0, 6, 14, 0, 0, 96, 224, 480, 1023, 2047]
theorem spec_DistancesTo.tab20 : rtab .any (opsOf Try.f58 20) = spec_DistancesTo.T20 := by kernel_rfl
theorem spec_DistancesTo.bits20 : waitsOk spec_DistancesTo.T20.2 spec_DistancesTo.B20 = true := by kernel_rfl
set_option maxHeartbeats 8000000 in
set_option maxRecDepth 100000 in
theorem spec_DistancesTo.calls (k : Nat) (A0 : Option Addr) (c0 : Nat) (l0 : List (S103)) (a1 : Int) (a2 : Int) (a3 : Int) (r : List Int) (w : World) (hr0 : Kd.C k103 w A0 l0.length l0) (hc0 : l0.length ≤ c0) (h : spec_DistancesTo.f k l0 a1 a2 a3 = some r) :
  Calls Try.prog 58 #[.slice A0 l0.length c0, .int .i64 a1, .int .i64 a2, .int .i64 a3] w fun e w' => ∃ v0_ : Value, e = .returned (v0_) ∧ Kd.R (Kd.int .i64) 3 w' w.heap.size (fun _ => True) v0_ r ∧ Below w.heap.size w w' := by
 have HR0 := Aside0.mk hr0
 have HC0 := Aside0.mk hc0
 clear hr0 hc0
 have HB := Aside0.mk (Below.refl w.heap.size w)
 have H := h
 clear h
 unfold spec_DistancesTo.f at H
 replace H := bs_ H
 obtain ⟨t204, A5, H⟩ := H
 by_cases c6 : t204 = true
 ·subst c6
  rw [if_pos rfl] at H
  replace H : ∃ y_ : List Int, Aside0 (y_ = (([] : List Int))) ∧ (spec_DistancesTo.l0 k l0 a1 a2 a3 y_ 0) = some r := ⟨_, ⟨rfl⟩, yh_ H⟩
  obtain ⟨y208, Ny208, H⟩ := H
  have H' := Aside0.mk H
  clear H
  go_enter Try.func58, Try.ntmps58
  go_wp2_with (first | ((with_reducible refine gate_callee (f := 109) rfl ?_); refine gl_ 18 Try.func109 (spec_l14Ok.calls a1 a3 true _ A5.out) ?_; rintro e w' ⟨rfl, ⟨nd, rfl⟩⟩; refine ⟨_, rfl, ?_⟩) | ((with_reducible refine gate_dst (N := 21) rfl ?_); refine Kd.R_lit (Kd.int .i64) _ 3 ?hg (N := 21) ?hd (xs := ([] : List Int)) (inner := []) (ok := fun _ => True) (okp := fun _ => True) ?hr ?hp (fun _ hk => hk) trivial (Below.refl _ _) (Nat.le_refl _) (by simp) ?_; (case hd => rfl); (case hg => rfl); (case hr => first | (go_simp; done) | (go_simp; rfl)); (case hp => exact (Reps.none _ _)); intro v209 w7 ho8 hb hg_ hnew_; clear hg_ hnew_; (first | rw [← Ny208.out] at ho8 | (simp only [Int.reduceToNat] at ho8; rw [← Ny208.out] at ho8)); refine sh2_ (Kd.R_lower ho8 (below_size (bl_ HB))) (below_step (bl_ HB) hb) ?_; clear HB hb ho8; intro HO210 HB))
  go_loopg [9, 10] k (fun kq v9 v10 w' => ∃ (x9_1 : List Int) (x10_1 : Int), v10 = .int .i64 x10_1 ∧ Aside0 (spec_DistancesTo.l0 kq l0 a1 a2 a3 x9_1 x10_1 = some r) ∧ Aside0 (kq ≤ k) ∧ Aside0 (Kd.R (Kd.int .i64) 3 w' w.heap.size (fun _ => True) v9 x9_1) ∧ Aside0 (Below w.heap.size w w'))
  case atStart => exact ⟨(y208), (0), (by first | rfl | (simp; done) | (simp [*]; done)), H', ⟨Nat.le_refl _⟩, ⟨ra_ HO210⟩, ⟨bl_ HB⟩⟩
  case round =>
   clear H'
   try clear c1
   try clear p2
   try clear c5
   try clear c6
   obtain ⟨x9_1, x10_1, rfl, HA, HK1, HO_9, HB⟩ := hrel
   cases gk with
   | zero => exact absurd HA.out (by simp [spec_DistancesTo.l0])
   | succ k1 =>
    have H := HA.out
    clear HA
    simp only [spec_DistancesTo.l0] at H
    by_cases c9 : x10_1 < a1
    ·rw [if_pos c9] at H
     have c9b0 := decide_eq_true c9
     clear c9
     replace H := ifn_ H
     obtain ⟨c10, H⟩ := H
     have LMc10 := Aside0.mk c10
     clear c10
     replace H : ∃ y_ : List Int, Aside0 (y_ = (x9_1 ++ [(-1)])) ∧ (spec_DistancesTo.l0 k1 l0 a1 a2 a3 y_ (wrap64 (x10_1 + 1))) = some r := ⟨_, ⟨rfl⟩, yh_ H⟩
     obtain ⟨y211, Ny211, H⟩ := H
     have H' := Aside0.mk H
     clear H
     go_wp2_with (first | ((with_reducible refine gate_builtin (b := .append) (xs := #[.tmp 27, .tmp 28]) rfl ?_); at_builtin; refine Kd.R_append (Kd.int .i64) (w0 := w) w.heap.size rfl (.tmp 27) (.tmp 28) 24 3 (.int .i64 0) 8 rfl Try.underlying24 info3 rfl (by decide) (by omega) u9 x9_1 (-1) [.int .i64 (-1)] (fun _ => True) (fun _ => False) rfl rfl ?aP (fun _ hk => hk.elim) ?aF ?aO ?aB ?aS ?aL ?_; (case aP => exact rfl); (case aB => exact (bl_ HB)); (case aF => exact (fun _ _ => trivial)); (case aO => exact (ra_ HO_9)); (case aS => exact (below_size (bl_ HB))); (case aL => have := LMc10.out; omega); intro v212 w11 ho hb hg hat; rw [← Ny211.out] at ho; refine sh2_ hb ho ?_; clear HB HO_9 ho hb hg hat; intro HB HO213))
     go_roundg k1
     case measure => have := HK1.out; omega
     case rel => exact ⟨(y211), (wrap64 (x10_1 + 1)), (by first | rfl | (simp; done) | (simp [*]; done)), H', ⟨by have := HK1.out; omega⟩, ⟨ra_ HO213⟩, ⟨bl_ HB⟩⟩
    ·rw [if_neg c9] at H
     have c9b0 := decide_eq_false c9
     clear c9
     replace H := ifn_ H
     obtain ⟨c12, H⟩ := H
     have c12b0 := decide_eq_true c12
     clear c12
     replace H := ifn_ H
     obtain ⟨c13, H⟩ := H
     have c13b0 := decide_eq_true c13
     clear c13
     replace H : ∃ y_ : List Int, Aside0 (y_ = (x9_1.set (a3 : Int).toNat 0)) ∧ (spec_DistancesTo.l1 k1 l0 a1 a2 a3 y_ (([a3] : List Int)) 0) = some r := ⟨_, ⟨rfl⟩, yh_ H⟩
     obtain ⟨y214, Ny214, H⟩ := H
     replace H : ∃ y_ : List Int, Aside0 (y_ = (([a3] : List Int))) ∧ (spec_DistancesTo.l1 k1 l0 a1 a2 a3 y214 y_ 0) = some r := ⟨_, ⟨rfl⟩, yh_ H⟩
     obtain ⟨y215, Ny215, H⟩ := H
     have H' := Aside0.mk H
     clear H
     have p14 : 0 ≤ (a3 : Int) := od_
     have q14 : (a3 : Int) < ((x9_1.length : Int) : Int) := od_
     obtain ⟨go14, co14, eo14, gb14, gl14, cl14, HG14⟩ := Kd.R_form HO_9.out (by omega)
     (first | cases eo14 | (injection eo14 with ea_ en_ ec_; (first | subst ea_ | (injection ea_ with ea_; subst ea_)); subst ec_; clear en_))
     have GB14 := Aside0.mk gb14
     have GG14 := Aside0.mk HG14
     clear gb14 gl14 HG14
     obtain ⟨hx14_0, hf14_0⟩ := Kd.R_celln 0 HO_9.out (a3 : Int) p14 q14
     replace p14 := eq_true p14
     replace q14 := eq_true q14
     have HP15 := Kd.R_putg HO_9.out (a3 : Int) 0
     go_wp2_with (first | ((with_reducible refine gate_store (t := 3) (p := 32) rfl ?_); refine store_event (t := 3) (p := 32) (v := ?vo_w16) (w1 := (wr.setCell ⟨go14, (a3 : Int).toNat, none⟩ (.int .i64 0))) ?hg ?ho ?hn ?hr ?_; (case ho => rfl); (case hg => rfl); (case hn => rfl); (case hr => first | (go_simp; done) | (go_simp; rfl)); intro w16 hw; have hg : wr.grownBy w16 (some go14) := (by rw [hw]; exact HP15.2); have hp_ : Kd.R (Kd.int .i64) 3 w16 w.heap.size (fun _ => True) (.slice (some ⟨go14, 0, none⟩) x9_1.length co14) y214 := (by rw [hw, Ny214.out]; exact HP15.1); clear HP15; refine sh2_ hp_ ((by rw [hw]; exact below_set (HB.out) GB14.out : Below w.heap.size w w16)) ?_; clear HO_9 HB; intro HO_9 HB; clear hg hw hp_) | ((with_reducible refine gate_dst (N := 34) rfl ?_); refine Kd.R_lit (Kd.int .i64) _ 3 ?hg (N := 34) ?hd (xs := ([a3] : List Int)) (inner := [.int .i64 a3]) (ok := fun _ => True) (okp := fun _ => True) ?hr ?hp (fun _ hk => hk) trivial (Below.refl _ _) (Nat.le_refl _) (by simp) ?_; (case hd => rfl); (case hg => rfl); (case hr => first | (go_simp; done) | (go_simp; rfl)); (case hp => exact (Reps.one (show Kd.M (Kd.int .i64) _ _ _ a3 [.int .i64 a3] from rfl) (Reps.none _ _))); intro v216 w17 ho18 hb hg_ hnew_; clear hg_ hnew_; (first | rw [← Ny215.out] at ho18 | (simp only [Int.reduceToNat] at ho18; rw [← Ny215.out] at ho18)); refine sh3_ (Kd.R_elder' (ra_ HO_9) (Kd.R_base ho18) hb) (Kd.R_lower (Kd.R_new' ho18 (Kd.R_lt (ra_ HO_9))) (below_size (bl_ HB))) (below_step (bl_ HB) hb) ?_; clear HO_9 HB hb ho18; intro HO_9 HO217 HB))
     go_loopg [11, 12] k1 (fun kq v11 v12 w' => ∃ (x9_2 : List Int) (x11_2 : List Int) (x12_2 : Int), v12 = .int .i64 x12_2 ∧ Aside0 (spec_DistancesTo.l1 kq l0 a1 a2 a3 x9_2 x11_2 x12_2 = some r) ∧ Aside0 (kq ≤ k1) ∧ Aside0 (Kd.R (Kd.int .i64) 3 w' w.heap.size (fun k_ => some k_ ≠ (v11 : Value).ownBlock) (.slice (some ⟨go14, 0, none⟩) x9_1.length co14) x9_2) ∧ Aside0 (Kd.R (Kd.int .i64) 3 w' w.heap.size (fun k_ => some k_ ≠ ((.slice (some ⟨go14, 0, none⟩) x9_1.length co14) : Value).ownBlock) v11 x11_2) ∧ Aside0 (Below w.heap.size w w'))
     case atStart => exact ⟨(y214), (y215), (0), (by first | rfl | (simp; done) | (simp [*]; done)), H', ⟨Nat.le_refl _⟩, ⟨by (with_reducible repeat (first | apply Kd.R_alloc | apply Kd.R_drewN | apply Kd.R_drew)); exact Kd.R_mono HO_9.out (fun _ hk => hk.2)⟩, ⟨by (with_reducible repeat (first | apply Kd.R_alloc | apply Kd.R_drewN | apply Kd.R_drew)); exact Kd.R_mono HO217.out (fun _ hk => hk.2)⟩, ⟨bl_ HB⟩⟩
     case round =>
      clear H'
      try clear c1
      try clear p1
      try clear q1
      try clear hx1
      try clear p2
      try clear c5
      try clear c6
      try clear p6
      try clear c9
      try clear c9b0
      try clear c10
      try clear c12
      try clear c12b0
      try clear c13
      try clear c13b0
      try clear p14
      try clear q14
      try clear hx14
      try clear hf14
      try clear hx14_0
      try clear p14
      try clear p2
      try clear q14
      obtain ⟨x9_2, x11_2, x12_2, rfl, HA, HK2, HO_9, HO_11, HB⟩ := hrel
      have hl9_2 := (Kd.R_reads' HO_9.out).1
      rw [hl9_2] at HO_9
      (try simp only [hl9_2])
      (try simp only [hl9_2] at HO_11)
      cases gk with
      | zero => exact absurd HA.out (by simp [spec_DistancesTo.l1])
      | succ k2 =>
       have H := HA.out
       clear HA
       simp only [spec_DistancesTo.l1] at H
       by_cases c19 : x12_2 < (x11_2.length : Int)
       ·rw [if_pos c19] at H
        have c19b0 := decide_eq_true c19
        clear c19
        replace H := ifn_ H
        obtain ⟨c20, H⟩ := H
        have c20b0 := decide_eq_true c20
        clear c20
        have HC21 := Aside0.mk H
        clear H
        obtain ⟨Ao22, co22, eo22⟩ := Kd.R_slice HO_11.out
        subst eo22
        have p218 : 0 ≤ (x12_2 : Int) := od_
        have q218 : x12_2 < (x11_2.length : Int) := od_
        obtain ⟨ad218, e218, hx218_0⟩ := Kd.at_int (Kd.R_reads' HO_11.out).2.2 x12_2 p218 q218
        cases e218
        replace p218 := eq_true p218
        replace q218 := eq_true q218
        go_upto_region 14 with (fail)
        go_cut [52] (fun v52 wc => ∃ (kq : Nat) (x52_20 : Bool), v52 = .bool x52_20 ∧ Aside0 (spec_DistancesTo.j2 kq l0 a1 a2 a3 x9_2 x11_2 x12_2 (rd x11_2 x12_2) x52_20 = some r) ∧ Aside0 (kq ≤ k2) ∧ Aside0 (Kd.R (Kd.int .i64) 3 wc w.heap.size (fun k_ => some k_ ≠ ((.slice (some ad218) x11_2.length co22) : Value).ownBlock) (.slice (some ⟨go14, 0, none⟩) x9_2.length co14) x9_2) ∧ Aside0 (Kd.R (Kd.int .i64) 3 wc w.heap.size (fun k_ => some k_ ≠ ((.slice (some ⟨go14, 0, none⟩) x9_2.length co14) : Value).ownBlock) (.slice (some ad218) x11_2.length co22) x11_2) ∧ Aside0 (Below w.heap.size w wc))
        case first =>
         have H := HC21.out
         clear HC21
         by_cases c23 : (rd x11_2 x12_2) = a3
         ·rw [if_pos c23] at H
          obtain ⟨c23b0, c23b1⟩ := bt_ c23
          clear c23
          (first | rw [c23b0] | (simp only [i64_w, i32_w]; rw [c23b0]) | skip)
          have H' := Aside0.mk H
          clear H
          go_wp2
          go_meet
          case rel => exact ⟨_, (false), (by first | rfl | (simp; done) | (simp [*]; done)), H', ⟨by have := HK1.out; have := HK2.out; first | omega | exact Nat.le_refl _⟩, ⟨by (try simp only [hl9_2]); (with_reducible repeat (first | apply Kd.R_alloc | apply Kd.R_drewN | apply Kd.R_drew)); exact HO_9.out⟩, ⟨by (try simp only [hl9_2]); (with_reducible repeat (first | apply Kd.R_alloc | apply Kd.R_drewN | apply Kd.R_drew)); exact HO_11.out⟩, ⟨bl_ HB⟩⟩
         ·rw [if_neg c23] at H
          obtain ⟨c23b0, c23b1⟩ := bn_ c23
          (first | rw [c23b0] | (simp only [i64_w, i32_w]; rw [c23b0]) | skip)
          have H' := Aside0.mk H
          clear H
          go_wp2
          go_meet
          case rel => exact ⟨_, (decide ((rd x11_2 x12_2) ≥ a2)), (by first | rfl | (simp; done) | (simp [*]; done)), H', ⟨by have := HK1.out; have := HK2.out; first | omega | exact Nat.le_refl _⟩, ⟨by (try simp only [hl9_2]); (with_reducible repeat (first | apply Kd.R_alloc | apply Kd.R_drewN | apply Kd.R_drew)); exact HO_9.out⟩, ⟨by (try simp only [hl9_2]); (with_reducible repeat (first | apply Kd.R_alloc | apply Kd.R_drewN | apply Kd.R_drew)); exact HO_11.out⟩, ⟨bl_ HB⟩⟩
        case rest =>
         clear HC21
         try clear c1
         try clear p1
         try clear q1
         try clear hx1
         try clear c2
         try clear p2
         try clear q2
         try clear hx2
         try clear c5
         try clear c6
         try clear p6
         try clear c9
         try clear c9b0
         try clear c10
         try clear c12
         try clear c12b0
         try clear c13
         try clear c13b0
         try clear p14
         try clear q14
         try clear hx14
         try clear hf14
         try clear c19
         try clear c19b0
         try clear c20
         try clear c20b0
         try clear p21
         try clear q21
         try clear hx21
         try clear c23
         try clear c23b0
         try clear c23b1
         try clear hx14_0
         try clear hx218_0
         try clear p1
         try clear p14
         try clear p2
         try clear p218
         try clear p6
         try clear q1
         try clear q14
         try clear q218
         obtain ⟨kq, x52_20, rfl, HA, HJ20, HO_9, HO_11, HB⟩ := hcut
         cases kq with
         | zero => exact absurd HA.out (by simp [spec_DistancesTo.j2])
         | succ kj20 =>
          have H := HA.out
          clear HA
          simp only [spec_DistancesTo.j2] at H
          by_cases c24 : x52_20 = true
          ·subst c24
           rw [if_pos rfl] at H
           have H' := Aside0.mk H
           clear H
           go_wp2
           (try simp only [← hl9_2])
           go_roundg kj20
           case measure => have := HK1.out; have := HK2.out; have := HJ20.out; omega
           case rel => exact ⟨(x9_2), (x11_2), (wrap64 (x12_2 + 1)), (by first | rfl | (simp; done) | (simp [*]; done)), H', ⟨by have := HK1.out; have := HK2.out; have := HJ20.out; omega⟩, ⟨by (try simp only [hl9_2]); (with_reducible repeat (first | apply Kd.R_alloc | apply Kd.R_drewN | apply Kd.R_drew)); exact HO_9.out⟩, ⟨by (try simp only [hl9_2]); (with_reducible repeat (first | apply Kd.R_alloc | apply Kd.R_drewN | apply Kd.R_drew)); exact HO_11.out⟩, ⟨bl_ HB⟩⟩
          ·replace c24 := Bool.eq_false_iff.mpr c24
           subst c24
           have H1 : ((spec_NeighborsIn.f kj20 l0 (rd x11_2 x12_2)).bind fun t219 => (spec_DistancesTo.l2 kj20 l0 a1 a2 a3 x9_2 x11_2 x12_2 (rd x11_2 x12_2) t219 0)) = some r := by rw [if_neg (show ¬ (false = true) by decide)] at H; exact H
           clear H
           have H := H1
           clear H1
           replace H := bs_ H
           obtain ⟨t219, A25, H⟩ := H
           have H' := Aside0.mk H
           clear H
           go_wp2_with (first | ((with_reducible refine gate_callee (f := 55) rfl ?_); refine gl_ 55 Try.func55 (spec_NeighborsIn.calls kj20 _ _ l0 (rd x11_2 x12_2) t219 _ (ck_ HR0 HB) HC0.out A25.out) ?_; rintro e w26 ⟨v220, rfl, ho0, hb⟩; refine ⟨_, rfl, sh4_ (Kd.R_elder' (ra_ HO_9) (Kd.R_base ho0) hb) (Kd.R_elder' (ra_ HO_11) (Kd.R_base ho0) hb) (Kd.R_lower (Kd.R_new' (Kd.R_new' ho0 (Kd.R_lt (ra_ HO_9))) (Kd.R_lt (ra_ HO_11))) (below_size (bl_ HB))) (below_step (bl_ HB) hb) ?_⟩; clear HO_9 HO_11 HB hb ho0; intro HO_9 HO_11 HO221 HB))
           go_loopg [11, 15] kj20 (fun kq v11 v15 w' => ∃ (x9_4 : List Int) (x11_4 : List Int) (x15_4 : Int), v15 = .int .i64 x15_4 ∧ Aside0 (spec_DistancesTo.l2 kq l0 a1 a2 a3 x9_4 x11_4 x12_2 (rd x11_2 x12_2) t219 x15_4 = some r) ∧ Aside0 (kq ≤ kj20) ∧ Aside0 (Kd.R (Kd.int .i64) 3 w' w.heap.size (fun k_ => some k_ ≠ (v11 : Value).ownBlock ∧ some k_ ≠ (v220 : Value).ownBlock) (.slice (some ⟨go14, 0, none⟩) x9_2.length co14) x9_4) ∧ Aside0 (Kd.R (Kd.int .i64) 3 w' w.heap.size (fun k_ => some k_ ≠ ((.slice (some ⟨go14, 0, none⟩) x9_2.length co14) : Value).ownBlock ∧ some k_ ≠ (v220 : Value).ownBlock) v11 x11_4) ∧ Aside0 (Kd.R (Kd.int .i64) 3 w' w.heap.size (fun k_ => some k_ ≠ ((.slice (some ⟨go14, 0, none⟩) x9_2.length co14) : Value).ownBlock ∧ some k_ ≠ (v11 : Value).ownBlock) v220 t219) ∧ Aside0 (Below w.heap.size w w'))
           case atStart => exact ⟨(x9_2), (x11_2), (0), (by first | rfl | (simp; done) | (simp [*]; done)), H', ⟨Nat.le_refl _⟩, ⟨by (try simp only [hl9_2]); (with_reducible repeat (first | apply Kd.R_alloc | apply Kd.R_drewN | apply Kd.R_drew)); exact HO_9.out⟩, ⟨by (try simp only [hl9_2]); (with_reducible repeat (first | apply Kd.R_alloc | apply Kd.R_drewN | apply Kd.R_drew)); exact HO_11.out⟩, ⟨by (try simp only [hl9_2]); (with_reducible repeat (first | apply Kd.R_alloc | apply Kd.R_drewN | apply Kd.R_drew)); exact Kd.R_mono HO221.out (fun _ hk => ⟨hk.1.2, hk.2⟩)⟩, ⟨bl_ HB⟩⟩
           case round =>
            clear H'
            try clear c1
            try clear p1
            try clear q1
            try clear hx1
            try clear c2
            try clear p2
            try clear q2
            try clear hx2
            try clear c5
            try clear c6
            try clear p6
            try clear c9
            try clear c9b0
            try clear c10
            try clear c12
            try clear c12b0
            try clear c13
            try clear c13b0
            try clear p14
            try clear q14
            try clear hx14
            try clear hf14
            try clear c19
            try clear c19b0
            try clear c20
            try clear c20b0
            try clear p21
            try clear q21
            try clear hx21
            try clear c23
            try clear c23b0
            try clear c23b1
            try clear c24
            try clear hx14_0
            try clear hx218_0
            try clear p1
            try clear p14
            try clear p2
            try clear p21
            try clear p218
            try clear p6
            try clear q1
            try clear q14
            try clear q2
            try clear q21
            try clear q218
            obtain ⟨x9_4, x11_4, x15_4, rfl, HA, HK4, HO_9, HO_11, HO_14, HB⟩ := hrel
            have hl9_4 := (Kd.R_reads' HO_9.out).1
            rw [hl9_4] at HO_9
            (try simp only [hl9_4])
            (try simp only [hl9_4] at HO_11)
            (try simp only [hl9_4] at HO_14)
            cases gk with
            | zero => exact absurd HA.out (by simp [spec_DistancesTo.l2])
            | succ k4 =>
             have H := HA.out
             clear HA
             simp only [spec_DistancesTo.l2] at H
             by_cases c27 : x15_4 < (t219.length : Int)
             ·rw [if_pos c27] at H
              have c27b0 := decide_eq_true c27
              clear c27
              replace H := ifn_ H
              obtain ⟨c28, H⟩ := H
              have c28b0 := decide_eq_true c28
              clear c28
              replace H := bs_ H
              obtain ⟨t223, A29, H⟩ := H
              by_cases c30 : t223 = true
              ·subst c30
               rw [if_pos rfl] at H
               replace H := ifn_ H
               obtain ⟨c31, H⟩ := H
               have c31b0 := decide_eq_true c31
               clear c31
               replace H := ifn_ H
               obtain ⟨c32, H⟩ := H
               have c32b0 := decide_eq_true c32
               clear c32
               by_cases c33 : (rd x9_4 (rd t219 x15_4)) < 0
               ·rw [if_pos c33] at H
                have c33b0 := decide_eq_true c33
                clear c33
                replace H := ifn_ H
                obtain ⟨c34, H⟩ := H
                have c34b0 := decide_eq_true c34
                clear c34
                replace H := ifn_ H
                obtain ⟨c35, H⟩ := H
                have c35b0 := decide_eq_true c35
                clear c35
                replace H : ∃ y_ : List Int, Aside0 (y_ = (x9_4.set ((rd t219 x15_4) : Int).toNat (wrap64 ((rd x9_4 (rd x11_2 x12_2)) + 1)))) ∧ (if x11_4.length < 17592186044416 then (spec_DistancesTo.l2 k4 l0 a1 a2 a3 y_ (x11_4 ++ [rd t219 x15_4]) x12_2 (rd x11_2 x12_2) t219 (wrap64 (x15_4 + 1))) else (none)) = some r := ⟨_, ⟨rfl⟩, yh_ H⟩
                obtain ⟨y228, Ny228, H⟩ := H
                replace H := ifn_ H
                obtain ⟨c37, H⟩ := H
                have LMc37 := Aside0.mk c37
                clear c37
                replace H : ∃ y_ : List Int, Aside0 (y_ = (x11_4 ++ [rd t219 x15_4])) ∧ (spec_DistancesTo.l2 k4 l0 a1 a2 a3 y228 y_ x12_2 (rd x11_2 x12_2) t219 (wrap64 (x15_4 + 1))) = some r := ⟨_, ⟨rfl⟩, yh_ H⟩
                obtain ⟨y230, Ny230, H⟩ := H
                have H' := Aside0.mk H
                clear H
                obtain ⟨Ao38, co38, eo38⟩ := Kd.R_slice HO_14.out
                subst eo38
                have p222 : 0 ≤ (x15_4 : Int) := od_
                have q222 : x15_4 < (t219.length : Int) := od_
                obtain ⟨ad222, e222, hx222_0⟩ := Kd.at_int (Kd.R_reads' HO_14.out).2.2 x15_4 p222 q222
                cases e222
                replace p222 := eq_true p222
                replace q222 := eq_true q222
                try go_wp2_with (first | ((with_reducible refine gate_callee (f := 110) rfl ?_); refine gl_ 68 Try.func110 (spec_l1In.calls (rd t219 x15_4) 0 (wrap64 (a1 - 1)) true _ A29.out) ?_; rintro e w' ⟨rfl, ⟨nd, rfl⟩⟩; refine ⟨_, rfl, ?_⟩; (try (rw [drewN_self wr]; generalize hq_ : World.drewN wr _ = wr; have n0_ : Aside0 (Kd.R (Kd.int .i64) 3 wr w.heap.size (fun k_ => some k_ ≠ (.slice (some ⟨go14, 0, none⟩) x9_4.length co14 : Value).ownBlock ∧ some k_ ≠ (.slice (some ad222) t219.length co38 : Value).ownBlock) u11 x11_4) := ⟨by rw [← hq_]; exact (ra_ HO_11)⟩; have n1_ : Aside0 (Kd.R (Kd.int .i64) 3 wr w.heap.size (fun k_ => some k_ ≠ (.slice (some ⟨go14, 0, none⟩) x9_4.length co14 : Value).ownBlock ∧ some k_ ≠ (u11 : Value).ownBlock) (.slice (some ad222) t219.length co38) t219) := ⟨by rw [← hq_]; exact (ra_ HO_14)⟩; have n2_ : Aside0 (Kd.R (Kd.int .i64) 3 wr w.heap.size (fun k_ => some k_ ≠ (u11 : Value).ownBlock ∧ some k_ ≠ (.slice (some ad222) t219.length co38 : Value).ownBlock) (.slice (some ⟨go14, 0, none⟩) x9_4.length co14) x9_4) := ⟨by rw [← hq_]; exact (ra_ HO_9)⟩; have n3_ : Aside0 (Below w.heap.size w wr) := ⟨by rw [← hq_]; exact (bl_ HB)⟩; clear HO_11 HO_14 HO_9 HB hq_; have HO_11 := n0_; have HO_14 := n1_; have HO_9 := n2_; have HB := n3_; clear n0_ n1_ n2_ n3_)); have p224 : 0 ≤ (x15_4 : Int) := od_; have q224 : x15_4 < (t219.length : Int) := od_; obtain ⟨ad224, e224, hx224_0⟩ := Kd.at_int (Kd.R_reads' HO_14.out).2.2 x15_4 p224 q224; obtain rfl : ad222 = ad224 := (by injection e224); replace p224 := eq_true p224; replace q224 := eq_true q224; have p225 : 0 ≤ ((rd t219 x15_4) : Int) := od_; have q225 : (rd t219 x15_4) < (x9_4.length : Int) := od_; obtain ⟨ad225, e225, hx225_0⟩ := Kd.at_int (Kd.R_reads' HO_9.out).2.2 (rd t219 x15_4) p225 q225; obtain rfl : (⟨go14, 0, none⟩ : Addr) = ad225 := (by injection e225); (first | simp only [add_plain] at hx225_0 | simp only [add_at] at hx225_0 | simp only [Addr.add, Nat.zero_add] at hx225_0 | skip); replace p225 := eq_true p225; replace q225 := eq_true q225))
                refine sh4_ (Kd.R_drew HO_9.out) (Kd.R_drew HO_11.out) (Kd.R_drew HO_14.out) (below_drew1 HB.out) ?_
                clear HO_9 HO_11 HO_14 HB
                intro HO_9 HO_11 HO_14 HB
                have p226 : 0 ≤ (x15_4 : Int) := od_
                have q226 : x15_4 < (t219.length : Int) := od_
                obtain ⟨ad226, e226, hx226_0⟩ := Kd.at_int (Kd.R_reads' HO_14.out).2.2 x15_4 p226 q226
                obtain rfl : ad222 = ad226 := (by injection e226)
                replace p226 := eq_true p226
                replace q226 := eq_true q226
                have p227 : 0 ≤ ((rd x11_2 x12_2) : Int) := od_
                have q227 : (rd x11_2 x12_2) < (x9_4.length : Int) := od_
                obtain ⟨ad227, e227, hx227_0⟩ := Kd.at_int (Kd.R_reads' HO_9.out).2.2 (rd x11_2 x12_2) p227 q227
                obtain rfl : (⟨go14, 0, none⟩ : Addr) = ad227 := (by injection e227)
                (first | simp only [add_plain] at hx227_0 | simp only [add_at] at hx227_0 | simp only [Addr.add, Nat.zero_add] at hx227_0 | skip)
                replace p227 := eq_true p227
                replace q227 := eq_true q227
                have p36 : 0 ≤ ((rd t219 x15_4) : Int) := od_
                have q36 : ((rd t219 x15_4) : Int) < ((x9_4.length : Int) : Int) := od_
                obtain ⟨hx36_0, hf36_0⟩ := Kd.R_celln 0 HO_9.out ((rd t219 x15_4) : Int) p36 q36
                replace p36 := eq_true p36
                replace q36 := eq_true q36
                have HP40 := Kd.R_putn HO_9.out ((rd t219 x15_4) : Int) (wrap64 ((rd x9_4 (rd x11_2 x12_2)) + 1))
                rw [← Ny228.out] at HP40
                have HQ40 := Aside0.mk HP40
                clear HP40
                refine start_ (n := 12) (S := fun w' => w'.cell? (ad222.add (x15_4).toNat) = some (.int .i64 (rd t219 x15_4)) ∧ w'.cell? ⟨go14, ((rd x11_2 x12_2)).toNat, none⟩ = some (.int .i64 (rd x9_4 (rd x11_2 x12_2)))) (ds := [11]) #[false, false, false, false, false, false, false, false, false, false, false, false] (by kernel_rfl) rfl rfl ⟨hx226_0, hx227_0⟩ (fun hHeld => ?_); refine with_tabW spec_DistancesTo.tab20 spec_DistancesTo.bits20 (fun HT_ HW_ => ?_)
                generalize wr.drew = w39 at HO_9 HO_11 HO_14 HB HQ40 hf36_0 hx226_0 hx227_0 hx36_0 hHeld ⊢
                refine pur_ 0 #[true, false, false, false, false, false, false, false, false, false, false, false] (some 79) HT_ ?_
                refine pur_ 1 #[true, true, false, false, false, false, false, false, false, false, false, false] (some 80) HT_ ?_
                refine pur_ 2 #[true, true, true, false, false, false, false, false, false, false, false, false] (some 81) HT_ ?_
                refine pur_ 3 #[true, true, true, true, false, false, false, false, false, false, false, false] (some 82) HT_ ?_
                refine pur_ 5 #[true, true, true, true, false, true, false, false, false, false, false, false] (some 84) HT_ ?_
                refine pur_ 6 #[true, true, true, true, false, true, true, false, false, false, false, false] (some 85) HT_ ?_
                refine pur_ 7 #[true, true, true, true, false, true, true, true, false, false, false, false] (some 86) HT_ ?_
                refine tak_ 4 #[true, true, true, true, true, true, true, true, false, false, false, false] (some 83) HT_ HW_ hHeld ?_
                refine tak_ 8 #[true, true, true, true, true, true, true, true, true, false, false, false] (some 87) HT_ HW_ hHeld ?_
                refine pur_ 9 #[true, true, true, true, true, true, true, true, true, true, false, false] (some 88) HT_ ?_
                refine pur_ 10 #[true, true, true, true, true, true, true, true, true, true, true, false] (some 89) HT_ ?_
                refine last_ (i := 11) (N := none) #[true, true, true, true, true, true, true, true, true, true, true, true] rfl rfl (one_of HT_.out (by kernel_rfl)) (by decide) (fun K hK => ?_)
                refine skip_ (w1 := ?_) (by rfl) rfl ?_ ?_
                rotate_left
                ·go_simp
                 rfl
                refine hK.out _ _ ?_
                clear hK K
                refine done_ (done_of HT_.out (by kernel_rfl)) ?_
                have p229 : 0 ≤ (x15_4 : Int) := od_
                have q229 : x15_4 < (t219.length : Int) := od_
                obtain ⟨ad229, e229, hx229_0⟩ := Kd.at_int (Kd.R_reads' HO_14.out).2.2 x15_4 p229 q229
                obtain rfl : ad222 = ad229 := (by injection e229)
                have hn229_0 : ad222.block ≠ go14 := (fun e_ => (HO_9.out.1 _ rfl).2 (by rw [← e_]; rfl))
                replace hx229_0 := (cell_far (p := ⟨go14, ((rd t219 x15_4) : Int).toNat, none⟩) (by first | (rw [add_block]; exact hn229_0) | (show (Addr.add _ _).block ≠ _; rw [add_block]; exact hn229_0) | exact hn229_0) (.int .i64 (wrap64 ((rd x9_4 (rd x11_2 x12_2)) + 1)))).trans hx229_0
                clear hn229_0
                replace p229 := eq_true p229
                replace q229 := eq_true q229
                try go_wp2_with (first | ((with_reducible refine gate_builtin (b := .append) (xs := #[.tmp 90, .tmp 95]) rfl ?_); at_builtin; refine Kd.R_append (Kd.int .i64) (w0 := w) w.heap.size rfl (.tmp 90) (.tmp 95) 24 3 (.int .i64 0) 8 rfl Try.underlying24 info3 rfl (by decide) (by omega) u11 x11_4 (rd t219 x15_4) [.int .i64 (rd t219 x15_4)] (fun k_ => some k_ ≠ (.slice (some ⟨go14, 0, none⟩) x9_4.length co14 : Value).ownBlock ∧ some k_ ≠ (.slice (some ad222) t219.length co38 : Value).ownBlock) (fun _ => False) rfl (by first | (go_simp; done) | (go_simp; rfl)) ?aP (fun _ hk => hk.elim) ?aF ?aO ?aB ?aS ?aL ?_; (case aP => exact rfl); (case aB => exact (by repeat (first | (with_reducible first | exact HB.out | apply below_alloc | apply pw_below_drewN | apply below_drew1 | refine below_set ?_ GB14.out) | exact HB.out))); (case aF => exact (fun k_ hk => ⟨Kd.fresh' (Kd.R_lt (ra_ HQ40)) k_ hk, Kd.fresh' (Kd.R_lt (by (with_reducible repeat (first | apply Kd.R_alloc | apply Kd.R_drewN | apply Kd.R_drew)); exact (Kd.R_mono (Kd.R_far (p := ⟨go14, ((rd t219 x15_4) : Int).toNat, none⟩) (Kd.R_mono HO_14.out (fun k_ hk => (⟨hk, fun e_ => hk.1 (by rw [e_]; rfl)⟩ : _ ∧ k_ ≠ go14))) (fun _ hk => hk.2) (.int .i64 (wrap64 ((rd x9_4 (rd x11_2 x12_2)) + 1)))) (fun _ h_ => h_.1)))) k_ hk⟩)); (case aO => exact (by (with_reducible repeat (first | apply Kd.R_alloc | apply Kd.R_drewN | apply Kd.R_drew)); exact Kd.R_mono (Kd.R_far (p := ⟨go14, ((rd t219 x15_4) : Int).toNat, none⟩) (Kd.R_mono HO_11.out (fun k_ hk => (⟨hk, fun e_ => hk.1 (by rw [e_]; rfl)⟩ : _ ∧ k_ ≠ go14))) (fun _ hk => hk.2) (.int .i64 (wrap64 ((rd x9_4 (rd x11_2 x12_2)) + 1)))) (fun _ hk => ⟨hk.1.1, hk.1.2⟩))); (case aS => exact (below_size (by repeat (first | (with_reducible first | exact HB.out | apply below_alloc | apply pw_below_drewN | apply below_drew1 | refine below_set ?_ GB14.out) | exact HB.out)))); (case aL => have := LMc37.out; omega); intro v231 w41 ho hb hg hat; rw [← Ny230.out] at ho; refine sh4_ (Kd.R_after (ok := (fun k_ => some k_ ≠ (.slice (some ad222) t219.length co38 : Value).ownBlock)) (by (with_reducible repeat (first | apply Kd.R_alloc | apply Kd.R_drewN | apply Kd.R_drew)); exact Kd.R_mono HQ40.out (fun _ hk => ⟨hk.2, hk.1⟩)) hg hat) (Kd.R_after (ok := (fun k_ => some k_ ≠ (.slice (some ⟨go14, 0, none⟩) x9_4.length co14 : Value).ownBlock)) (by (with_reducible repeat (first | apply Kd.R_alloc | apply Kd.R_drewN | apply Kd.R_drew)); exact Kd.R_mono (Kd.R_far (p := ⟨go14, ((rd t219 x15_4) : Int).toNat, none⟩) (Kd.R_mono HO_14.out (fun k_ hk => (⟨hk, fun e_ => hk.1 (by rw [e_]; rfl)⟩ : _ ∧ k_ ≠ go14))) (fun _ hk => hk.2) (.int .i64 (wrap64 ((rd x9_4 (rd x11_2 x12_2)) + 1)))) (fun _ hk => ⟨hk.1.1, hk.1.2⟩)) hg hat) hb ho ?_; clear HO_9 HO_14 HB HO_11 ho hb hg hat; intro HO_9 HO_14 HB HO232))
                (try simp only [← hl9_4])
                go_roundg k4
                case measure => have := HK1.out; have := HK2.out; have := HJ20.out; have := HK4.out; omega
                case rel => exact ⟨(y228), (y230), (wrap64 (x15_4 + 1)), (by first | rfl | (simp; done) | (simp [*]; done)), H', ⟨by have := HK1.out; have := HK2.out; have := HJ20.out; have := HK4.out; omega⟩, ⟨by (try simp only [hl9_2]); (try simp only [hl9_4]); (with_reducible repeat (first | apply Kd.R_alloc | apply Kd.R_drewN | apply Kd.R_drew)); exact Kd.R_mono HO_9.out (fun _ hk => ⟨hk.2, hk.1⟩)⟩, ⟨by (try simp only [hl9_2]); (try simp only [hl9_4]); (with_reducible repeat (first | apply Kd.R_alloc | apply Kd.R_drewN | apply Kd.R_drew)); exact HO232.out⟩, ⟨by (try simp only [hl9_2]); (try simp only [hl9_4]); (with_reducible repeat (first | apply Kd.R_alloc | apply Kd.R_drewN | apply Kd.R_drew)); exact HO_14.out⟩, ⟨bl_ HB⟩⟩
               ·rw [if_neg c33] at H
                have c33b0 : decide ((rd x9_4 (rd t219 x15_4)) < 0) = false := decide_eq_false c33
                clear c33
                have H' := Aside0.mk H
                clear H
                obtain ⟨Ao42, co42, eo42⟩ := Kd.R_slice HO_14.out
                subst eo42
                have p222 : 0 ≤ (x15_4 : Int) := od_
                have q222 : x15_4 < (t219.length : Int) := od_
                obtain ⟨ad222, e222, hx222_0⟩ := Kd.at_int (Kd.R_reads' HO_14.out).2.2 x15_4 p222 q222
                cases e222
                replace p222 := eq_true p222
                replace q222 := eq_true q222
                go_wp2_with (first | ((with_reducible refine gate_callee (f := 110) rfl ?_); refine gl_ 68 Try.func110 (spec_l1In.calls (rd t219 x15_4) 0 (wrap64 (a1 - 1)) true _ A29.out) ?_; rintro e w' ⟨rfl, ⟨nd, rfl⟩⟩; refine ⟨_, rfl, ?_⟩; have p224 : 0 ≤ (x15_4 : Int) := od_; have q224 : x15_4 < (t219.length : Int) := od_; obtain ⟨ad224, e224, hx224_0⟩ := Kd.at_int (Kd.R_reads' HO_14.out).2.2 x15_4 p224 q224; obtain rfl : ad222 = ad224 := (by injection e224); replace p224 := eq_true p224; replace q224 := eq_true q224; have p225 : 0 ≤ ((rd t219 x15_4) : Int) := od_; have q225 : (rd t219 x15_4) < (x9_4.length : Int) := od_; obtain ⟨ad225, e225, hx225_0⟩ := Kd.at_int (Kd.R_reads' HO_9.out).2.2 (rd t219 x15_4) p225 q225; obtain rfl : (⟨go14, 0, none⟩ : Addr) = ad225 := (by injection e225); (first | simp only [add_plain] at hx225_0 | simp only [add_at] at hx225_0 | simp only [Addr.add, Nat.zero_add] at hx225_0 | skip); replace p225 := eq_true p225; replace q225 := eq_true q225))
                (try simp only [← hl9_4])
                go_roundg k4
                case measure => have := HK1.out; have := HK2.out; have := HJ20.out; have := HK4.out; omega
                case rel => exact ⟨(x9_4), (x11_4), (wrap64 (x15_4 + 1)), (by first | rfl | (simp; done) | (simp [*]; done)), H', ⟨by have := HK1.out; have := HK2.out; have := HJ20.out; have := HK4.out; omega⟩, ⟨by (try simp only [hl9_2]); (try simp only [hl9_4]); (with_reducible repeat (first | apply Kd.R_alloc | apply Kd.R_drewN | apply Kd.R_drew)); exact HO_9.out⟩, ⟨by (try simp only [hl9_2]); (try simp only [hl9_4]); (with_reducible repeat (first | apply Kd.R_alloc | apply Kd.R_drewN | apply Kd.R_drew)); exact HO_11.out⟩, ⟨by (try simp only [hl9_2]); (try simp only [hl9_4]); (with_reducible repeat (first | apply Kd.R_alloc | apply Kd.R_drewN | apply Kd.R_drew)); exact HO_14.out⟩, ⟨bl_ HB⟩⟩
              ·replace c30 := Bool.eq_false_iff.mpr c30
               subst c30
               have H1 : (spec_DistancesTo.l2 k4 l0 a1 a2 a3 x9_4 x11_4 x12_2 (rd x11_2 x12_2) t219 (wrap64 (x15_4 + 1))) = some r := by rw [if_neg (show ¬ (false = true) by decide)] at H; exact H
               clear H
               have H := H1
               clear H1
               have H' := Aside0.mk H
               clear H
               obtain ⟨Ao43, co43, eo43⟩ := Kd.R_slice HO_14.out
               subst eo43
               have p222 : 0 ≤ (x15_4 : Int) := od_
               have q222 : x15_4 < (t219.length : Int) := od_
               obtain ⟨ad222, e222, hx222_0⟩ := Kd.at_int (Kd.R_reads' HO_14.out).2.2 x15_4 p222 q222
               cases e222
               replace p222 := eq_true p222
               replace q222 := eq_true q222
               go_wp2_with (first | ((with_reducible refine gate_callee (f := 110) rfl ?_); refine gl_ 68 Try.func110 (spec_l1In.calls (rd t219 x15_4) 0 (wrap64 (a1 - 1)) false _ A29.out) ?_; rintro e w' ⟨rfl, ⟨nd, rfl⟩⟩; refine ⟨_, rfl, ?_⟩))
               (try simp only [← hl9_4])
               go_roundg k4
               case measure => have := HK1.out; have := HK2.out; have := HJ20.out; have := HK4.out; omega
               case rel => exact ⟨(x9_4), (x11_4), (wrap64 (x15_4 + 1)), (by first | rfl | (simp; done) | (simp [*]; done)), H', ⟨by have := HK1.out; have := HK2.out; have := HJ20.out; have := HK4.out; omega⟩, ⟨by (try simp only [hl9_2]); (try simp only [hl9_4]); (with_reducible repeat (first | apply Kd.R_alloc | apply Kd.R_drewN | apply Kd.R_drew)); exact HO_9.out⟩, ⟨by (try simp only [hl9_2]); (try simp only [hl9_4]); (with_reducible repeat (first | apply Kd.R_alloc | apply Kd.R_drewN | apply Kd.R_drew)); exact HO_11.out⟩, ⟨by (try simp only [hl9_2]); (try simp only [hl9_4]); (with_reducible repeat (first | apply Kd.R_alloc | apply Kd.R_drewN | apply Kd.R_drew)); exact HO_14.out⟩, ⟨bl_ HB⟩⟩
             ·rw [if_neg c27] at H
              have c27b0 : decide (x15_4 < (t219.length : Int)) = false := decide_eq_false c27
              clear c27
              have H' := Aside0.mk H
              clear H
              obtain ⟨Ao44, co44, eo44⟩ := Kd.R_slice HO_14.out
              subst eo44
              go_wp2
              (try simp only [← hl9_2, ← hl9_4])
              go_roundg k4
              case measure => have := HK1.out; have := HK2.out; have := HJ20.out; have := HK4.out; omega
              case rel => exact ⟨(x9_4), (x11_4), (wrap64 (x12_2 + 1)), (by first | rfl | (simp; done) | (simp [*]; done)), H', ⟨by have := HK1.out; have := HK2.out; have := HJ20.out; have := HK4.out; omega⟩, ⟨by (try simp only [hl9_2]); (try simp only [hl9_4]); (with_reducible repeat (first | apply Kd.R_alloc | apply Kd.R_drewN | apply Kd.R_drew)); exact Kd.R_mono HO_9.out (fun _ hk => hk.1)⟩, ⟨by (try simp only [hl9_2]); (try simp only [hl9_4]); (with_reducible repeat (first | apply Kd.R_alloc | apply Kd.R_drewN | apply Kd.R_drew)); exact Kd.R_mono HO_11.out (fun _ hk => hk.1)⟩, ⟨bl_ HB⟩⟩
       ·rw [if_neg c19] at H
        have c19b0 : decide (x12_2 < (x11_2.length : Int)) = false := decide_eq_false c19
        clear c19
        obtain rfl := Option.some.inj H
        obtain ⟨Ao45, co45, eo45⟩ := Kd.R_slice HO_11.out
        subst eo45
        go_wp2
        go_ret
        exact ⟨_, er_, by (with_reducible repeat (first | apply Kd.R_alloc | apply Kd.R_drewN | apply Kd.R_drew)); exact Kd.R_mono HO_9.out (fun _ hk => trivial), bl_ HB⟩
 ·replace c6 := Bool.eq_false_iff.mpr c6
  subst c6
  have H1 : (some (([] : List Int))) = some r := by rw [if_neg (show ¬ (false = true) by decide)] at H; exact H
  clear H
  have H := H1
  clear H1
  replace H : ∃ y_ : List Int, Aside0 (y_ = (([] : List Int))) ∧ (some y_) = some r := ⟨_, ⟨rfl⟩, yh_ H⟩
  obtain ⟨y205, Ny205, H⟩ := H
  obtain rfl := Option.some.inj H
  go_enter Try.func58, Try.ntmps58
  go_wp2_with (first | ((with_reducible refine gate_callee (f := 109) rfl ?_); refine gl_ 18 Try.func109 (spec_l14Ok.calls a1 a3 false _ A5.out) ?_; rintro e w' ⟨rfl, ⟨nd, rfl⟩⟩; refine ⟨_, rfl, ?_⟩) | ((with_reducible refine gate_dst (N := 20) rfl ?_); refine Kd.R_lit (Kd.int .i64) _ 3 ?hg (N := 20) ?hd (xs := ([] : List Int)) (inner := []) (ok := fun _ => True) (okp := fun _ => True) ?hr ?hp (fun _ hk => hk) trivial (Below.refl _ _) (Nat.le_refl _) (by simp) ?_; (case hd => rfl); (case hg => rfl); (case hr => first | (go_simp; done) | (go_simp; rfl)); (case hp => exact (Reps.none _ _)); intro v206 w46 ho47 hb hg_ hnew_; clear hg_ hnew_; (first | rw [← Ny205.out] at ho47 | (simp only [Int.reduceToNat] at ho47; rw [← Ny205.out] at ho47)); refine sh2_ (Kd.R_lower ho47 (below_size (bl_ HB))) (below_step (bl_ HB) hb) ?_; clear HB hb ho47; intro HO207 HB))
  go_ret
  exact ⟨_, er_, ra_ HO207, bl_ HB⟩

/-! ### spec_NextTo: function 65 -/
mutual
def spec_NextTo.l0 : Nat → List (S103) → Int → Int → Int → List Int → List Int → Int → Option (List Int)
 | 0, _, _, _, _, _, _, _ => none
 | k + 1, x0, x1, x2, x3, x9, x10, x11 => if x11 < (x10.length : Int) then ((spec_NeighborsIn.f k x0 x11).bind fun t239 => (spec_NextTo.l1 k x0 x1 x2 x3 x9 x10 x11 (-1) t239 0)) else (some x9)
def spec_NextTo.l1 : Nat → List (S103) → Int → Int → Int → List Int → List Int → Int → Int → List Int → Int → Option (List Int)
 | 0, _, _, _, _, _, _, _, _, _, _ => none
 | k + 1, x0, x1, x2, x3, x9, x10, x11, x12, x13, x14 => if x14 < (x13.length : Int) then (if 0 ≤ x11 then (if x11 < (x10.length : Int) then (if (rd x10 x11) > 0 then (spec_NextTo.j2 k x0 x1 x2 x3 x9 x10 x11 x12 x13 x14 (decide (x12 < 0))) else (spec_NextTo.j2 k x0 x1 x2 x3 x9 x10 x11 x12 x13 x14 false)) else (none)) else (none)) else (spec_NextTo.j2 k x0 x1 x2 x3 x9 x10 x11 x12 x13 x14 false)
def spec_NextTo.j2 : Nat → List (S103) → Int → Int → Int → List Int → List Int → Int → Int → List Int → Int → Bool → Option (List Int)
 | 0, _, _, _, _, _, _, _, _, _, _, _ => none
 | k + 1, x0, x1, x2, x3, x9, x10, x11, x12, x13, x14, x45 => if x45 = true then (if 0 ≤ x14 then (if x14 < (x13.length : Int) then ((spec_l1In.f (rd x13 x14) 0 (wrap64 (x1 - 1))).bind fun t244 => (if t244 = true then (if (rd x13 x14) < x2 then (if 0 ≤ (rd x13 x14) then (if (rd x13 x14) < (x10.length : Int) then (if 0 ≤ x11 then (if x11 < (x10.length : Int) then (if (rd x10 (rd x13 x14)) = (wrap64 ((rd x10 x11) - 1)) then (spec_NextTo.l1 k x0 x1 x2 x3 x9 x10 x11 (rd x13 x14) x13 (wrap64 (x14 + 1))) else (spec_NextTo.l1 k x0 x1 x2 x3 x9 x10 x11 x12 x13 (wrap64 (x14 + 1)))) else (none)) else (none)) else (none)) else (none)) else (if (rd x13 x14) = x3 then (if 0 ≤ (rd x13 x14) then (if (rd x13 x14) < (x10.length : Int) then (if 0 ≤ x11 then (if x11 < (x10.length : Int) then (if (rd x10 (rd x13 x14)) = (wrap64 ((rd x10 x11) - 1)) then (spec_NextTo.l1 k x0 x1 x2 x3 x9 x10 x11 (rd x13 x14) x13 (wrap64 (x14 + 1))) else (spec_NextTo.l1 k x0 x1 x2 x3 x9 x10 x11 x12 x13 (wrap64 (x14 + 1)))) else (none)) else (none)) else (none)) else (none)) else (spec_NextTo.l1 k x0 x1 x2 x3 x9 x10 x11 x12 x13 (wrap64 (x14 + 1))))) else (spec_NextTo.l1 k x0 x1 x2 x3 x9 x10 x11 x12 x13 (wrap64 (x14 + 1))))) else (none)) else (none)) else (if x9.length < 17592186044416 then (spec_NextTo.l0 k x0 x1 x2 x3 (x9 ++ [x12]) x10 (wrap64 (x11 + 1))) else (none))
end
def spec_NextTo.f (k : Nat) (l0 : List (S103)) (a1 : Int) (a2 : Int) (a3 : Int) : Option (List Int) := (spec_DistancesTo.f k l0 a1 a2 a3).bind fun t236 => (spec_NextTo.l0 k l0 a1 a2 a3 (([] : List Int)) t236 0)
theorem spec_NextTo.mono_l : ∀ k, (∀ y0 y1 y2 y3 y4 y5 y6, LeO (spec_NextTo.l0 k y0 y1 y2 y3 y4 y5 y6) (spec_NextTo.l0 (k + 1) y0 y1 y2 y3 y4 y5 y6)) ∧ (∀ y0 y1 y2 y3 y4 y5 y6 y7 y8 y9, LeO (spec_NextTo.l1 k y0 y1 y2 y3 y4 y5 y6 y7 y8 y9) (spec_NextTo.l1 (k + 1) y0 y1 y2 y3 y4 y5 y6 y7 y8 y9)) ∧ (∀ y0 y1 y2 y3 y4 y5 y6 y7 y8 y9 y10, LeO (spec_NextTo.j2 k y0 y1 y2 y3 y4 y5 y6 y7 y8 y9 y10) (spec_NextTo.j2 (k + 1) y0 y1 y2 y3 y4 y5 y6 y7 y8 y9 y10))
 | 0 => ⟨fun _ _ _ _ _ _ _ r h => by simp [spec_NextTo.l0] at h, fun _ _ _ _ _ _ _ _ _ _ r h => by simp [spec_NextTo.l1] at h, fun _ _ _ _ _ _ _ _ _ _ _ r h => by simp [spec_NextTo.j2] at h⟩
 | k + 1 => by
  obtain ⟨ih0, ih1, ih2⟩ := spec_NextTo.mono_l k
  refine ⟨?_, ?_, ?_⟩
  ·intro y0 y1 y2 y3 y4 y5 y6
   unfold spec_NextTo.l0
   repeat' first | (with_reducible first | exact ih0 _ _ _ _ _ _ _ | exact ih1 _ _ _ _ _ _ _ _ _ _ | exact ih2 _ _ _ _ _ _ _ _ _ _ _ | exact spec_DistancesTo.mono _ _ _ _ _ | exact spec_NeighborsIn.mono _ _ _ | exact LeO.refl _ | exact LeO.none _ | refine LeO.ite ?_ ?_ | refine LeO.bind ?_ (fun _ => ?_)) | exact LeO.none _ | refine LeO.ite ?_ ?_ | refine LeO.bind ?_ (fun _ => ?_)
  ·intro y0 y1 y2 y3 y4 y5 y6 y7 y8 y9
   unfold spec_NextTo.l1
   repeat' first | (with_reducible first | exact ih0 _ _ _ _ _ _ _ | exact ih1 _ _ _ _ _ _ _ _ _ _ | exact ih2 _ _ _ _ _ _ _ _ _ _ _ | exact spec_DistancesTo.mono _ _ _ _ _ | exact spec_NeighborsIn.mono _ _ _ | exact LeO.refl _ | exact LeO.none _ | refine LeO.ite ?_ ?_ | refine LeO.bind ?_ (fun _ => ?_)) | exact LeO.none _ | refine LeO.ite ?_ ?_ | refine LeO.bind ?_ (fun _ => ?_)
  ·intro y0 y1 y2 y3 y4 y5 y6 y7 y8 y9 y10
   unfold spec_NextTo.j2
   repeat' first | (with_reducible first | exact ih0 _ _ _ _ _ _ _ | exact ih1 _ _ _ _ _ _ _ _ _ _ | exact ih2 _ _ _ _ _ _ _ _ _ _ _ | exact spec_DistancesTo.mono _ _ _ _ _ | exact spec_NeighborsIn.mono _ _ _ | exact LeO.refl _ | exact LeO.none _ | refine LeO.ite ?_ ?_ | refine LeO.bind ?_ (fun _ => ?_)) | exact LeO.none _ | refine LeO.ite ?_ ?_ | refine LeO.bind ?_ (fun _ => ?_)
theorem spec_NextTo.mono : ∀ a0 a1 a2 a3 k, LeO (spec_NextTo.f k a0 a1 a2 a3) (spec_NextTo.f (k + 1) a0 a1 a2 a3) := by
 intro a0 a1 a2 a3 k
 obtain ⟨ih0, ih1, ih2⟩ := spec_NextTo.mono_l k
 unfold spec_NextTo.f
 repeat' first | (with_reducible first | exact ih0 _ _ _ _ _ _ _ | exact ih1 _ _ _ _ _ _ _ _ _ _ | exact ih2 _ _ _ _ _ _ _ _ _ _ _ | exact spec_DistancesTo.mono _ _ _ _ _ | exact spec_NeighborsIn.mono _ _ _ | exact LeO.refl _ | exact LeO.none _ | refine LeO.ite ?_ ?_ | refine LeO.bind ?_ (fun _ => ?_)) | exact LeO.none _ | refine LeO.ite ?_ ?_ | refine LeO.bind ?_ (fun _ => ?_)
set_option maxHeartbeats 8000000 in
set_option maxRecDepth 100000 in
theorem spec_NextTo.calls (k : Nat) (A0 : Option Addr) (c0 : Nat) (l0 : List (S103)) (a1 : Int) (a2 : Int) (a3 : Int) (r : List Int) (w : World) (hr0 : Kd.C k103 w A0 l0.length l0) (hc0 : l0.length ≤ c0) (h : spec_NextTo.f k l0 a1 a2 a3 = some r) :
  Calls Try.prog 65 #[.slice A0 l0.length c0, .int .i64 a1, .int .i64 a2, .int .i64 a3] w fun e w' => ∃ v0_ : Value, e = .returned (v0_) ∧ Kd.R (Kd.int .i64) 3 w' w.heap.size (fun _ => True) v0_ r ∧ Below w.heap.size w w' := by
 have HR0 := Aside0.mk hr0
 have HC0 := Aside0.mk hc0
 clear hr0 hc0
 have HB := Aside0.mk (Below.refl w.heap.size w)
 have H := h
 clear h
 unfold spec_NextTo.f at H
 replace H : ∃ y_ : List Int, Aside0 (y_ = (([] : List Int))) ∧ ((spec_DistancesTo.f k l0 a1 a2 a3).bind fun t236 => (spec_NextTo.l0 k l0 a1 a2 a3 y_ t236 0)) = some r := ⟨_, ⟨rfl⟩, yh_ H⟩
 obtain ⟨y233, Ny233, H⟩ := H
 replace H := bs_ H
 obtain ⟨t236, A5, H⟩ := H
 have H' := Aside0.mk H
 clear H
 go_enter Try.func65, Try.ntmps65
 go_wp2_with (first | ((with_reducible refine gate_dst (N := 16) rfl ?_); refine Kd.R_lit (Kd.int .i64) _ 3 ?hg (N := 16) ?hd (xs := ([] : List Int)) (inner := []) (ok := fun _ => True) (okp := fun _ => True) ?hr ?hp (fun _ hk => hk) trivial (Below.refl _ _) (Nat.le_refl _) (by simp) ?_; (case hd => rfl); (case hg => rfl); (case hr => first | (go_simp; done) | (go_simp; rfl)); (case hp => exact (Reps.none _ _)); intro v234 w6 ho7 hb hg_ hnew_; clear hg_ hnew_; (first | rw [← Ny233.out] at ho7 | (simp only [Int.reduceToNat] at ho7; rw [← Ny233.out] at ho7)); refine sh2_ (Kd.R_lower ho7 (below_size (bl_ HB))) (below_step (bl_ HB) hb) ?_; clear HB hb ho7; intro HO235 HB) | (go_at_call 58; (with_reducible refine (spec_DistancesTo.calls k _ _ l0 a1 a2 a3 t236 _ ?side1 ?side2 A5.out).mono ?_); (case side1 => exact ck_ HR0 HB); (case side2 => exact HC0.out); rintro e w8 ⟨v237, rfl, ho0, hb⟩; refine sh3_ (Kd.R_elder' (ra_ HO235) (Kd.R_base ho0) hb) (Kd.R_lower (Kd.R_new' ho0 (Kd.R_lt (ra_ HO235))) (below_size (bl_ HB))) (below_step (bl_ HB) hb) ?_; clear HO235 HB hb ho0; intro HO235 HO238 HB))
 repeat (go_quiet (first | ((with_reducible refine gate_dst (N := 16) rfl ?_); refine Kd.R_lit (Kd.int .i64) _ 3 ?hg (N := 16) ?hd (xs := ([] : List Int)) (inner := []) (ok := fun _ => True) (okp := fun _ => True) ?hr ?hp (fun _ hk => hk) trivial (Below.refl _ _) (Nat.le_refl _) (by simp) ?_; (case hd => rfl); (case hg => rfl); (case hr => first | (go_simp; done) | (go_simp; rfl)); (case hp => exact (Reps.none _ _)); intro v234 w6 ho7 hb hg_ hnew_; clear hg_ hnew_; (first | rw [← Ny233.out] at ho7 | (simp only [Int.reduceToNat] at ho7; rw [← Ny233.out] at ho7)); refine sh2_ (Kd.R_lower ho7 (below_size (bl_ HB))) (below_step (bl_ HB) hb) ?_; clear HB hb ho7; intro HO235 HB) | (go_at_call 58; (with_reducible refine (spec_DistancesTo.calls k _ _ l0 a1 a2 a3 t236 _ ?side1 ?side2 A5.out).mono ?_); (case side1 => exact ck_ HR0 HB); (case side2 => exact HC0.out); rintro e w8 ⟨v237, rfl, ho0, hb⟩; refine sh3_ (Kd.R_elder' (ra_ HO235) (Kd.R_base ho0) hb) (Kd.R_lower (Kd.R_new' ho0 (Kd.R_lt (ra_ HO235))) (below_size (bl_ HB))) (below_step (bl_ HB) hb) ?_; clear HO235 HB hb ho0; intro HO235 HO238 HB)); try go_wp2_with (first | ((with_reducible refine gate_dst (N := 16) rfl ?_); refine Kd.R_lit (Kd.int .i64) _ 3 ?hg (N := 16) ?hd (xs := ([] : List Int)) (inner := []) (ok := fun _ => True) (okp := fun _ => True) ?hr ?hp (fun _ hk => hk) trivial (Below.refl _ _) (Nat.le_refl _) (by simp) ?_; (case hd => rfl); (case hg => rfl); (case hr => first | (go_simp; done) | (go_simp; rfl)); (case hp => exact (Reps.none _ _)); intro v234 w6 ho7 hb hg_ hnew_; clear hg_ hnew_; (first | rw [← Ny233.out] at ho7 | (simp only [Int.reduceToNat] at ho7; rw [← Ny233.out] at ho7)); refine sh2_ (Kd.R_lower ho7 (below_size (bl_ HB))) (below_step (bl_ HB) hb) ?_; clear HB hb ho7; intro HO235 HB) | (go_at_call 58; (with_reducible refine (spec_DistancesTo.calls k _ _ l0 a1 a2 a3 t236 _ ?side1 ?side2 A5.out).mono ?_); (case side1 => exact ck_ HR0 HB); (case side2 => exact HC0.out); rintro e w8 ⟨v237, rfl, ho0, hb⟩; refine sh3_ (Kd.R_elder' (ra_ HO235) (Kd.R_base ho0) hb) (Kd.R_lower (Kd.R_new' ho0 (Kd.R_lt (ra_ HO235))) (below_size (bl_ HB))) (below_step (bl_ HB) hb) ?_; clear HO235 HB hb ho0; intro HO235 HO238 HB)))
 go_loopg [9, 11] k (fun kq v9 v11 w' => ∃ (x9_1 : List Int) (x11_1 : Int), v11 = .int .i64 x11_1 ∧ Aside0 (spec_NextTo.l0 kq l0 a1 a2 a3 x9_1 t236 x11_1 = some r) ∧ Aside0 (kq ≤ k) ∧ Aside0 (Kd.R (Kd.int .i64) 3 w' w.heap.size (fun k_ => some k_ ≠ (v237 : Value).ownBlock) v9 x9_1) ∧ Aside0 (Kd.R (Kd.int .i64) 3 w' w.heap.size (fun k_ => some k_ ≠ (v9 : Value).ownBlock) v237 t236) ∧ Aside0 (Below w.heap.size w w'))
 case atStart => exact ⟨(y233), (0), (by first | rfl | (simp; done) | (simp [*]; done)), H', ⟨Nat.le_refl _⟩, ⟨by (with_reducible repeat (first | apply Kd.R_alloc | apply Kd.R_drewN | apply Kd.R_drew)); exact Kd.R_mono HO235.out (fun _ hk => hk.2)⟩, ⟨by (with_reducible repeat (first | apply Kd.R_alloc | apply Kd.R_drewN | apply Kd.R_drew)); exact Kd.R_mono HO238.out (fun _ hk => hk.2)⟩, ⟨bl_ HB⟩⟩
 case round =>
  clear H'
  try clear p2
  try clear c6
  obtain ⟨x9_1, x11_1, rfl, HA, HK1, HO_9, HO_10, HB⟩ := hrel
  cases gk with
  | zero => exact absurd HA.out (by simp [spec_NextTo.l0])
  | succ k1 =>
   have H := HA.out
   clear HA
   simp only [spec_NextTo.l0] at H
   by_cases c9 : x11_1 < (t236.length : Int)
   ·rw [if_pos c9] at H
    have c9b0 := decide_eq_true c9
    clear c9
    replace H := bs_ H
    obtain ⟨t239, A10, H⟩ := H
    have H' := Aside0.mk H
    clear H
    obtain ⟨Ao11, co11, eo11⟩ := Kd.R_slice HO_10.out
    subst eo11
    go_wp2_with (first | (go_at_call 55; (with_reducible refine (spec_NeighborsIn.calls k1 _ _ l0 x11_1 t239 _ ?side1 ?side2 A10.out).mono ?_); (case side1 => exact ck_ HR0 HB); (case side2 => exact HC0.out); rintro e w12 ⟨v240, rfl, ho0, hb⟩; refine sh4_ (Kd.R_elder' (ra_ HO_9) (Kd.R_base ho0) hb) (Kd.R_elder' (ra_ HO_10) (Kd.R_base ho0) hb) (Kd.R_lower (Kd.R_new' (Kd.R_new' ho0 (Kd.R_lt (ra_ HO_9))) (Kd.R_lt (ra_ HO_10))) (below_size (bl_ HB))) (below_step (bl_ HB) hb) ?_; clear HO_9 HO_10 HB hb ho0; intro HO_9 HO_10 HO241 HB))
    repeat (go_quiet (first | (go_at_call 55; (with_reducible refine (spec_NeighborsIn.calls k1 _ _ l0 x11_1 t239 _ ?side1 ?side2 A10.out).mono ?_); (case side1 => exact ck_ HR0 HB); (case side2 => exact HC0.out); rintro e w12 ⟨v240, rfl, ho0, hb⟩; refine sh4_ (Kd.R_elder' (ra_ HO_9) (Kd.R_base ho0) hb) (Kd.R_elder' (ra_ HO_10) (Kd.R_base ho0) hb) (Kd.R_lower (Kd.R_new' (Kd.R_new' ho0 (Kd.R_lt (ra_ HO_9))) (Kd.R_lt (ra_ HO_10))) (below_size (bl_ HB))) (below_step (bl_ HB) hb) ?_; clear HO_9 HO_10 HB hb ho0; intro HO_9 HO_10 HO241 HB)); try go_wp2_with (first | (go_at_call 55; (with_reducible refine (spec_NeighborsIn.calls k1 _ _ l0 x11_1 t239 _ ?side1 ?side2 A10.out).mono ?_); (case side1 => exact ck_ HR0 HB); (case side2 => exact HC0.out); rintro e w12 ⟨v240, rfl, ho0, hb⟩; refine sh4_ (Kd.R_elder' (ra_ HO_9) (Kd.R_base ho0) hb) (Kd.R_elder' (ra_ HO_10) (Kd.R_base ho0) hb) (Kd.R_lower (Kd.R_new' (Kd.R_new' ho0 (Kd.R_lt (ra_ HO_9))) (Kd.R_lt (ra_ HO_10))) (below_size (bl_ HB))) (below_step (bl_ HB) hb) ?_; clear HO_9 HO_10 HB hb ho0; intro HO_9 HO_10 HO241 HB)))
    go_loopg [12, 14] k1 (fun kq v12 v14 w' => ∃ (x12_2 : Int) (x14_2 : Int), v12 = .int .i64 x12_2 ∧ v14 = .int .i64 x14_2 ∧ Aside0 (spec_NextTo.l1 kq l0 a1 a2 a3 x9_1 t236 x11_1 x12_2 t239 x14_2 = some r) ∧ Aside0 (kq ≤ k1) ∧ Aside0 (Kd.R (Kd.int .i64) 3 w' w.heap.size (fun k_ => some k_ ≠ ((.slice Ao11 t236.length co11) : Value).ownBlock ∧ some k_ ≠ (v240 : Value).ownBlock) u9 x9_1) ∧ Aside0 (Kd.R (Kd.int .i64) 3 w' w.heap.size (fun k_ => some k_ ≠ (u9 : Value).ownBlock ∧ some k_ ≠ (v240 : Value).ownBlock) (.slice Ao11 t236.length co11) t236) ∧ Aside0 (Kd.R (Kd.int .i64) 3 w' w.heap.size (fun k_ => some k_ ≠ (u9 : Value).ownBlock ∧ some k_ ≠ ((.slice Ao11 t236.length co11) : Value).ownBlock) v240 t239) ∧ Aside0 (Below w.heap.size w w'))
    case atStart => exact ⟨((-1)), (0), (by first | rfl | (simp; done) | (simp [*]; done)), (by first | rfl | (simp; done) | (simp [*]; done)), H', ⟨Nat.le_refl _⟩, ⟨ra_ HO_9⟩, ⟨ra_ HO_10⟩, ⟨by (with_reducible repeat (first | apply Kd.R_alloc | apply Kd.R_drewN | apply Kd.R_drew)); exact Kd.R_mono HO241.out (fun _ hk => ⟨hk.1.2, hk.2⟩)⟩, ⟨bl_ HB⟩⟩
    case round =>
     clear H'
     try clear p2
     try clear c6
     try clear c9
     try clear c9b0
     try clear p2
     obtain ⟨x12_2, x14_2, rfl, rfl, HA, HK2, HO_9, HO_10, HO_13, HB⟩ := hrel
     cases gk with
     | zero => exact absurd HA.out (by simp [spec_NextTo.l1])
     | succ k2 =>
      have H := HA.out
      clear HA
      simp only [spec_NextTo.l1] at H
      have HC13 := Aside0.mk H
      clear H
      go_upto_region 9 with (fail)
      repeat (go_quiet (fail); go_upto_region 9 with (fail))
      go_cut [45] (fun v45 wc => ∃ (kq : Nat) (x45_12 : Bool), v45 = .bool x45_12 ∧ Aside0 (spec_NextTo.j2 kq l0 a1 a2 a3 x9_1 t236 x11_1 x12_2 t239 x14_2 x45_12 = some r) ∧ Aside0 (kq ≤ k2) ∧ Aside0 (Kd.R (Kd.int .i64) 3 wc w.heap.size (fun k_ => some k_ ≠ ((.slice Ao11 t236.length co11) : Value).ownBlock ∧ some k_ ≠ (v240 : Value).ownBlock) u9 x9_1) ∧ Aside0 (Kd.R (Kd.int .i64) 3 wc w.heap.size (fun k_ => some k_ ≠ (u9 : Value).ownBlock ∧ some k_ ≠ (v240 : Value).ownBlock) (.slice Ao11 t236.length co11) t236) ∧ Aside0 (Kd.R (Kd.int .i64) 3 wc w.heap.size (fun k_ => some k_ ≠ (u9 : Value).ownBlock ∧ some k_ ≠ ((.slice Ao11 t236.length co11) : Value).ownBlock) v240 t239) ∧ Aside0 (Below w.heap.size w wc))
      case first =>
       have H := HC13.out
       clear HC13
       by_cases c14 : x14_2 < (t239.length : Int)
       ·rw [if_pos c14] at H
        have c14b0 := decide_eq_true c14
        clear c14
        (first | rw [c14b0] | (simp only [i64_w, i32_w]; rw [c14b0]) | skip)
        replace H := ifn_ H
        obtain ⟨c15, H⟩ := H
        have c15b0 := decide_eq_true c15
        clear c15
        replace H := ifn_ H
        obtain ⟨c16, H⟩ := H
        have c16b0 := decide_eq_true c16
        clear c16
        by_cases c17 : (rd t236 x11_1) > 0
        ·rw [if_pos c17] at H
         have c17b0 : decide (0 < (rd t236 x11_1)) = true := decide_eq_true c17
         clear c17
         have H' := Aside0.mk H
         clear H
         obtain ⟨Ao18, co18, eo18⟩ := Kd.R_slice HO_13.out
         subst eo18
         have p242 : 0 ≤ (x11_1 : Int) := od_
         have q242 : x11_1 < (t236.length : Int) := od_
         obtain ⟨ad242, e242, hx242_0⟩ := Kd.at_int (Kd.R_reads' HO_10.out).2.2 x11_1 p242 q242
         cases e242
         replace p242 := eq_true p242
         replace q242 := eq_true q242
         go_wp2
         repeat (go_quiet (fail); try go_wp2)
         go_meet
         case rel => exact ⟨_, (decide (x12_2 < 0)), (by first | rfl | (simp; done) | (simp [*]; done)), H', ⟨by have := HK1.out; have := HK2.out; first | omega | exact Nat.le_refl _⟩, ⟨ra_ HO_9⟩, ⟨ra_ HO_10⟩, ⟨ra_ HO_13⟩, ⟨bl_ HB⟩⟩
        ·rw [if_neg c17] at H
         have c17b0 : decide (0 < (rd t236 x11_1)) = false := decide_eq_false c17
         clear c17
         have H' := Aside0.mk H
         clear H
         obtain ⟨Ao19, co19, eo19⟩ := Kd.R_slice HO_13.out
         subst eo19
         have p242 : 0 ≤ (x11_1 : Int) := od_
         have q242 : x11_1 < (t236.length : Int) := od_
         obtain ⟨ad242, e242, hx242_0⟩ := Kd.at_int (Kd.R_reads' HO_10.out).2.2 x11_1 p242 q242
         cases e242
         replace p242 := eq_true p242
         replace q242 := eq_true q242
         go_wp2
         repeat (go_quiet (fail); try go_wp2)
         go_meet
         case rel => exact ⟨_, (false), (by first | rfl | (simp; done) | (simp [*]; done)), H', ⟨by have := HK1.out; have := HK2.out; first | omega | exact Nat.le_refl _⟩, ⟨ra_ HO_9⟩, ⟨ra_ HO_10⟩, ⟨ra_ HO_13⟩, ⟨bl_ HB⟩⟩
       ·rw [if_neg c14] at H
        have c14b0 := decide_eq_false c14
        clear c14
        (first | rw [c14b0] | (simp only [i64_w, i32_w]; rw [c14b0]) | skip)
        have H' := Aside0.mk H
        clear H
        obtain ⟨Ao20, co20, eo20⟩ := Kd.R_slice HO_13.out
        subst eo20
        go_wp2
        repeat (go_quiet (fail); try go_wp2)
        go_meet
        case rel => exact ⟨_, (false), (by first | rfl | (simp; done) | (simp [*]; done)), H', ⟨by have := HK1.out; have := HK2.out; first | omega | exact Nat.le_refl _⟩, ⟨ra_ HO_9⟩, ⟨ra_ HO_10⟩, ⟨ra_ HO_13⟩, ⟨bl_ HB⟩⟩
      case rest =>
       clear HC13
       try clear c1
       try clear p2
       try clear q2
       try clear hx2
       try clear c6
       try clear c9
       try clear c9b0
       try clear c14
       try clear c14b0
       try clear c15
       try clear c15b0
       try clear c16
       try clear c16b0
       try clear c17
       try clear c17b0
       try clear hx242_0
       try clear p2
       try clear p242
       try clear q242
       obtain ⟨kq, x45_12, rfl, HA, HJ12, HO_9, HO_10, HO_13, HB⟩ := hcut
       cases kq with
       | zero => exact absurd HA.out (by simp [spec_NextTo.j2])
       | succ kj12 =>
        have H := HA.out
        clear HA
        simp only [spec_NextTo.j2] at H
        by_cases c21 : x45_12 = true
        ·subst c21
         rw [if_pos rfl] at H
         replace H := ifn_ H
         obtain ⟨c22, H⟩ := H
         have c22b0 := decide_eq_true c22
         clear c22
         replace H := ifn_ H
         obtain ⟨c23, H⟩ := H
         have c23b0 := decide_eq_true c23
         clear c23
         obtain ⟨ji24, hji24⟩ : ∃ j_ : Int, (wrap64 (a1 - 1)) = j_ := ⟨_, rfl⟩
         replace H : ((spec_l1In.f (rd t239 x14_2) 0 (ji24)).bind fun t244 => (if t244 = true then (if (rd t239 x14_2) < a2 then (if 0 ≤ (rd t239 x14_2) then (if (rd t239 x14_2) < (t236.length : Int) then (if 0 ≤ x11_1 then (if x11_1 < (t236.length : Int) then (if (rd t236 (rd t239 x14_2)) = (wrap64 ((rd t236 x11_1) - 1)) then (spec_NextTo.l1 kj12 l0 a1 a2 a3 x9_1 t236 x11_1 (rd t239 x14_2) t239 (wrap64 (x14_2 + 1))) else (spec_NextTo.l1 kj12 l0 a1 a2 a3 x9_1 t236 x11_1 x12_2 t239 (wrap64 (x14_2 + 1)))) else (none)) else (none)) else (none)) else (none)) else (if (rd t239 x14_2) = a3 then (if 0 ≤ (rd t239 x14_2) then (if (rd t239 x14_2) < (t236.length : Int) then (if 0 ≤ x11_1 then (if x11_1 < (t236.length : Int) then (if (rd t236 (rd t239 x14_2)) = (wrap64 ((rd t236 x11_1) - 1)) then (spec_NextTo.l1 kj12 l0 a1 a2 a3 x9_1 t236 x11_1 (rd t239 x14_2) t239 (wrap64 (x14_2 + 1))) else (spec_NextTo.l1 kj12 l0 a1 a2 a3 x9_1 t236 x11_1 x12_2 t239 (wrap64 (x14_2 + 1)))) else (none)) else (none)) else (none)) else (none)) else (spec_NextTo.l1 kj12 l0 a1 a2 a3 x9_1 t236 x11_1 x12_2 t239 (wrap64 (x14_2 + 1))))) else (spec_NextTo.l1 kj12 l0 a1 a2 a3 x9_1 t236 x11_1 x12_2 t239 (wrap64 (x14_2 + 1))))) = some r := by first | (rw [hji24] at H; exact H) | (simp only [hji24] at H ⊢; exact H)
         have hji24w : (IntKind.i64.wrap (a1 - 1)) = ji24 := (i64_w _).trans hji24
         replace H := bs_ H
         obtain ⟨t244, A25, H⟩ := H
         by_cases c26 : t244 = true
         ·subst c26
          rw [if_pos rfl] at H
          by_cases c27 : (rd t239 x14_2) < a2
          ·rw [if_pos c27] at H
           have c27b0 := decide_eq_true c27
           clear c27
           replace H := ifn_ H
           obtain ⟨c28, H⟩ := H
           have c28b0 := decide_eq_true c28
           clear c28
           replace H := ifn_ H
           obtain ⟨c29, H⟩ := H
           have c29b0 := decide_eq_true c29
           clear c29
           replace H := ifn_ H
           obtain ⟨c30, H⟩ := H
           have c30b0 := decide_eq_true c30
           clear c30
           replace H := ifn_ H
           obtain ⟨c31, H⟩ := H
           have c31b0 := decide_eq_true c31
           clear c31
           by_cases c32 : (rd t236 (rd t239 x14_2)) = (wrap64 ((rd t236 x11_1) - 1))
           ·rw [if_pos c32] at H
            obtain ⟨c32b0, c32b1⟩ := bt_ c32
            have c32b2 : ((rd t236 (rd t239 x14_2)) == Go.IntKind.i64.wrap ((rd t236 x11_1) - 1)) = true := (by simp only [i64_w]; exact c32b0)
            have c32b3 : ((rd t236 (rd t239 x14_2)) != Go.IntKind.i64.wrap ((rd t236 x11_1) - 1)) = false := (by simp only [i64_w]; exact c32b1)
            clear c32
            have H' := Aside0.mk H
            clear H
            obtain ⟨Ao33, co33, eo33⟩ := Kd.R_slice HO_13.out
            subst eo33
            have p243 : 0 ≤ (x14_2 : Int) := od_
            have q243 : x14_2 < (t239.length : Int) := od_
            obtain ⟨ad243, e243, hx243_0⟩ := Kd.at_int (Kd.R_reads' HO_13.out).2.2 x14_2 p243 q243
            cases e243
            replace p243 := eq_true p243
            replace q243 := eq_true q243
            go_wp2_with (first | (go_at_call 110; (with_reducible refine (spec_l1In.calls (rd t239 x14_2) 0 ji24 true _ A25.out).mono ?_); rintro e w' ⟨rfl, ⟨nd, rfl⟩⟩; (try first | exact ⟨rfl, _, World.drewN_drewN _ _ _⟩ | exact ⟨rfl, _, Eq.trans (World.drewN_drewN _ _ _) (congrArg (World.drewN _) (Nat.add_assoc _ _ _))⟩); have p245 : 0 ≤ ((rd t239 x14_2) : Int) := od_; have q245 : (rd t239 x14_2) < (t236.length : Int) := od_; obtain ⟨ad245, e245, hx245_0⟩ := Kd.at_int (Kd.R_reads' HO_10.out).2.2 (rd t239 x14_2) p245 q245; cases e245; replace p245 := eq_true p245; replace q245 := eq_true q245; have p246 : 0 ≤ (x11_1 : Int) := od_; have q246 : x11_1 < (t236.length : Int) := od_; obtain ⟨ad246, e246, hx246_0⟩ := Kd.at_int (Kd.R_reads' HO_10.out).2.2 x11_1 p246 q246; obtain rfl : ad245 = ad246 := (by injection e246); replace p246 := eq_true p246; replace q246 := eq_true q246))
            repeat (go_quiet (first | (go_at_call 110; (with_reducible refine (spec_l1In.calls (rd t239 x14_2) 0 ji24 true _ A25.out).mono ?_); rintro e w' ⟨rfl, ⟨nd, rfl⟩⟩; (try first | exact ⟨rfl, _, World.drewN_drewN _ _ _⟩ | exact ⟨rfl, _, Eq.trans (World.drewN_drewN _ _ _) (congrArg (World.drewN _) (Nat.add_assoc _ _ _))⟩); have p245 : 0 ≤ ((rd t239 x14_2) : Int) := od_; have q245 : (rd t239 x14_2) < (t236.length : Int) := od_; obtain ⟨ad245, e245, hx245_0⟩ := Kd.at_int (Kd.R_reads' HO_10.out).2.2 (rd t239 x14_2) p245 q245; cases e245; replace p245 := eq_true p245; replace q245 := eq_true q245; have p246 : 0 ≤ (x11_1 : Int) := od_; have q246 : x11_1 < (t236.length : Int) := od_; obtain ⟨ad246, e246, hx246_0⟩ := Kd.at_int (Kd.R_reads' HO_10.out).2.2 x11_1 p246 q246; obtain rfl : ad245 = ad246 := (by injection e246); replace p246 := eq_true p246; replace q246 := eq_true q246)); try go_wp2_with (first | (go_at_call 110; (with_reducible refine (spec_l1In.calls (rd t239 x14_2) 0 ji24 true _ A25.out).mono ?_); rintro e w' ⟨rfl, ⟨nd, rfl⟩⟩; (try first | exact ⟨rfl, _, World.drewN_drewN _ _ _⟩ | exact ⟨rfl, _, Eq.trans (World.drewN_drewN _ _ _) (congrArg (World.drewN _) (Nat.add_assoc _ _ _))⟩); have p245 : 0 ≤ ((rd t239 x14_2) : Int) := od_; have q245 : (rd t239 x14_2) < (t236.length : Int) := od_; obtain ⟨ad245, e245, hx245_0⟩ := Kd.at_int (Kd.R_reads' HO_10.out).2.2 (rd t239 x14_2) p245 q245; cases e245; replace p245 := eq_true p245; replace q245 := eq_true q245; have p246 : 0 ≤ (x11_1 : Int) := od_; have q246 : x11_1 < (t236.length : Int) := od_; obtain ⟨ad246, e246, hx246_0⟩ := Kd.at_int (Kd.R_reads' HO_10.out).2.2 x11_1 p246 q246; obtain rfl : ad245 = ad246 := (by injection e246); replace p246 := eq_true p246; replace q246 := eq_true q246)))
            go_roundg kj12
            case measure => have := HK1.out; have := HK2.out; have := HJ12.out; omega
            case rel => exact ⟨(rd t239 x14_2), (wrap64 (x14_2 + 1)), (by first | rfl | (simp; done) | (simp [*]; done)), (by first | rfl | (simp; done) | (simp [*]; done)), H', ⟨by have := HK1.out; have := HK2.out; have := HJ12.out; omega⟩, ⟨ra_ HO_9⟩, ⟨ra_ HO_10⟩, ⟨ra_ HO_13⟩, ⟨bl_ HB⟩⟩
           ·rw [if_neg c32] at H
            obtain ⟨c32b0, c32b1⟩ := bn_ c32
            have c32b2 : ((rd t236 (rd t239 x14_2)) == Go.IntKind.i64.wrap ((rd t236 x11_1) - 1)) = false := (by simp only [i64_w]; exact c32b0)
            have c32b3 : ((rd t236 (rd t239 x14_2)) != Go.IntKind.i64.wrap ((rd t236 x11_1) - 1)) = true := (by simp only [i64_w]; exact c32b1)
            have H' := Aside0.mk H
            clear H
            obtain ⟨Ao34, co34, eo34⟩ := Kd.R_slice HO_13.out
            subst eo34
            have p243 : 0 ≤ (x14_2 : Int) := od_
            have q243 : x14_2 < (t239.length : Int) := od_
            obtain ⟨ad243, e243, hx243_0⟩ := Kd.at_int (Kd.R_reads' HO_13.out).2.2 x14_2 p243 q243
            cases e243
            replace p243 := eq_true p243
            replace q243 := eq_true q243
            go_wp2_with (first | (go_at_call 110; (with_reducible refine (spec_l1In.calls (rd t239 x14_2) 0 ji24 true _ A25.out).mono ?_); rintro e w' ⟨rfl, ⟨nd, rfl⟩⟩; (try first | exact ⟨rfl, _, World.drewN_drewN _ _ _⟩ | exact ⟨rfl, _, Eq.trans (World.drewN_drewN _ _ _) (congrArg (World.drewN _) (Nat.add_assoc _ _ _))⟩); have p245 : 0 ≤ ((rd t239 x14_2) : Int) := od_; have q245 : (rd t239 x14_2) < (t236.length : Int) := od_; obtain ⟨ad245, e245, hx245_0⟩ := Kd.at_int (Kd.R_reads' HO_10.out).2.2 (rd t239 x14_2) p245 q245; cases e245; replace p245 := eq_true p245; replace q245 := eq_true q245; have p246 : 0 ≤ (x11_1 : Int) := od_; have q246 : x11_1 < (t236.length : Int) := od_; obtain ⟨ad246, e246, hx246_0⟩ := Kd.at_int (Kd.R_reads' HO_10.out).2.2 x11_1 p246 q246; obtain rfl : ad245 = ad246 := (by injection e246); replace p246 := eq_true p246; replace q246 := eq_true q246))
            repeat (go_quiet (first | (go_at_call 110; (with_reducible refine (spec_l1In.calls (rd t239 x14_2) 0 ji24 true _ A25.out).mono ?_); rintro e w' ⟨rfl, ⟨nd, rfl⟩⟩; (try first | exact ⟨rfl, _, World.drewN_drewN _ _ _⟩ | exact ⟨rfl, _, Eq.trans (World.drewN_drewN _ _ _) (congrArg (World.drewN _) (Nat.add_assoc _ _ _))⟩); have p245 : 0 ≤ ((rd t239 x14_2) : Int) := od_; have q245 : (rd t239 x14_2) < (t236.length : Int) := od_; obtain ⟨ad245, e245, hx245_0⟩ := Kd.at_int (Kd.R_reads' HO_10.out).2.2 (rd t239 x14_2) p245 q245; cases e245; replace p245 := eq_true p245; replace q245 := eq_true q245; have p246 : 0 ≤ (x11_1 : Int) := od_; have q246 : x11_1 < (t236.length : Int) := od_; obtain ⟨ad246, e246, hx246_0⟩ := Kd.at_int (Kd.R_reads' HO_10.out).2.2 x11_1 p246 q246; obtain rfl : ad245 = ad246 := (by injection e246); replace p246 := eq_true p246; replace q246 := eq_true q246)); try go_wp2_with (first | (go_at_call 110; (with_reducible refine (spec_l1In.calls (rd t239 x14_2) 0 ji24 true _ A25.out).mono ?_); rintro e w' ⟨rfl, ⟨nd, rfl⟩⟩; (try first | exact ⟨rfl, _, World.drewN_drewN _ _ _⟩ | exact ⟨rfl, _, Eq.trans (World.drewN_drewN _ _ _) (congrArg (World.drewN _) (Nat.add_assoc _ _ _))⟩); have p245 : 0 ≤ ((rd t239 x14_2) : Int) := od_; have q245 : (rd t239 x14_2) < (t236.length : Int) := od_; obtain ⟨ad245, e245, hx245_0⟩ := Kd.at_int (Kd.R_reads' HO_10.out).2.2 (rd t239 x14_2) p245 q245; cases e245; replace p245 := eq_true p245; replace q245 := eq_true q245; have p246 : 0 ≤ (x11_1 : Int) := od_; have q246 : x11_1 < (t236.length : Int) := od_; obtain ⟨ad246, e246, hx246_0⟩ := Kd.at_int (Kd.R_reads' HO_10.out).2.2 x11_1 p246 q246; obtain rfl : ad245 = ad246 := (by injection e246); replace p246 := eq_true p246; replace q246 := eq_true q246)))
            go_roundg kj12
            case measure => have := HK1.out; have := HK2.out; have := HJ12.out; omega
            case rel => exact ⟨(x12_2), (wrap64 (x14_2 + 1)), (by first | rfl | (simp; done) | (simp [*]; done)), (by first | rfl | (simp; done) | (simp [*]; done)), H', ⟨by have := HK1.out; have := HK2.out; have := HJ12.out; omega⟩, ⟨ra_ HO_9⟩, ⟨ra_ HO_10⟩, ⟨ra_ HO_13⟩, ⟨bl_ HB⟩⟩
          ·rw [if_neg c27] at H
           have c27b0 : decide ((rd t239 x14_2) < a2) = false := decide_eq_false c27
           clear c27
           by_cases c35 : (rd t239 x14_2) = a3
           ·rw [if_pos c35] at H
            obtain ⟨c35b0, c35b1⟩ := bt_ c35
            clear c35
            replace H := ifn_ H
            obtain ⟨c36, H⟩ := H
            have c36b0 := decide_eq_true c36
            clear c36
            replace H := ifn_ H
            obtain ⟨c37, H⟩ := H
            have c37b0 := decide_eq_true c37
            clear c37
            replace H := ifn_ H
            obtain ⟨c38, H⟩ := H
            have c38b0 := decide_eq_true c38
            clear c38
            replace H := ifn_ H
            obtain ⟨c39, H⟩ := H
            have c39b0 := decide_eq_true c39
            clear c39
            by_cases c40 : (rd t236 (rd t239 x14_2)) = (wrap64 ((rd t236 x11_1) - 1))
            ·rw [if_pos c40] at H
             obtain ⟨c40b0, c40b1⟩ := bt_ c40
             have c40b2 : ((rd t236 (rd t239 x14_2)) == Go.IntKind.i64.wrap ((rd t236 x11_1) - 1)) = true := (by simp only [i64_w]; exact c40b0)
             have c40b3 : ((rd t236 (rd t239 x14_2)) != Go.IntKind.i64.wrap ((rd t236 x11_1) - 1)) = false := (by simp only [i64_w]; exact c40b1)
             clear c40
             have H' := Aside0.mk H
             clear H
             obtain ⟨Ao41, co41, eo41⟩ := Kd.R_slice HO_13.out
             subst eo41
             have p243 : 0 ≤ (x14_2 : Int) := od_
             have q243 : x14_2 < (t239.length : Int) := od_
             obtain ⟨ad243, e243, hx243_0⟩ := Kd.at_int (Kd.R_reads' HO_13.out).2.2 x14_2 p243 q243
             cases e243
             replace p243 := eq_true p243
             replace q243 := eq_true q243
             go_wp2_with (first | (go_at_call 110; (with_reducible refine (spec_l1In.calls (rd t239 x14_2) 0 ji24 true _ A25.out).mono ?_); rintro e w' ⟨rfl, ⟨nd, rfl⟩⟩; (try first | exact ⟨rfl, _, World.drewN_drewN _ _ _⟩ | exact ⟨rfl, _, Eq.trans (World.drewN_drewN _ _ _) (congrArg (World.drewN _) (Nat.add_assoc _ _ _))⟩); have p247 : 0 ≤ ((rd t239 x14_2) : Int) := od_; have q247 : (rd t239 x14_2) < (t236.length : Int) := od_; obtain ⟨ad247, e247, hx247_0⟩ := Kd.at_int (Kd.R_reads' HO_10.out).2.2 (rd t239 x14_2) p247 q247; cases e247; replace p247 := eq_true p247; replace q247 := eq_true q247; have p248 : 0 ≤ (x11_1 : Int) := od_; have q248 : x11_1 < (t236.length : Int) := od_; obtain ⟨ad248, e248, hx248_0⟩ := Kd.at_int (Kd.R_reads' HO_10.out).2.2 x11_1 p248 q248; obtain rfl : ad247 = ad248 := (by injection e248); replace p248 := eq_true p248; replace q248 := eq_true q248))
             repeat (go_quiet (first | (go_at_call 110; (with_reducible refine (spec_l1In.calls (rd t239 x14_2) 0 ji24 true _ A25.out).mono ?_); rintro e w' ⟨rfl, ⟨nd, rfl⟩⟩; (try first | exact ⟨rfl, _, World.drewN_drewN _ _ _⟩ | exact ⟨rfl, _, Eq.trans (World.drewN_drewN _ _ _) (congrArg (World.drewN _) (Nat.add_assoc _ _ _))⟩); have p247 : 0 ≤ ((rd t239 x14_2) : Int) := od_; have q247 : (rd t239 x14_2) < (t236.length : Int) := od_; obtain ⟨ad247, e247, hx247_0⟩ := Kd.at_int (Kd.R_reads' HO_10.out).2.2 (rd t239 x14_2) p247 q247; cases e247; replace p247 := eq_true p247; replace q247 := eq_true q247; have p248 : 0 ≤ (x11_1 : Int) := od_; have q248 : x11_1 < (t236.length : Int) := od_; obtain ⟨ad248, e248, hx248_0⟩ := Kd.at_int (Kd.R_reads' HO_10.out).2.2 x11_1 p248 q248; obtain rfl : ad247 = ad248 := (by injection e248); replace p248 := eq_true p248; replace q248 := eq_true q248)); try go_wp2_with (first | (go_at_call 110; (with_reducible refine (spec_l1In.calls (rd t239 x14_2) 0 ji24 true _ A25.out).mono ?_); rintro e w' ⟨rfl, ⟨nd, rfl⟩⟩; (try first | exact ⟨rfl, _, World.drewN_drewN _ _ _⟩ | exact ⟨rfl, _, Eq.trans (World.drewN_drewN _ _ _) (congrArg (World.drewN _) (Nat.add_assoc _ _ _))⟩); have p247 : 0 ≤ ((rd t239 x14_2) : Int) := od_; have q247 : (rd t239 x14_2) < (t236.length : Int) := od_; obtain ⟨ad247, e247, hx247_0⟩ := Kd.at_int (Kd.R_reads' HO_10.out).2.2 (rd t239 x14_2) p247 q247; cases e247; replace p247 := eq_true p247; replace q247 := eq_true q247; have p248 : 0 ≤ (x11_1 : Int) := od_; have q248 : x11_1 < (t236.length : Int) := od_; obtain ⟨ad248, e248, hx248_0⟩ := Kd.at_int (Kd.R_reads' HO_10.out).2.2 x11_1 p248 q248; obtain rfl : ad247 = ad248 := (by injection e248); replace p248 := eq_true p248; replace q248 := eq_true q248)))
             go_roundg kj12
             case measure => have := HK1.out; have := HK2.out; have := HJ12.out; omega
             case rel => exact ⟨(rd t239 x14_2), (wrap64 (x14_2 + 1)), (by first | rfl | (simp; done) | (simp [*]; done)), (by first | rfl | (simp; done) | (simp [*]; done)), H', ⟨by have := HK1.out; have := HK2.out; have := HJ12.out; omega⟩, ⟨ra_ HO_9⟩, ⟨ra_ HO_10⟩, ⟨ra_ HO_13⟩, ⟨bl_ HB⟩⟩
            ·rw [if_neg c40] at H
             obtain ⟨c40b0, c40b1⟩ := bn_ c40
             have c40b2 : ((rd t236 (rd t239 x14_2)) == Go.IntKind.i64.wrap ((rd t236 x11_1) - 1)) = false := (by simp only [i64_w]; exact c40b0)
             have c40b3 : ((rd t236 (rd t239 x14_2)) != Go.IntKind.i64.wrap ((rd t236 x11_1) - 1)) = true := (by simp only [i64_w]; exact c40b1)
             have H' := Aside0.mk H
             clear H
             obtain ⟨Ao42, co42, eo42⟩ := Kd.R_slice HO_13.out
             subst eo42
             have p243 : 0 ≤ (x14_2 : Int) := od_
             have q243 : x14_2 < (t239.length : Int) := od_
             obtain ⟨ad243, e243, hx243_0⟩ := Kd.at_int (Kd.R_reads' HO_13.out).2.2 x14_2 p243 q243
             cases e243
             replace p243 := eq_true p243
             replace q243 := eq_true q243
             go_wp2_with (first | (go_at_call 110; (with_reducible refine (spec_l1In.calls (rd t239 x14_2) 0 ji24 true _ A25.out).mono ?_); rintro e w' ⟨rfl, ⟨nd, rfl⟩⟩; (try first | exact ⟨rfl, _, World.drewN_drewN _ _ _⟩ | exact ⟨rfl, _, Eq.trans (World.drewN_drewN _ _ _) (congrArg (World.drewN _) (Nat.add_assoc _ _ _))⟩); have p247 : 0 ≤ ((rd t239 x14_2) : Int) := od_; have q247 : (rd t239 x14_2) < (t236.length : Int) := od_; obtain ⟨ad247, e247, hx247_0⟩ := Kd.at_int (Kd.R_reads' HO_10.out).2.2 (rd t239 x14_2) p247 q247; cases e247; replace p247 := eq_true p247; replace q247 := eq_true q247; have p248 : 0 ≤ (x11_1 : Int) := od_; have q248 : x11_1 < (t236.length : Int) := od_; obtain ⟨ad248, e248, hx248_0⟩ := Kd.at_int (Kd.R_reads' HO_10.out).2.2 x11_1 p248 q248; obtain rfl : ad247 = ad248 := (by injection e248); replace p248 := eq_true p248; replace q248 := eq_true q248))
             repeat (go_quiet (first | (go_at_call 110; (with_reducible refine (spec_l1In.calls (rd t239 x14_2) 0 ji24 true _ A25.out).mono ?_); rintro e w' ⟨rfl, ⟨nd, rfl⟩⟩; (try first | exact ⟨rfl, _, World.drewN_drewN _ _ _⟩ | exact ⟨rfl, _, Eq.trans (World.drewN_drewN _ _ _) (congrArg (World.drewN _) (Nat.add_assoc _ _ _))⟩); have p247 : 0 ≤ ((rd t239 x14_2) : Int) := od_; have q247 : (rd t239 x14_2) < (t236.length : Int) := od_; obtain ⟨ad247, e247, hx247_0⟩ := Kd.at_int (Kd.R_reads' HO_10.out).2.2 (rd t239 x14_2) p247 q247; cases e247; replace p247 := eq_true p247; replace q247 := eq_true q247; have p248 : 0 ≤ (x11_1 : Int) := od_; have q248 : x11_1 < (t236.length : Int) := od_; obtain ⟨ad248, e248, hx248_0⟩ := Kd.at_int (Kd.R_reads' HO_10.out).2.2 x11_1 p248 q248; obtain rfl : ad247 = ad248 := (by injection e248); replace p248 := eq_true p248; replace q248 := eq_true q248)); try go_wp2_with (first | (go_at_call 110; (with_reducible refine (spec_l1In.calls (rd t239 x14_2) 0 ji24 true _ A25.out).mono ?_); rintro e w' ⟨rfl, ⟨nd, rfl⟩⟩; (try first | exact ⟨rfl, _, World.drewN_drewN _ _ _⟩ | exact ⟨rfl, _, Eq.trans (World.drewN_drewN _ _ _) (congrArg (World.drewN _) (Nat.add_assoc _ _ _))⟩); have p247 : 0 ≤ ((rd t239 x14_2) : Int) := od_; have q247 : (rd t239 x14_2) < (t236.length : Int) := od_; obtain ⟨ad247, e247, hx247_0⟩ := Kd.at_int (Kd.R_reads' HO_10.out).2.2 (rd t239 x14_2) p247 q247; cases e247; replace p247 := eq_true p247; replace q247 := eq_true q247; have p248 : 0 ≤ (x11_1 : Int) := od_; have q248 : x11_1 < (t236.length : Int) := od_; obtain ⟨ad248, e248, hx248_0⟩ := Kd.at_int (Kd.R_reads' HO_10.out).2.2 x11_1 p248 q248; obtain rfl : ad247 = ad248 := (by injection e248); replace p248 := eq_true p248; replace q248 := eq_true q248)))
             go_roundg kj12
             case measure => have := HK1.out; have := HK2.out; have := HJ12.out; omega
             case rel => exact ⟨(x12_2), (wrap64 (x14_2 + 1)), (by first | rfl | (simp; done) | (simp [*]; done)), (by first | rfl | (simp; done) | (simp [*]; done)), H', ⟨by have := HK1.out; have := HK2.out; have := HJ12.out; omega⟩, ⟨ra_ HO_9⟩, ⟨ra_ HO_10⟩, ⟨ra_ HO_13⟩, ⟨bl_ HB⟩⟩
           ·rw [if_neg c35] at H
            obtain ⟨c35b0, c35b1⟩ := bn_ c35
            have H' := Aside0.mk H
            clear H
            obtain ⟨Ao43, co43, eo43⟩ := Kd.R_slice HO_13.out
            subst eo43
            have p243 : 0 ≤ (x14_2 : Int) := od_
            have q243 : x14_2 < (t239.length : Int) := od_
            obtain ⟨ad243, e243, hx243_0⟩ := Kd.at_int (Kd.R_reads' HO_13.out).2.2 x14_2 p243 q243
            cases e243
            replace p243 := eq_true p243
            replace q243 := eq_true q243
            go_wp2_with (first | (go_at_call 110; (with_reducible refine (spec_l1In.calls (rd t239 x14_2) 0 ji24 true _ A25.out).mono ?_); rintro e w' ⟨rfl, ⟨nd, rfl⟩⟩; (try first | exact ⟨rfl, _, World.drewN_drewN _ _ _⟩ | exact ⟨rfl, _, Eq.trans (World.drewN_drewN _ _ _) (congrArg (World.drewN _) (Nat.add_assoc _ _ _))⟩)))
            repeat (go_quiet (first | (go_at_call 110; (with_reducible refine (spec_l1In.calls (rd t239 x14_2) 0 ji24 true _ A25.out).mono ?_); rintro e w' ⟨rfl, ⟨nd, rfl⟩⟩; (try first | exact ⟨rfl, _, World.drewN_drewN _ _ _⟩ | exact ⟨rfl, _, Eq.trans (World.drewN_drewN _ _ _) (congrArg (World.drewN _) (Nat.add_assoc _ _ _))⟩))); try go_wp2_with (first | (go_at_call 110; (with_reducible refine (spec_l1In.calls (rd t239 x14_2) 0 ji24 true _ A25.out).mono ?_); rintro e w' ⟨rfl, ⟨nd, rfl⟩⟩; (try first | exact ⟨rfl, _, World.drewN_drewN _ _ _⟩ | exact ⟨rfl, _, Eq.trans (World.drewN_drewN _ _ _) (congrArg (World.drewN _) (Nat.add_assoc _ _ _))⟩))))
            go_roundg kj12
            case measure => have := HK1.out; have := HK2.out; have := HJ12.out; omega
            case rel => exact ⟨(x12_2), (wrap64 (x14_2 + 1)), (by first | rfl | (simp; done) | (simp [*]; done)), (by first | rfl | (simp; done) | (simp [*]; done)), H', ⟨by have := HK1.out; have := HK2.out; have := HJ12.out; omega⟩, ⟨ra_ HO_9⟩, ⟨ra_ HO_10⟩, ⟨ra_ HO_13⟩, ⟨bl_ HB⟩⟩
         ·replace c26 := Bool.eq_false_iff.mpr c26
          subst c26
          have H1 : (spec_NextTo.l1 kj12 l0 a1 a2 a3 x9_1 t236 x11_1 x12_2 t239 (wrap64 (x14_2 + 1))) = some r := by rw [if_neg (show ¬ (false = true) by decide)] at H; exact H
          clear H
          have H := H1
          clear H1
          have H' := Aside0.mk H
          clear H
          obtain ⟨Ao44, co44, eo44⟩ := Kd.R_slice HO_13.out
          subst eo44
          have p243 : 0 ≤ (x14_2 : Int) := od_
          have q243 : x14_2 < (t239.length : Int) := od_
          obtain ⟨ad243, e243, hx243_0⟩ := Kd.at_int (Kd.R_reads' HO_13.out).2.2 x14_2 p243 q243
          cases e243
          replace p243 := eq_true p243
          replace q243 := eq_true q243
          go_wp2_with (first | (go_at_call 110; (with_reducible refine (spec_l1In.calls (rd t239 x14_2) 0 ji24 false _ A25.out).mono ?_); rintro e w' ⟨rfl, ⟨nd, rfl⟩⟩; (try first | exact ⟨rfl, _, World.drewN_drewN _ _ _⟩ | exact ⟨rfl, _, Eq.trans (World.drewN_drewN _ _ _) (congrArg (World.drewN _) (Nat.add_assoc _ _ _))⟩)))
          repeat (go_quiet (first | (go_at_call 110; (with_reducible refine (spec_l1In.calls (rd t239 x14_2) 0 ji24 false _ A25.out).mono ?_); rintro e w' ⟨rfl, ⟨nd, rfl⟩⟩; (try first | exact ⟨rfl, _, World.drewN_drewN _ _ _⟩ | exact ⟨rfl, _, Eq.trans (World.drewN_drewN _ _ _) (congrArg (World.drewN _) (Nat.add_assoc _ _ _))⟩))); try go_wp2_with (first | (go_at_call 110; (with_reducible refine (spec_l1In.calls (rd t239 x14_2) 0 ji24 false _ A25.out).mono ?_); rintro e w' ⟨rfl, ⟨nd, rfl⟩⟩; (try first | exact ⟨rfl, _, World.drewN_drewN _ _ _⟩ | exact ⟨rfl, _, Eq.trans (World.drewN_drewN _ _ _) (congrArg (World.drewN _) (Nat.add_assoc _ _ _))⟩))))
          go_roundg kj12
          case measure => have := HK1.out; have := HK2.out; have := HJ12.out; omega
          case rel => exact ⟨(x12_2), (wrap64 (x14_2 + 1)), (by first | rfl | (simp; done) | (simp [*]; done)), (by first | rfl | (simp; done) | (simp [*]; done)), H', ⟨by have := HK1.out; have := HK2.out; have := HJ12.out; omega⟩, ⟨ra_ HO_9⟩, ⟨ra_ HO_10⟩, ⟨ra_ HO_13⟩, ⟨bl_ HB⟩⟩
        ·replace c21 := Bool.eq_false_iff.mpr c21
         subst c21
         have H1 : (if x9_1.length < 17592186044416 then (spec_NextTo.l0 kj12 l0 a1 a2 a3 (x9_1 ++ [x12_2]) t236 (wrap64 (x11_1 + 1))) else (none)) = some r := by rw [if_neg (show ¬ (false = true) by decide)] at H; exact H
         clear H
         have H := H1
         clear H1
         replace H := ifn_ H
         obtain ⟨c45, H⟩ := H
         have LMc45 := Aside0.mk c45
         clear c45
         replace H : ∃ y_ : List Int, Aside0 (y_ = (x9_1 ++ [x12_2])) ∧ (spec_NextTo.l0 kj12 l0 a1 a2 a3 y_ t236 (wrap64 (x11_1 + 1))) = some r := ⟨_, ⟨rfl⟩, yh_ H⟩
         obtain ⟨y249, Ny249, H⟩ := H
         have H' := Aside0.mk H
         clear H
         go_wp2_with (first | ((with_reducible refine gate_builtin (b := .append) (xs := #[.tmp 79, .tmp 81]) rfl ?_); at_builtin; refine Kd.R_append (Kd.int .i64) (w0 := w) w.heap.size rfl (.tmp 79) (.tmp 81) 24 3 (.int .i64 0) 8 rfl Try.underlying24 info3 rfl (by decide) (by omega) u9 x9_1 x12_2 [.int .i64 x12_2] (fun k_ => some k_ ≠ (.slice Ao11 t236.length co11 : Value).ownBlock ∧ some k_ ≠ (v240 : Value).ownBlock) (fun _ => False) rfl rfl ?aP (fun _ hk => hk.elim) ?aF ?aO ?aB ?aS ?aL ?_; (case aP => exact rfl); (case aB => exact (bl_ HB)); (case aF => exact (fun k_ hk => ⟨Kd.fresh' (Kd.R_lt (ra_ HO_10)) k_ hk, Kd.fresh' (Kd.R_lt (ra_ HO_13)) k_ hk⟩)); (case aO => exact (ra_ HO_9)); (case aS => exact (below_size (bl_ HB))); (case aL => have := LMc45.out; omega); intro v250 w46 ho hb hg hat; rw [← Ny249.out] at ho; refine sh4_ (Kd.R_after (ok := (fun k_ => some k_ ≠ (v240 : Value).ownBlock)) (by (with_reducible repeat (first | apply Kd.R_alloc | apply Kd.R_drewN | apply Kd.R_drew)); exact Kd.R_mono HO_10.out (fun _ hk => ⟨hk.2, hk.1⟩)) hg hat) (Kd.R_after (ok := (fun k_ => some k_ ≠ (.slice Ao11 t236.length co11 : Value).ownBlock)) (by (with_reducible repeat (first | apply Kd.R_alloc | apply Kd.R_drewN | apply Kd.R_drew)); exact Kd.R_mono HO_13.out (fun _ hk => ⟨hk.2, hk.1⟩)) hg hat) hb ho ?_; clear HO_10 HO_13 HB HO_9 ho hb hg hat; intro HO_10 HO_13 HB HO251))
         repeat (go_quiet (first | ((with_reducible refine gate_builtin (b := .append) (xs := #[.tmp 79, .tmp 81]) rfl ?_); at_builtin; refine Kd.R_append (Kd.int .i64) (w0 := w) w.heap.size rfl (.tmp 79) (.tmp 81) 24 3 (.int .i64 0) 8 rfl Try.underlying24 info3 rfl (by decide) (by omega) u9 x9_1 x12_2 [.int .i64 x12_2] (fun k_ => some k_ ≠ (.slice Ao11 t236.length co11 : Value).ownBlock ∧ some k_ ≠ (v240 : Value).ownBlock) (fun _ => False) rfl rfl ?aP (fun _ hk => hk.elim) ?aF ?aO ?aB ?aS ?aL ?_; (case aP => exact rfl); (case aB => exact (bl_ HB)); (case aF => exact (fun k_ hk => ⟨Kd.fresh' (Kd.R_lt (ra_ HO_10)) k_ hk, Kd.fresh' (Kd.R_lt (ra_ HO_13)) k_ hk⟩)); (case aO => exact (ra_ HO_9)); (case aS => exact (below_size (bl_ HB))); (case aL => have := LMc45.out; omega); intro v250 w46 ho hb hg hat; rw [← Ny249.out] at ho; refine sh4_ (Kd.R_after (ok := (fun k_ => some k_ ≠ (v240 : Value).ownBlock)) (by (with_reducible repeat (first | apply Kd.R_alloc | apply Kd.R_drewN | apply Kd.R_drew)); exact Kd.R_mono HO_10.out (fun _ hk => ⟨hk.2, hk.1⟩)) hg hat) (Kd.R_after (ok := (fun k_ => some k_ ≠ (.slice Ao11 t236.length co11 : Value).ownBlock)) (by (with_reducible repeat (first | apply Kd.R_alloc | apply Kd.R_drewN | apply Kd.R_drew)); exact Kd.R_mono HO_13.out (fun _ hk => ⟨hk.2, hk.1⟩)) hg hat) hb ho ?_; clear HO_10 HO_13 HB HO_9 ho hb hg hat; intro HO_10 HO_13 HB HO251)); try go_wp2_with (first | ((with_reducible refine gate_builtin (b := .append) (xs := #[.tmp 79, .tmp 81]) rfl ?_); at_builtin; refine Kd.R_append (Kd.int .i64) (w0 := w) w.heap.size rfl (.tmp 79) (.tmp 81) 24 3 (.int .i64 0) 8 rfl Try.underlying24 info3 rfl (by decide) (by omega) u9 x9_1 x12_2 [.int .i64 x12_2] (fun k_ => some k_ ≠ (.slice Ao11 t236.length co11 : Value).ownBlock ∧ some k_ ≠ (v240 : Value).ownBlock) (fun _ => False) rfl rfl ?aP (fun _ hk => hk.elim) ?aF ?aO ?aB ?aS ?aL ?_; (case aP => exact rfl); (case aB => exact (bl_ HB)); (case aF => exact (fun k_ hk => ⟨Kd.fresh' (Kd.R_lt (ra_ HO_10)) k_ hk, Kd.fresh' (Kd.R_lt (ra_ HO_13)) k_ hk⟩)); (case aO => exact (ra_ HO_9)); (case aS => exact (below_size (bl_ HB))); (case aL => have := LMc45.out; omega); intro v250 w46 ho hb hg hat; rw [← Ny249.out] at ho; refine sh4_ (Kd.R_after (ok := (fun k_ => some k_ ≠ (v240 : Value).ownBlock)) (by (with_reducible repeat (first | apply Kd.R_alloc | apply Kd.R_drewN | apply Kd.R_drew)); exact Kd.R_mono HO_10.out (fun _ hk => ⟨hk.2, hk.1⟩)) hg hat) (Kd.R_after (ok := (fun k_ => some k_ ≠ (.slice Ao11 t236.length co11 : Value).ownBlock)) (by (with_reducible repeat (first | apply Kd.R_alloc | apply Kd.R_drewN | apply Kd.R_drew)); exact Kd.R_mono HO_13.out (fun _ hk => ⟨hk.2, hk.1⟩)) hg hat) hb ho ?_; clear HO_10 HO_13 HB HO_9 ho hb hg hat; intro HO_10 HO_13 HB HO251)))
         go_roundg kj12
         case measure => have := HK1.out; have := HK2.out; have := HJ12.out; omega
         case rel => exact ⟨(y249), (wrap64 (x11_1 + 1)), (by first | rfl | (simp; done) | (simp [*]; done)), H', ⟨by have := HK1.out; have := HK2.out; have := HJ12.out; omega⟩, ⟨by (with_reducible repeat (first | apply Kd.R_alloc | apply Kd.R_drewN | apply Kd.R_drew)); exact Kd.R_mono HO251.out (fun _ hk => hk.1)⟩, ⟨by (with_reducible repeat (first | apply Kd.R_alloc | apply Kd.R_drewN | apply Kd.R_drew)); exact Kd.R_mono HO_10.out (fun _ hk => hk.2)⟩, ⟨bl_ HB⟩⟩
   ·rw [if_neg c9] at H
    have c9b0 : decide (x11_1 < (t236.length : Int)) = false := decide_eq_false c9
    clear c9
    obtain rfl := Option.some.inj H
    obtain ⟨Ao47, co47, eo47⟩ := Kd.R_slice HO_10.out
    subst eo47
    go_wp2
    repeat (go_quiet (fail); try go_wp2)
    go_ret
    exact ⟨_, er_, by (with_reducible repeat (first | apply Kd.R_alloc | apply Kd.R_drewN | apply Kd.R_drew)); exact Kd.R_mono HO_9.out (fun _ hk => trivial), bl_ HB⟩

/-! ### spec_TableOf: function 67 -/
def spec_TableOf.f (k : Nat) (l0 : List (S103)) (a1 : Int) (a2 : Int) (a3 : Int) : Option (Int × List Int × List Int) := (spec_DistancesTo.f k l0 a1 a2 a3).bind fun t253 => ((spec_NextTo.f k l0 a1 a2 a3).bind fun t256 => (some (a3, t253, t256)))
theorem spec_TableOf.mono : ∀ a0 a1 a2 a3 k, LeO (spec_TableOf.f k a0 a1 a2 a3) (spec_TableOf.f (k + 1) a0 a1 a2 a3) := by
 intro a0 a1 a2 a3 k
 unfold spec_TableOf.f
 repeat' first | (with_reducible first | exact spec_DistancesTo.mono _ _ _ _ _ | exact spec_NextTo.mono _ _ _ _ _ | exact LeO.refl _ | exact LeO.none _ | refine LeO.ite ?_ ?_ | refine LeO.bind ?_ (fun _ => ?_)) | exact LeO.none _ | refine LeO.ite ?_ ?_ | refine LeO.bind ?_ (fun _ => ?_)
set_option maxHeartbeats 8000000 in
set_option maxRecDepth 100000 in
theorem spec_TableOf.calls (k : Nat) (A0 : Option Addr) (c0 : Nat) (l0 : List (S103)) (a1 : Int) (a2 : Int) (a3 : Int) (r1 : Int) (r2 : List Int) (r3 : List Int) (w : World) (hr0 : Kd.C k103 w A0 l0.length l0) (hc0 : l0.length ≤ c0) (h : spec_TableOf.f k l0 a1 a2 a3 = some (r1, r2, r3)) :
  Calls Try.prog 67 #[.slice A0 l0.length c0, .int .i64 a1, .int .i64 a2, .int .i64 a3] w fun e w' => ∃ v1_ v2_ : Value, e = .returned (.agg #[.int .i64 r1, v1_, v2_]) ∧ Kd.R (Kd.int .i64) 3 w' w.heap.size (fun k_ => some k_ ≠ (v2_ : Value).ownBlock) v1_ r2 ∧ Kd.R (Kd.int .i64) 3 w' w.heap.size (fun k_ => some k_ ≠ (v1_ : Value).ownBlock) v2_ r3 ∧ Below w.heap.size w w' := by
 have hu38 := Try.underlying38
 have HR0 := Aside0.mk hr0
 have HC0 := Aside0.mk hc0
 clear hr0 hc0
 have HB := Aside0.mk (Below.refl w.heap.size w)
 have H := h
 clear h
 unfold spec_TableOf.f at H
 replace H := bs_ H
 obtain ⟨t253, A5, H⟩ := H
 replace H := bs_ H
 obtain ⟨t256, A6, H⟩ := H
 simp only [Option.some.injEq, Prod.mk.injEq] at H
 obtain ⟨rfl, rfl, rfl⟩ := H
 go_enter Try.func67, Try.ntmps67
 go_wp2_with (first | ((with_reducible refine gd_ 8 ?_); refine bx_ 8 38 #[.int .i64 0, .slice none 0 0, .slice none 0 0] ?_; intro gb252 hg w7 hbox hb; refine sh4_ (below_step (bl_ HB) hb) hbox (ge_ hg (bl_ HB)) (ge_ hg (bl_ HB)) ?_; clear HB hb hbox hg; intro HB BK252 GW252 GE252) | ((with_reducible refine gate_callee (f := 58) rfl ?_); refine gl_ 14 Try.func58 (spec_DistancesTo.calls k _ _ l0 a1 a2 a3 t253 _ (ck_ HR0 HB) HC0.out A5.out) ?_; rintro e w8 ⟨v254, rfl, ho0, hb⟩; refine ⟨_, rfl, sh3_ (Kd.R_lower ho0 (below_size (bl1_ HB GE252))) (blk_below (bk_ BK252) hb) (below_step (bl1_ HB GE252) hb) ?_⟩; clear BK252 HB hb ho0; intro HO255 BK252 HB) | ((with_reducible refine gate_callee (f := 65) rfl ?_); refine gl_ 19 Try.func65 (spec_NextTo.calls k _ _ l0 a1 a2 a3 t256 _ (ck_ HR0 HB) HC0.out A6.out) ?_; rintro e w9 ⟨v257, rfl, ho0, hb⟩; refine ⟨_, rfl, sh4_ (Kd.R_elder' (ra_ HO255) (Kd.R_base ho0) hb) (Kd.R_lower (Kd.R_new' ho0 (Kd.R_lt (ra_ HO255))) (below_size (bl1_ HB GE252))) (blk_below (bk_ BK252) hb) (below_step (bl1_ HB GE252) hb) ?_⟩; clear HO255 BK252 HB hb ho0; intro HO255 HO258 BK252 HB; obtain ⟨Ao10, co10, eo10⟩ := Kd.R_slice HO258.out; subst eo10; obtain ⟨Ao11, co11, eo11⟩ := Kd.R_slice HO255.out; subst eo11; have hcz12 := cf3_ BK252))
 refine bodyPost_ret (results_cell_row rfl _ _ gb252 38 #[.int .i64 a3, .slice Ao11 t253.length co11, .slice Ao10 t256.length co10] (0, 0) _ rfl (by (with_reducible repeat (first | refine blk_drewN ?_ _ | refine blk_drew ?_ | refine blk_alloc ?_ _)); refine blk_put (cs := #[.int .i64 a3, .slice Ao11 t253.length co11, .slice none 0 0]) ?_ 2 _ rfl; (with_reducible repeat (first | refine blk_drewN ?_ _ | refine blk_drew ?_ | refine blk_alloc ?_ _)); refine blk_put (cs := #[.int .i64 a3, .slice none 0 0, .slice none 0 0]) ?_ 1 _ rfl; (with_reducible repeat (first | refine blk_drewN ?_ _ | refine blk_drew ?_ | refine blk_alloc ?_ _)); refine blk_put (cs := #[.int .i64 0, .slice none 0 0, .slice none 0 0]) ?_ 0 _ rfl; (with_reducible repeat (first | refine blk_drewN ?_ _ | refine blk_drew ?_ | refine blk_alloc ?_ _)); exact BK252.out) Try.underlying38 rfl (by kernel_rfl)) rfl ?_
 exact ⟨_, _, er_, by (with_reducible repeat (first | apply Kd.R_alloc | apply Kd.R_drewN | apply Kd.R_drew)); exact Kd.R_mono (Kd.R_far (p := ⟨gb252, 2, none⟩) (Kd.R_far (p := ⟨gb252, 1, none⟩) (Kd.R_far (p := ⟨gb252, 0, none⟩) (Kd.R_types HO255.out BK252.out (by decide)) (fun _ hk => hk.2) (.int .i64 a3)) (fun _ hk => hk.2) (.slice Ao11 t253.length co11)) (fun _ hk => hk.2) (.slice Ao10 t256.length co10)) (fun _ hk => hk.1.2), by (with_reducible repeat (first | apply Kd.R_alloc | apply Kd.R_drewN | apply Kd.R_drew)); exact Kd.R_mono (Kd.R_far (p := ⟨gb252, 2, none⟩) (Kd.R_far (p := ⟨gb252, 1, none⟩) (Kd.R_far (p := ⟨gb252, 0, none⟩) (Kd.R_types HO258.out BK252.out (by decide)) (fun _ hk => hk.2) (.int .i64 a3)) (fun _ hk => hk.2) (.slice Ao11 t253.length co11)) (fun _ hk => hk.2) (.slice Ao10 t256.length co10)) (fun _ hk => hk.1.2), bl1_ HB GE252⟩

end Go.Proofs.Ytlljhblilicnfaa.PFnExactTableOf
