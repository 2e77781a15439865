-- Written by a program of this session for this claim (the kit's printer with changes).
import Derived.Test.YtlljhblilicnfaaQFnExactDistancesTox0
import Derived.Test.YtlljhblilicnfaaQFnExactDistancesTox1
import Derived.Test.YtlljhblilicnfaaQFnExactDistancesTox3
namespace Go.Proofs.Ytlljhblilicnfaa.PFnExactDistancesTo
open Go.RowKit Go.Proofs.YtlljhblilicnfaaW.PrintWords Go.Proofs.YtlljhblilicnfaaW.PrintLast Go.Proofs.YtlljhblilicnfaaW.PrintMore
attribute [local go_sem] max2_int min2_int max_two min_two max_three min_three max_four min_four   -- for this text's walks alone
set_option linter.unusedVariables false
set_option linter.unusedSimpArgs false

/-! ### impl_DistancesTo: function 59 -/
mutual
def impl_DistancesTo.j0 : Nat → List (S103) → Int → Int → Int → List Int → Bool → Option (List Int)
 | 0, _, _, _, _, _, _ => none
 | k + 1, x0, x1, x2, x3, x9, x23 => if x23 = true then (some x9) else (impl_DistancesTo.l0 k x0 x1 x2 x3 x9 x1 0)
def impl_DistancesTo.l0 : Nat → List (S103) → Int → Int → Int → List Int → Int → Int → Option (List Int)
 | 0, _, _, _, _, _, _, _ => none
 | k + 1, x0, x1, x2, x3, x9, x25, x26 => if x26 < x25 then (if x9.length < 17592186044416 then (impl_DistancesTo.l0 k x0 x1 x2 x3 (x9 ++ [(-1)]) x25 (wrap64 (x26 + 1))) else (none)) else (if 0 ≤ x3 then (if x3 < (x9.length : Int) then (impl_DistancesTo.l1 k x0 x1 x2 x3 (x9.set (x3 : Int).toNat 0) (([x3] : List Int))) else (none)) else (none))
def impl_DistancesTo.l1 : Nat → List (S103) → Int → Int → Int → List Int → List Int → Option (List Int)
 | 0, _, _, _, _, _, _ => none
 | k + 1, x0, x1, x2, x3, x9, x10 => if (x10.length : Int) > 0 then (if 0 < (x10.length : Int) then (if (rd x10 0) = x3 then (impl_DistancesTo.j3 k x0 x1 x2 x3 x9 x10 (rd x10 0) false) else (impl_DistancesTo.j3 k x0 x1 x2 x3 x9 x10 (rd x10 0) (decide ((rd x10 0) ≥ x2)))) else (none)) else (some x9)
def impl_DistancesTo.j3 : Nat → List (S103) → Int → Int → Int → List Int → List Int → Int → Bool → Option (List Int)
 | 0, _, _, _, _, _, _, _, _ => none
 | k + 1, x0, x1, x2, x3, x9, x10, x11, x52 => if x52 = true then (if 1 ≤ (x10.length : Int) then (impl_DistancesTo.l1 k x0 x1 x2 x3 x9 (x10.drop (1 : Int).toNat)) else (none)) else ((impl_NeighborsIn.f k x0 x11).bind fun t265 => (impl_DistancesTo.l2 k x0 x1 x2 x3 x9 x10 x11 t265 (t265.length : Int) 0))
def impl_DistancesTo.l2 : Nat → List (S103) → Int → Int → Int → List Int → List Int → Int → List Int → Int → Int → Option (List Int)
 | 0, _, _, _, _, _, _, _, _, _, _ => none
 | k + 1, x0, x1, x2, x3, x9, x10, x11, x55, x56, x57 => if x57 < x56 then (if 0 ≤ x57 then (if x57 < (x55.length : Int) then ((impl_isIndex.f (rd x55 x57) x1).bind fun t269 => (if t269 = true then (if 0 ≤ (rd x55 x57) then (if (rd x55 x57) < (x9.length : Int) then (if (rd x9 (rd x55 x57)) < 0 then (if 0 ≤ x11 then (if x11 < (x9.length : Int) then (if x10.length < 17592186044416 then (impl_DistancesTo.l2 k x0 x1 x2 x3 (x9.set ((rd x55 x57) : Int).toNat (wrap64 ((rd x9 x11) + 1))) (x10 ++ [rd x55 x57]) x11 x55 x56 (wrap64 (x57 + 1))) else (none)) else (none)) else (none)) else (impl_DistancesTo.l2 k x0 x1 x2 x3 x9 x10 x11 x55 x56 (wrap64 (x57 + 1)))) else (none)) else (none)) else (impl_DistancesTo.l2 k x0 x1 x2 x3 x9 x10 x11 x55 x56 (wrap64 (x57 + 1))))) else (none)) else (none)) else (if 1 ≤ (x10.length : Int) then (impl_DistancesTo.l1 k x0 x1 x2 x3 x9 (x10.drop (1 : Int).toNat)) else (none))
end
def impl_DistancesTo.f (k : Nat) (l0 : List (S103)) (a1 : Int) (a2 : Int) (a3 : Int) : Option (List Int) := (some (([] : List Int) : List Int)).bind fun y249 => ((impl_isNumber.f a1).bind fun t252 => (if t252 = true then ((impl_isIndex.f a3 a1).bind fun t253 => (impl_DistancesTo.j0 k l0 a1 a2 a3 y249 (!t253))) else (impl_DistancesTo.j0 k l0 a1 a2 a3 y249 true)))
theorem impl_DistancesTo.mono_l : ∀ k, (∀ y0 y1 y2 y3 y4 y5, LeO (impl_DistancesTo.j0 k y0 y1 y2 y3 y4 y5) (impl_DistancesTo.j0 (k + 1) y0 y1 y2 y3 y4 y5)) ∧ (∀ y0 y1 y2 y3 y4 y5 y6, LeO (impl_DistancesTo.l0 k y0 y1 y2 y3 y4 y5 y6) (impl_DistancesTo.l0 (k + 1) y0 y1 y2 y3 y4 y5 y6)) ∧ (∀ y0 y1 y2 y3 y4 y5, LeO (impl_DistancesTo.l1 k y0 y1 y2 y3 y4 y5) (impl_DistancesTo.l1 (k + 1) y0 y1 y2 y3 y4 y5)) ∧ (∀ y0 y1 y2 y3 y4 y5 y6 y7, LeO (impl_DistancesTo.j3 k y0 y1 y2 y3 y4 y5 y6 y7) (impl_DistancesTo.j3 (k + 1) y0 y1 y2 y3 y4 y5 y6 y7)) ∧ (∀ y0 y1 y2 y3 y4 y5 y6 y7 y8 y9, LeO (impl_DistancesTo.l2 k y0 y1 y2 y3 y4 y5 y6 y7 y8 y9) (impl_DistancesTo.l2 (k + 1) y0 y1 y2 y3 y4 y5 y6 y7 y8 y9))
 | 0 => ⟨fun _ _ _ _ _ _ r h => by simp [impl_DistancesTo.j0] at h, fun _ _ _ _ _ _ _ r h => by simp [impl_DistancesTo.l0] at h, fun _ _ _ _ _ _ r h => by simp [impl_DistancesTo.l1] at h, fun _ _ _ _ _ _ _ _ r h => by simp [impl_DistancesTo.j3] at h, fun _ _ _ _ _ _ _ _ _ _ r h => by simp [impl_DistancesTo.l2] at h⟩
 | k + 1 => by
  obtain ⟨ih0, ih1, ih2, ih3, ih4⟩ := impl_DistancesTo.mono_l k
  refine ⟨?_, ?_, ?_, ?_, ?_⟩
  ·intro y0 y1 y2 y3 y4 y5
   unfold impl_DistancesTo.j0
   repeat' first | (with_reducible first | exact ih0 _ _ _ _ _ _ | exact ih1 _ _ _ _ _ _ _ | exact ih2 _ _ _ _ _ _ | exact ih3 _ _ _ _ _ _ _ _ | exact ih4 _ _ _ _ _ _ _ _ _ _ | exact impl_NeighborsIn.mono _ _ _ | exact LeO.refl _ | exact LeO.none _ | refine LeO.ite ?_ ?_ | refine LeO.bind ?_ (fun _ => ?_)) | exact LeO.none _ | refine LeO.ite ?_ ?_ | refine LeO.bind ?_ (fun _ => ?_)
  ·intro y0 y1 y2 y3 y4 y5 y6
   unfold impl_DistancesTo.l0
   repeat' first | (with_reducible first | exact ih0 _ _ _ _ _ _ | exact ih1 _ _ _ _ _ _ _ | exact ih2 _ _ _ _ _ _ | exact ih3 _ _ _ _ _ _ _ _ | exact ih4 _ _ _ _ _ _ _ _ _ _ | exact impl_NeighborsIn.mono _ _ _ | exact LeO.refl _ | exact LeO.none _ | refine LeO.ite ?_ ?_ | refine LeO.bind ?_ (fun _ => ?_)) | exact LeO.none _ | refine LeO.ite ?_ ?_ | refine LeO.bind ?_ (fun _ => ?_)
  ·intro y0 y1 y2 y3 y4 y5
   unfold impl_DistancesTo.l1
   repeat' first | (with_reducible first | exact ih0 _ _ _ _ _ _ | exact ih1 _ _ _ _ _ _ _ | exact ih2 _ _ _ _ _ _ | exact ih3 _ _ _ _ _ _ _ _ | exact ih4 _ _ _ _ _ _ _ _ _ _ | exact impl_NeighborsIn.mono _ _ _ | exact LeO.refl _ | exact LeO.none _ | refine LeO.ite ?_ ?_ | refine LeO.bind ?_ (fun _ => ?_)) | exact LeO.none _ | refine LeO.ite ?_ ?_ | refine LeO.bind ?_ (fun _ => ?_)
  ·intro y0 y1 y2 y3 y4 y5 y6 y7
   unfold impl_DistancesTo.j3
   repeat' first | (with_reducible first | exact ih0 _ _ _ _ _ _ | exact ih1 _ _ _ _ _ _ _ | exact ih2 _ _ _ _ _ _ | exact ih3 _ _ _ _ _ _ _ _ | exact ih4 _ _ _ _ _ _ _ _ _ _ | exact impl_NeighborsIn.mono _ _ _ | exact LeO.refl _ | exact LeO.none _ | refine LeO.ite ?_ ?_ | refine LeO.bind ?_ (fun _ => ?_)) | exact LeO.none _ | refine LeO.ite ?_ ?_ | refine LeO.bind ?_ (fun _ => ?_)
  ·intro y0 y1 y2 y3 y4 y5 y6 y7 y8 y9
   unfold impl_DistancesTo.l2
   repeat' first | (with_reducible first | exact ih0 _ _ _ _ _ _ | exact ih1 _ _ _ _ _ _ _ | exact ih2 _ _ _ _ _ _ | exact ih3 _ _ _ _ _ _ _ _ | exact ih4 _ _ _ _ _ _ _ _ _ _ | exact impl_NeighborsIn.mono _ _ _ | exact LeO.refl _ | exact LeO.none _ | refine LeO.ite ?_ ?_ | refine LeO.bind ?_ (fun _ => ?_)) | exact LeO.none _ | refine LeO.ite ?_ ?_ | refine LeO.bind ?_ (fun _ => ?_)
theorem impl_DistancesTo.mono : ∀ a0 a1 a2 a3 k, LeO (impl_DistancesTo.f k a0 a1 a2 a3) (impl_DistancesTo.f (k + 1) a0 a1 a2 a3) := by
 intro a0 a1 a2 a3 k
 obtain ⟨ih0, ih1, ih2, ih3, ih4⟩ := impl_DistancesTo.mono_l k
 unfold impl_DistancesTo.f
 repeat' first | (with_reducible first | exact ih0 _ _ _ _ _ _ | exact ih1 _ _ _ _ _ _ _ | exact ih2 _ _ _ _ _ _ | exact ih3 _ _ _ _ _ _ _ _ | exact ih4 _ _ _ _ _ _ _ _ _ _ | exact impl_NeighborsIn.mono _ _ _ | exact LeO.refl _ | exact LeO.none _ | refine LeO.ite ?_ ?_ | refine LeO.bind ?_ (fun _ => ?_)) | exact LeO.none _ | refine LeO.ite ?_ ?_ | refine LeO.bind ?_ (fun _ => ?_)
set_option maxHeartbeats 8000000 in
set_option maxRecDepth 100000 in
theorem impl_DistancesTo.calls (k : Nat) (A0 : Option Addr) (c0 : Nat) (l0 : List (S103)) (a1 : Int) (a2 : Int) (a3 : Int) (r : List Int) (w : World) (hr0 : Kd.C k103 w A0 l0.length l0) (hc0 : l0.length ≤ c0) (h : impl_DistancesTo.f k l0 a1 a2 a3 = some r) :
  Calls Try.prog 59 #[.slice A0 l0.length c0, .int .i64 a1, .int .i64 a2, .int .i64 a3] w fun e w' => ∃ v0_ : Value, e = .returned (v0_) ∧ Kd.R (Kd.int .i64) 3 w' w.heap.size (fun _ => True) v0_ r ∧ Below w.heap.size w w' := by
 have HR0 := Aside0.mk hr0
 have HC0 := Aside0.mk hc0
 clear hr0 hc0
 have HB := Aside0.mk (Below.refl w.heap.size w)
 have H := h
 clear h
 unfold impl_DistancesTo.f at H
 replace H : ∃ y_ : List Int, Aside0 (y_ = (([] : List Int))) ∧ ((impl_isNumber.f a1).bind fun t252 => (if t252 = true then ((impl_isIndex.f a3 a1).bind fun t253 => (impl_DistancesTo.j0 k l0 a1 a2 a3 y_ (!t253))) else (impl_DistancesTo.j0 k l0 a1 a2 a3 y_ true))) = some r := ⟨_, ⟨rfl⟩, yh_ H⟩
 obtain ⟨y249, Ny249, H⟩ := H
 have HC5 := Aside0.mk H
 clear H
 go_enter Try.func59, Try.ntmps59
 go_upto_region 2 with (first | ((with_reducible refine gate_dst (N := 14) rfl ?_); refine Kd.R_lit (Kd.int .i64) _ 3 ?hg (N := 14) ?hd (xs := ([] : List Int)) (inner := []) (ok := fun _ => True) (okp := fun _ => True) ?hr ?hp (fun _ hk => hk) trivial (Below.refl _ _) (Nat.le_refl _) (by simp) ?_; (case hd => rfl); (case hg => rfl); (case hr => first | (go_simp; done) | (go_simp; rfl)); (case hp => exact (Reps.none _ _)); intro v250 w6 ho7 hb hg_ hnew_; clear hg_ hnew_; (first | rw [← Ny249.out] at ho7 | (simp only [Int.reduceToNat] at ho7; rw [← Ny249.out] at ho7)); refine sh2_ (Kd.R_lower ho7 (below_size (bl_ HB))) (below_step (bl_ HB) hb) ?_; clear HB hb ho7; intro HO251 HB))
 (try simp only [Act.put, List.setIfInBounds_toArray, List.set_cons_zero, List.set_cons_succ])
 go_cut [23] (fun v23 wc => ∃ (kq : Nat) (x23_4 : Bool), v23 = .bool x23_4 ∧ Aside0 (impl_DistancesTo.j0 kq l0 a1 a2 a3 y249 x23_4 = some r) ∧ Aside0 (kq ≤ k) ∧ Aside0 (Kd.R (Kd.int .i64) 3 wc w.heap.size (fun _ => True) v250 y249) ∧ Aside0 (Below w.heap.size w wc))
 case first =>
  have H := HC5.out
  clear HC5
  replace H := bs_ H
  obtain ⟨t252, A8, H⟩ := H
  by_cases c9 : t252 = true
  ·subst c9
   rw [if_pos rfl] at H
   replace H := bs_ H
   obtain ⟨t253, A10, H⟩ := H
   have H' := Aside0.mk H
   clear H
   go_wp2_with (first | ((with_reducible refine gate_callee (f := 111) rfl ?_); refine gl_ 16 Try.func111 (impl_isNumber.calls a1 true _ A8.out) ?_; rintro e w' ⟨rfl, ⟨nd, rfl⟩⟩; refine ⟨_, rfl, ?_⟩) | (go_at_call 73; (with_reducible refine (impl_isIndex.calls a3 a1 t253 _ A10.out).mono ?_); rintro e w' ⟨rfl, ⟨nd, rfl⟩⟩))
   go_meet
   case rel => exact ⟨_, (!t253), (by first | rfl | (simp; done) | (simp [*]; done)), H', ⟨by first | omega | exact Nat.le_refl _⟩, ⟨ra_ HO251⟩, ⟨bl_ HB⟩⟩
  ·replace c9 := Bool.eq_false_iff.mpr c9
   subst c9
   have H1 : (impl_DistancesTo.j0 k l0 a1 a2 a3 y249 true) = some r := by rw [if_neg (show ¬ (false = true) by decide)] at H; exact H
   clear H
   have H := H1
   clear H1
   have H' := Aside0.mk H
   clear H
   go_wp2_with (first | ((with_reducible refine gate_callee (f := 111) rfl ?_); refine gl_ 16 Try.func111 (impl_isNumber.calls a1 false _ A8.out) ?_; rintro e w' ⟨rfl, ⟨nd, rfl⟩⟩; refine ⟨_, rfl, ?_⟩))
   go_meet
   case rel => exact ⟨_, (true), (by first | rfl | (simp; done) | (simp [*]; done)), H', ⟨by first | omega | exact Nat.le_refl _⟩, ⟨ra_ HO251⟩, ⟨bl_ HB⟩⟩
 case rest =>
  clear HC5
  try clear c1
  try clear p2
  try clear c5
  try clear c9
  obtain ⟨kq, x23_4, rfl, HA, HJ4, HO_9, HB⟩ := hcut
  cases kq with
  | zero => exact absurd HA.out (by simp [impl_DistancesTo.j0])
  | succ kj4 =>
   have H := HA.out
   clear HA
   simp only [impl_DistancesTo.j0] at H
   by_cases c11 : x23_4 = true
   ·subst c11
    rw [if_pos rfl] at H
    obtain rfl := Option.some.inj H
    go_wp2
    go_ret
    exact ⟨_, er_, ra_ HO_9, bl_ HB⟩
   ·replace c11 := Bool.eq_false_iff.mpr c11
    subst c11
    have H1 : (impl_DistancesTo.l0 kj4 l0 a1 a2 a3 y249 a1 0) = some r := by rw [if_neg (show ¬ (false = true) by decide)] at H; exact H
    clear H
    have H := H1
    clear H1
    have H' := Aside0.mk H
    clear H
    go_wp2
    go_loopg [9, 26] kj4 (fun kq v9 v26 w' => ∃ (x9_2 : List Int) (x26_2 : Int), v26 = .int .i64 x26_2 ∧ Aside0 (impl_DistancesTo.l0 kq l0 a1 a2 a3 x9_2 a1 x26_2 = some r) ∧ Aside0 (kq ≤ kj4) ∧ Aside0 (Kd.R (Kd.int .i64) 3 w' w.heap.size (fun _ => True) v9 x9_2) ∧ Aside0 (Below w.heap.size w w'))
    case atStart => exact ⟨(y249), (0), (by first | rfl | (simp; done) | (simp [*]; done)), H', ⟨Nat.le_refl _⟩, ⟨ra_ HO_9⟩, ⟨bl_ HB⟩⟩
    case round =>
     clear H'
     try clear c1
     try clear p2
     try clear c5
     try clear c9
     try clear c11
     try clear p2
     obtain ⟨x9_2, x26_2, rfl, HA, HK2, HO_9, HB⟩ := hrel
     cases gk with
     | zero => exact absurd HA.out (by simp [impl_DistancesTo.l0])
     | succ k2 =>
      have H := HA.out
      clear HA
      simp only [impl_DistancesTo.l0] at H
      by_cases c12 : x26_2 < a1
      ·rw [if_pos c12] at H
       have c12b0 := decide_eq_true c12
       clear c12
       replace H := ifn_ H
       obtain ⟨c13, H⟩ := H
       have LMc13 := Aside0.mk c13
       clear c13
       replace H : ∃ y_ : List Int, Aside0 (y_ = (x9_2 ++ [(-1)])) ∧ (impl_DistancesTo.l0 k2 l0 a1 a2 a3 y_ a1 (wrap64 (x26_2 + 1))) = some r := ⟨_, ⟨rfl⟩, yh_ H⟩
       obtain ⟨y254, Ny254, H⟩ := H
       have H' := Aside0.mk H
       clear H
       go_wp2_with (first | ((with_reducible refine gate_builtin (b := .append) (xs := #[.tmp 28, .tmp 29]) rfl ?_); at_builtin; refine Kd.R_append (Kd.int .i64) (w0 := w) w.heap.size rfl (.tmp 28) (.tmp 29) 24 3 (.int .i64 0) 8 rfl Try.underlying24 info3 rfl (by decide) (by omega) u9 x9_2 (-1) [.int .i64 (-1)] (fun _ => True) (fun _ => False) rfl rfl ?aP (fun _ hk => hk.elim) ?aF ?aO ?aB ?aS ?aL ?_; (case aP => exact rfl); (case aB => exact (bl_ HB)); (case aF => exact (fun _ _ => trivial)); (case aO => exact (ra_ HO_9)); (case aS => exact (below_size (bl_ HB))); (case aL => have := LMc13.out; omega); intro v255 w14 ho hb hg hat; rw [← Ny254.out] at ho; refine sh2_ hb ho ?_; clear HB HO_9 ho hb hg hat; intro HB HO256))
       go_roundg k2
       case measure => have := HJ4.out; have := HK2.out; omega
       case rel => exact ⟨(y254), (wrap64 (x26_2 + 1)), (by first | rfl | (simp; done) | (simp [*]; done)), H', ⟨by have := HJ4.out; have := HK2.out; omega⟩, ⟨ra_ HO256⟩, ⟨bl_ HB⟩⟩
      ·rw [if_neg c12] at H
       have c12b0 := decide_eq_false c12
       clear c12
       replace H := ifn_ H
       obtain ⟨c15, H⟩ := H
       have c15b0 := decide_eq_true c15
       clear c15
       replace H := ifn_ H
       obtain ⟨c16, H⟩ := H
       have c16b0 := decide_eq_true c16
       clear c16
       replace H : ∃ y_ : List Int, Aside0 (y_ = (x9_2.set (a3 : Int).toNat 0)) ∧ (impl_DistancesTo.l1 k2 l0 a1 a2 a3 y_ (([a3] : List Int))) = some r := ⟨_, ⟨rfl⟩, yh_ H⟩
       obtain ⟨y257, Ny257, H⟩ := H
       replace H : ∃ y_ : List Int, Aside0 (y_ = (([a3] : List Int))) ∧ (impl_DistancesTo.l1 k2 l0 a1 a2 a3 y257 y_) = some r := ⟨_, ⟨rfl⟩, yh_ H⟩
       obtain ⟨y258, Ny258, H⟩ := H
       have H' := Aside0.mk H
       clear H
       have p17 : 0 ≤ (a3 : Int) := od_
       have q17 : (a3 : Int) < ((x9_2.length : Int) : Int) := od_
       obtain ⟨go17, co17, eo17, gb17, gl17, cl17, HG17⟩ := Kd.R_form HO_9.out (by omega)
       (first | cases eo17 | (injection eo17 with ea_ en_ ec_; (first | subst ea_ | (injection ea_ with ea_; subst ea_)); subst ec_; clear en_))
       have GB17 := Aside0.mk gb17
       have GG17 := Aside0.mk HG17
       clear gb17 gl17 HG17
       obtain ⟨hx17_0, hf17_0⟩ := Kd.R_celln 0 HO_9.out (a3 : Int) p17 q17
       replace p17 := eq_true p17
       replace q17 := eq_true q17
       have HP18 := Kd.R_putg HO_9.out (a3 : Int) 0
       go_wp2_with (first | ((with_reducible refine gate_store (t := 3) (p := 34) rfl ?_); refine store_event (t := 3) (p := 34) (v := ?vo_w19) (w1 := (wr.setCell ⟨go17, (a3 : Int).toNat, none⟩ (.int .i64 0))) ?hg ?ho ?hn ?hr ?_; (case ho => rfl); (case hg => rfl); (case hn => rfl); (case hr => first | (go_simp; done) | (go_simp; rfl)); intro w19 hw; have hg : wr.grownBy w19 (some go17) := (by rw [hw]; exact HP18.2); have hp_ : Kd.R (Kd.int .i64) 3 w19 w.heap.size (fun _ => True) (.slice (some ⟨go17, 0, none⟩) x9_2.length co17) y257 := (by rw [hw, Ny257.out]; exact HP18.1); clear HP18; refine sh2_ hp_ ((by rw [hw]; exact below_set (HB.out) GB17.out : Below w.heap.size w w19)) ?_; clear HO_9 HB; intro HO_9 HB; clear hg hw hp_) | ((with_reducible refine gate_dst (N := 36) rfl ?_); refine Kd.R_lit (Kd.int .i64) _ 3 ?hg (N := 36) ?hd (xs := ([a3] : List Int)) (inner := [.int .i64 a3]) (ok := fun _ => True) (okp := fun _ => True) ?hr ?hp (fun _ hk => hk) trivial (Below.refl _ _) (Nat.le_refl _) (by simp) ?_; (case hd => rfl); (case hg => rfl); (case hr => first | (go_simp; done) | (go_simp; rfl)); (case hp => exact (Reps.one (show Kd.M (Kd.int .i64) _ _ _ a3 [.int .i64 a3] from rfl) (Reps.none _ _))); intro v259 w20 ho21 hb hg_ hnew_; clear hg_ hnew_; (first | rw [← Ny258.out] at ho21 | (simp only [Int.reduceToNat] at ho21; rw [← Ny258.out] at ho21)); refine sh3_ (Kd.R_elder' (ra_ HO_9) (Kd.R_base ho21) hb) (Kd.R_lower (Kd.R_new' ho21 (Kd.R_lt (ra_ HO_9))) (below_size (bl_ HB))) (below_step (bl_ HB) hb) ?_; clear HO_9 HB hb ho21; intro HO_9 HO260 HB))
       go_loopg [10] k2 (fun kq v10 w' => ∃ (x9_3 : List Int) (x10_3 : List Int), Aside0 (impl_DistancesTo.l1 kq l0 a1 a2 a3 x9_3 x10_3 = some r) ∧ Aside0 (kq ≤ k2) ∧ Aside0 (Kd.R (Kd.int .i64) 3 w' w.heap.size (fun k_ => some k_ ≠ (v10 : Value).ownBlock) (.slice (some ⟨go17, 0, none⟩) x9_2.length co17) x9_3) ∧ Aside0 (Kd.Q (Kd.int .i64) 3 w' w.heap.size (fun k_ => some k_ ≠ ((.slice (some ⟨go17, 0, none⟩) x9_2.length co17) : Value).ownBlock) v10 x10_3) ∧ Aside0 (Below w.heap.size w w'))
       case atStart => exact ⟨(y257), (y258), H', ⟨Nat.le_refl _⟩, ⟨by (with_reducible repeat (first | apply Kd.R_alloc | apply Kd.R_drewN | apply Kd.R_drew)); exact Kd.R_mono HO_9.out (fun _ hk => hk.2)⟩, ⟨Kd.Q_of_R (by (with_reducible repeat (first | apply Kd.R_alloc | apply Kd.R_drewN | apply Kd.R_drew)); exact Kd.R_mono HO260.out (fun _ hk => hk.2))⟩, ⟨bl_ HB⟩⟩
       case round =>
        clear H'
        try clear c1
        try clear p1
        try clear q1
        try clear hx1
        try clear p2
        try clear c5
        try clear p6
        try clear c9
        try clear c11
        try clear c12
        try clear c12b0
        try clear c13
        try clear c15
        try clear c15b0
        try clear c16
        try clear c16b0
        try clear p17
        try clear q17
        try clear hx17
        try clear hf17
        try clear hx17_0
        try clear p17
        try clear p2
        try clear q17
        obtain ⟨x9_3, x10_3, HA, HK3, HO_9, HO_10, HB⟩ := hrel
        have hl9_3 := (Kd.R_reads' HO_9.out).1
        rw [hl9_3] at HO_9
        (try simp only [hl9_3])
        (try simp only [hl9_3] at HO_10)
        cases gk with
        | zero => exact absurd HA.out (by simp [impl_DistancesTo.l1])
        | succ k3 =>
         have H := HA.out
         clear HA
         simp only [impl_DistancesTo.l1] at H
         by_cases c22 : (x10_3.length : Int) > 0
         ·rw [if_pos c22] at H
          have c22b0 : decide (0 < (x10_3.length : Int)) = true := decide_eq_true c22
          have c22b1 : decide (0 < x10_3.length) = true := decide_eq_true (by omega)
          clear c22
          replace H := ifn_ H
          obtain ⟨c23, H⟩ := H
          have c23b0 := decide_eq_true c23
          have c23b1 : decide (0 < x10_3.length) = true := decide_eq_true (by omega)
          clear c23
          have HC24 := Aside0.mk H
          clear H
          obtain ⟨Ao25, co25, eo25, _⟩ := Kd.Q_slice HO_10.out
          subst eo25
          have p261 : 0 ≤ (0 : Int) := (by omega)
          have q261 : 0 < (x10_3.length : Int) := od_
          obtain ⟨ad261, e261, hx261_0⟩ := Kd.at_int (Kd.Q_reads' HO_10.out).2.2 0 p261 q261
          cases e261
          have qi261 : (0 < x10_3.length) = True := eq_true (by omega)
          (try rw [show ((0 : Int)).toNat = 0 from rfl] at hx261_0)
          (try rw [Addr.add_zero'] at hx261_0)
          replace p261 := eq_true p261
          replace q261 := eq_true q261
          go_upto_region 13 with (fail)
          go_cut [52] (fun v52 wc => ∃ (kq : Nat) (x52_23 : Bool), v52 = .bool x52_23 ∧ Aside0 (impl_DistancesTo.j3 kq l0 a1 a2 a3 x9_3 x10_3 (rd x10_3 0) x52_23 = some r) ∧ Aside0 (kq ≤ k3) ∧ Aside0 (Kd.R (Kd.int .i64) 3 wc w.heap.size (fun k_ => some k_ ≠ ((.slice (some ad261) x10_3.length co25) : Value).ownBlock) (.slice (some ⟨go17, 0, none⟩) x9_3.length co17) x9_3) ∧ Aside0 (Kd.Q (Kd.int .i64) 3 wc w.heap.size (fun k_ => some k_ ≠ ((.slice (some ⟨go17, 0, none⟩) x9_3.length co17) : Value).ownBlock) (.slice (some ad261) x10_3.length co25) x10_3) ∧ Aside0 (Below w.heap.size w wc))
          case first =>
           have H := HC24.out
           clear HC24
           by_cases c26 : (rd x10_3 0) = a3
           ·rw [if_pos c26] at H
            obtain ⟨c26b0, c26b1⟩ := bt_ c26
            clear c26
            (first | rw [c26b0] | (simp only [i64_w, i32_w]; rw [c26b0]) | skip)
            have H' := Aside0.mk H
            clear H
            go_wp2
            go_meet
            case rel => exact ⟨_, (false), (by first | rfl | (simp; done) | (simp [*]; done)), H', ⟨by have := HJ4.out; have := HK2.out; have := HK3.out; first | omega | exact Nat.le_refl _⟩, ⟨by (try simp only [hl9_3]); (with_reducible repeat (first | apply Kd.R_alloc | apply Kd.R_drewN | apply Kd.R_drew)); exact HO_9.out⟩, ⟨by (try simp only [hl9_3]); (with_reducible repeat (first | apply Kd.Q_alloc | apply Kd.Q_drewN | apply Kd.Q_drew)); exact HO_10.out⟩, ⟨bl_ HB⟩⟩
           ·rw [if_neg c26] at H
            obtain ⟨c26b0, c26b1⟩ := bn_ c26
            (first | rw [c26b0] | (simp only [i64_w, i32_w]; rw [c26b0]) | skip)
            have H' := Aside0.mk H
            clear H
            go_wp2
            go_meet
            case rel => exact ⟨_, (decide ((rd x10_3 0) ≥ a2)), (by first | rfl | (simp; done) | (simp [*]; done)), H', ⟨by have := HJ4.out; have := HK2.out; have := HK3.out; first | omega | exact Nat.le_refl _⟩, ⟨by (try simp only [hl9_3]); (with_reducible repeat (first | apply Kd.R_alloc | apply Kd.R_drewN | apply Kd.R_drew)); exact HO_9.out⟩, ⟨by (try simp only [hl9_3]); (with_reducible repeat (first | apply Kd.Q_alloc | apply Kd.Q_drewN | apply Kd.Q_drew)); exact HO_10.out⟩, ⟨bl_ HB⟩⟩
          case rest =>
           clear HC24
           try clear c1
           try clear p1
           try clear q1
           try clear hx1
           try clear c2
           try clear p2
           try clear q2
           try clear hx2
           try clear qi2
           try clear c5
           try clear p6
           try clear c9
           try clear c11
           try clear c12
           try clear c12b0
           try clear c13
           try clear c15
           try clear c15b0
           try clear c16
           try clear c16b0
           try clear p17
           try clear q17
           try clear hx17
           try clear hf17
           try clear c22
           try clear c22b0
           try clear c22b1
           try clear c23
           try clear c23b0
           try clear c23b1
           try clear c26
           try clear c26b0
           try clear c26b1
           try clear p26
           try clear q26
           try clear hx26
           try clear qi26
           try clear hx17_0
           try clear hx261_0
           try clear p1
           try clear p17
           try clear p2
           try clear p261
           try clear p6
           try clear q1
           try clear q17
           try clear q261
           obtain ⟨kq, x52_23, rfl, HA, HJ23, HO_9, HO_10, HB⟩ := hcut
           cases kq with
           | zero => exact absurd HA.out (by simp [impl_DistancesTo.j3])
           | succ kj23 =>
            have H := HA.out
            clear HA
            simp only [impl_DistancesTo.j3] at H
            by_cases c27 : x52_23 = true
            ·subst c27
             rw [if_pos rfl] at H
             replace H := ifn_ H
             obtain ⟨c28, H⟩ := H
             have c28b0 := eq_true c28
             have c28b1 := decide_eq_true c28
             clear c28
             replace H : ∃ y_ : List Int, Aside0 (y_ = (x10_3.drop (1 : Int).toNat)) ∧ (impl_DistancesTo.l1 kj23 l0 a1 a2 a3 x9_3 y_) = some r := ⟨_, ⟨rfl⟩, yh_ H⟩
             obtain ⟨y262, Ny262, H⟩ := H
             have H' := Aside0.mk H
             clear H
             have q29 : (1 : Int) ≤ ((x10_3.length : Int) : Int) := od_
             obtain ⟨i029, hi029, _, hsz29, _⟩ := info_parts info3
             have hcut29 := cut_from (P := Try.prog) 24 3 .i64 Try.underlying24 hi029 1 hsz29 (some ad261) x10_3.length co25 1 (by omega) q29
             have hr29 := Kd.Q_drop (k := (1 : Int).toNat) HO_10.out (by omega)
             obtain ⟨A29, hA29⟩ : ∃ A1, A1 = (if co25 = (1 : Int).toNat then (some ad261) else ((some ad261) : Option Addr).map (·.add ((1 : Int).toNat * 1))) := ⟨_, rfl⟩
             obtain ⟨c29, hc29⟩ : ∃ c1, c1 = co25 - (1 : Int).toNat := ⟨_, rfl⟩
             have hy29 : y262.length = x10_3.length - (1 : Int).toNat := (by rw [Ny262.out, List.length_drop])
             rw [← Ny262.out] at hr29
             rw [← hy29, ← hA29, ← hc29] at hcut29
             replace hr29 : Kd.Q (Kd.int .i64) 3 wc w.heap.size (fun k_ => some k_ ≠ (.slice (some ⟨go17, 0, none⟩) x9_3.length co17 : Value).ownBlock) (.slice A29 y262.length c29) y262 := (by rw [hA29, hc29, hy29]; exact hr29)
             have HE29 : Aside0 ((Value.slice A29 y262.length c29).ownBlock = (.slice (some ad261) x10_3.length co25 : Value).ownBlock) := ⟨by rw [hA29]; split <;> (cases ((some ad261) : Option Addr) <;> rfl)⟩
             clear hy29 hi029 hsz29 HO_10 hA29 hc29
             have HO264 := Aside0.mk hr29
             clear hr29
             replace q29 := eq_true q29
             have n_ := Aside0.mk (Kd.R_mono (ok' := fun k_ => some k_ ≠ (.slice A29 y262.length c29 : Value).ownBlock) HO_9.out (fun k_ hk => (by rw [HE29.out]; exact hk)))
             clear HO_9
             have HO_9 := n_
             clear n_
             go_wp2
             (try simp only [← hl9_3])
             go_roundg kj23
             case measure => have := HJ4.out; have := HK2.out; have := HK3.out; have := HJ23.out; omega
             case rel => exact ⟨(x9_3), (y262), H', ⟨by have := HJ4.out; have := HK2.out; have := HK3.out; have := HJ23.out; omega⟩, ⟨by (try simp only [hl9_3]); (with_reducible repeat (first | apply Kd.R_alloc | apply Kd.R_drewN | apply Kd.R_drew)); exact HO_9.out⟩, ⟨by (try simp only [hl9_3]); (with_reducible repeat (first | apply Kd.Q_alloc | apply Kd.Q_drewN | apply Kd.Q_drew)); exact HO264.out⟩, ⟨bl_ HB⟩⟩
            ·replace c27 := Bool.eq_false_iff.mpr c27
             subst c27
             have H1 : ((impl_NeighborsIn.f kj23 l0 (rd x10_3 0)).bind fun t265 => (impl_DistancesTo.l2 kj23 l0 a1 a2 a3 x9_3 x10_3 (rd x10_3 0) t265 (t265.length : Int) 0)) = some r := by rw [if_neg (show ¬ (false = true) by decide)] at H; exact H
             clear H
             have H := H1
             clear H1
             replace H := bs_ H
             obtain ⟨t265, A30, H⟩ := H
             have H' := Aside0.mk H
             clear H
             go_wp2_with (first | ((with_reducible refine gate_callee (f := 57) rfl ?_); refine gl_ 55 Try.func57 (impl_NeighborsIn.calls kj23 _ _ l0 (rd x10_3 0) t265 _ (ck_ HR0 HB) HC0.out A30.out) ?_; rintro e w31 ⟨v266, rfl, ho0, hb⟩; refine ⟨_, rfl, sh4_ (Kd.R_elder' (ra_ HO_9) (Kd.R_base ho0) hb) (Kd.Q_elder' (by (with_reducible repeat (first | apply Kd.Q_alloc | apply Kd.Q_drewN | apply Kd.Q_drew)); exact HO_10.out) (Kd.R_base ho0) hb) (Kd.R_lower (Kd.R_new' (Kd.R_new' ho0 (Kd.R_lt (ra_ HO_9))) (Kd.Q_lt (by (with_reducible repeat (first | apply Kd.Q_alloc | apply Kd.Q_drewN | apply Kd.Q_drew)); exact HO_10.out))) (below_size (bl_ HB))) (below_step (bl_ HB) hb) ?_⟩; clear HO_9 HO_10 HB hb ho0; intro HO_9 HO_10 HO267 HB; obtain ⟨Ao32, co32, eo32⟩ := Kd.R_slice HO267.out; subst eo32))
             go_loopg [10, 57] kj23 (fun kq v10 v57 w' => ∃ (x9_5 : List Int) (x10_5 : List Int) (x57_5 : Int), v57 = .int .i64 x57_5 ∧ Aside0 (impl_DistancesTo.l2 kq l0 a1 a2 a3 x9_5 x10_5 (rd x10_3 0) t265 (t265.length : Int) x57_5 = some r) ∧ Aside0 (kq ≤ kj23) ∧ Aside0 (Kd.R (Kd.int .i64) 3 w' w.heap.size (fun k_ => some k_ ≠ (v10 : Value).ownBlock ∧ some k_ ≠ ((.slice Ao32 t265.length co32) : Value).ownBlock) (.slice (some ⟨go17, 0, none⟩) x9_3.length co17) x9_5) ∧ Aside0 (Kd.Q (Kd.int .i64) 3 w' w.heap.size (fun k_ => some k_ ≠ ((.slice (some ⟨go17, 0, none⟩) x9_3.length co17) : Value).ownBlock ∧ some k_ ≠ ((.slice Ao32 t265.length co32) : Value).ownBlock) v10 x10_5) ∧ Aside0 (Kd.R (Kd.int .i64) 3 w' w.heap.size (fun k_ => some k_ ≠ ((.slice (some ⟨go17, 0, none⟩) x9_3.length co17) : Value).ownBlock ∧ some k_ ≠ (v10 : Value).ownBlock) (.slice Ao32 t265.length co32) t265) ∧ Aside0 (Below w.heap.size w w'))
             case atStart => exact ⟨(x9_3), (x10_3), (0), (by first | rfl | (simp; done) | (simp [*]; done)), H', ⟨Nat.le_refl _⟩, ⟨by (try simp only [hl9_3]); (with_reducible repeat (first | apply Kd.R_alloc | apply Kd.R_drewN | apply Kd.R_drew)); exact HO_9.out⟩, ⟨by (try simp only [hl9_3]); (with_reducible repeat (first | apply Kd.Q_alloc | apply Kd.Q_drewN | apply Kd.Q_drew)); exact HO_10.out⟩, ⟨by (try simp only [hl9_3]); (with_reducible repeat (first | apply Kd.R_alloc | apply Kd.R_drewN | apply Kd.R_drew)); exact Kd.R_mono HO267.out (fun _ hk => ⟨hk.1.2, hk.2⟩)⟩, ⟨bl_ HB⟩⟩
             case round =>
              clear H'
              try clear c1
              try clear p1
              try clear q1
              try clear hx1
              try clear c2
              try clear p2
              try clear q2
              try clear hx2
              try clear qi2
              try clear c5
              try clear p6
              try clear c9
              try clear c11
              try clear c12
              try clear c12b0
              try clear c13
              try clear c15
              try clear c15b0
              try clear c16
              try clear c16b0
              try clear p17
              try clear q17
              try clear hx17
              try clear hf17
              try clear c22
              try clear c22b0
              try clear c22b1
              try clear c23
              try clear c23b0
              try clear c23b1
              try clear c26
              try clear c26b0
              try clear c26b1
              try clear p26
              try clear q26
              try clear hx26
              try clear qi26
              try clear c27
              try clear c28
              try clear c28b0
              try clear c28b1
              try clear c29
              try clear q29
              try clear hx17_0
              try clear hx261_0
              try clear p1
              try clear p17
              try clear p2
              try clear p26
              try clear p261
              try clear p6
              try clear q1
              try clear q17
              try clear q2
              try clear q26
              try clear q261
              try clear q29
              obtain ⟨x9_5, x10_5, x57_5, rfl, HA, HK5, HO_9, HO_10, HO_55, HB⟩ := hrel
              have hl9_5 := (Kd.R_reads' HO_9.out).1
              rw [hl9_5] at HO_9
              (try simp only [hl9_5])
              (try simp only [hl9_5] at HO_10)
              (try simp only [hl9_5] at HO_55)
              cases gk with
              | zero => exact absurd HA.out (by simp [impl_DistancesTo.l2])
              | succ k5 =>
               have H := HA.out
               clear HA
               simp only [impl_DistancesTo.l2] at H
               by_cases c33 : x57_5 < (t265.length : Int)
               ·rw [if_pos c33] at H
                have c33b0 := decide_eq_true c33
                clear c33
                replace H := ifn_ H
                obtain ⟨c34, H⟩ := H
                have c34b0 := decide_eq_true c34
                clear c34
                replace H := ifn_ H
                obtain ⟨c35, H⟩ := H
                have c35b0 := decide_eq_true c35
                clear c35
                replace H := bs_ H
                obtain ⟨t269, A36, H⟩ := H
                by_cases c37 : t269 = true
                ·subst c37
                 rw [if_pos rfl] at H
                 replace H := ifn_ H
                 obtain ⟨c38, H⟩ := H
                 have c38b0 := decide_eq_true c38
                 clear c38
                 replace H := ifn_ H
                 obtain ⟨c39, H⟩ := H
                 have c39b0 := decide_eq_true c39
                 clear c39
                 by_cases c40 : (rd x9_5 (rd t265 x57_5)) < 0
                 ·rw [if_pos c40] at H
                  have c40b0 := decide_eq_true c40
                  clear c40
                  replace H := ifn_ H
                  obtain ⟨c41, H⟩ := H
                  have c41b0 := decide_eq_true c41
                  clear c41
                  replace H := ifn_ H
                  obtain ⟨c42, H⟩ := H
                  have c42b0 := decide_eq_true c42
                  clear c42
                  replace H : ∃ y_ : List Int, Aside0 (y_ = (x9_5.set ((rd t265 x57_5) : Int).toNat (wrap64 ((rd x9_5 (rd x10_3 0)) + 1)))) ∧ (if x10_5.length < 17592186044416 then (impl_DistancesTo.l2 k5 l0 a1 a2 a3 y_ (x10_5 ++ [rd t265 x57_5]) (rd x10_3 0) t265 (t265.length : Int) (wrap64 (x57_5 + 1))) else (none)) = some r := ⟨_, ⟨rfl⟩, yh_ H⟩
                  obtain ⟨y272, Ny272, H⟩ := H
                  replace H := ifn_ H
                  obtain ⟨c44, H⟩ := H
                  have LMc44 := Aside0.mk c44
                  clear c44
                  replace H : ∃ y_ : List Int, Aside0 (y_ = (x10_5 ++ [rd t265 x57_5])) ∧ (impl_DistancesTo.l2 k5 l0 a1 a2 a3 y272 y_ (rd x10_3 0) t265 (t265.length : Int) (wrap64 (x57_5 + 1))) = some r := ⟨_, ⟨rfl⟩, yh_ H⟩
                  obtain ⟨y273, Ny273, H⟩ := H
                  have H' := Aside0.mk H
                  clear H
                  have p268 : 0 ≤ (x57_5 : Int) := od_
                  have q268 : x57_5 < (t265.length : Int) := od_
                  obtain ⟨ad268, e268, hx268_0⟩ := Kd.at_int (Kd.R_reads' HO_55.out).2.2 x57_5 p268 q268
                  cases e268
                  replace p268 := eq_true p268
                  replace q268 := eq_true q268
                  go_wp2_with (first | ((with_reducible refine gate_callee (f := 73) rfl ?_); refine gl_ 63 Try.func73 (impl_isIndex.calls (rd t265 x57_5) a1 true _ A36.out) ?_; rintro e w' ⟨rfl, ⟨nd, rfl⟩⟩; refine ⟨_, rfl, ?_⟩; (try (rw [drewN_self wr]; generalize hq_ : World.drewN wr _ = wr; have n0_ : Aside0 (Kd.Q (Kd.int .i64) 3 wr w.heap.size (fun k_ => some k_ ≠ (.slice (some ⟨go17, 0, none⟩) x9_5.length co17 : Value).ownBlock ∧ some k_ ≠ (.slice (some ad268) t265.length co32 : Value).ownBlock) u10 x10_5) := ⟨by rw [← hq_]; exact (by (with_reducible repeat (first | apply Kd.Q_alloc | apply Kd.Q_drewN | apply Kd.Q_drew)); exact HO_10.out)⟩; have n1_ : Aside0 (Kd.R (Kd.int .i64) 3 wr w.heap.size (fun k_ => some k_ ≠ (.slice (some ⟨go17, 0, none⟩) x9_5.length co17 : Value).ownBlock ∧ some k_ ≠ (u10 : Value).ownBlock) (.slice (some ad268) t265.length co32) t265) := ⟨by rw [← hq_]; exact (ra_ HO_55)⟩; have n2_ : Aside0 (Kd.R (Kd.int .i64) 3 wr w.heap.size (fun k_ => some k_ ≠ (u10 : Value).ownBlock ∧ some k_ ≠ (.slice (some ad268) t265.length co32 : Value).ownBlock) (.slice (some ⟨go17, 0, none⟩) x9_5.length co17) x9_5) := ⟨by rw [← hq_]; exact (ra_ HO_9)⟩; have n3_ : Aside0 (Below w.heap.size w wr) := ⟨by rw [← hq_]; exact (bl_ HB)⟩; clear HO_10 HO_55 HO_9 HB hq_; have HO_10 := n0_; have HO_55 := n1_; have HO_9 := n2_; have HB := n3_; clear n0_ n1_ n2_ n3_)); have p270 : 0 ≤ ((rd t265 x57_5) : Int) := od_; have q270 : (rd t265 x57_5) < (x9_5.length : Int) := od_; obtain ⟨ad270, e270, hx270_0⟩ := Kd.at_int (Kd.R_reads' HO_9.out).2.2 (rd t265 x57_5) p270 q270; obtain rfl : (⟨go17, 0, none⟩ : Addr) = ad270 := (by injection e270); (first | simp only [add_plain] at hx270_0 | simp only [add_at] at hx270_0 | simp only [Addr.add, Nat.zero_add] at hx270_0 | skip); replace p270 := eq_true p270; replace q270 := eq_true q270; have p271 : 0 ≤ ((rd x10_3 0) : Int) := od_; have q271 : (rd x10_3 0) < (x9_5.length : Int) := od_; obtain ⟨ad271, e271, hx271_0⟩ := Kd.at_int (Kd.R_reads' HO_9.out).2.2 (rd x10_3 0) p271 q271; obtain rfl : (⟨go17, 0, none⟩ : Addr) = ad271 := (by injection e271); (first | simp only [add_plain] at hx271_0 | simp only [add_at] at hx271_0 | simp only [Addr.add, Nat.zero_add] at hx271_0 | skip); replace p271 := eq_true p271; replace q271 := eq_true q271; have p43 : 0 ≤ ((rd t265 x57_5) : Int) := od_; have q43 : ((rd t265 x57_5) : Int) < ((x9_5.length : Int) : Int) := od_; obtain ⟨hx43_0, hf43_0⟩ := Kd.R_celln 0 HO_9.out ((rd t265 x57_5) : Int) p43 q43; replace p43 := eq_true p43; replace q43 := eq_true q43; obtain ⟨hy45_, hz45_⟩ := Kd.R_celln 0 HO_9.out ((rd t265 x57_5) : Int) od_ od_; have HP45 := Kd.R_putg HO_9.out ((rd t265 x57_5) : Int) (wrap64 ((rd x9_5 (rd x10_3 0)) + 1))) | ((with_reducible refine gate_store (t := 3) (p := 78) rfl ?_); refine store_event (t := 3) (p := 78) (v := ?vo_w46) (w1 := (wr.setCell ⟨go17, ((rd t265 x57_5) : Int).toNat, none⟩ (.int .i64 (wrap64 ((rd x9_5 (rd x10_3 0)) + 1))))) ?hg ?ho ?hn ?hr ?_; (case ho => rfl); (case hg => rfl); (case hn => rfl); (case hr => first | (go_simp; done) | (go_simp; rfl)); intro w46 hw; have hg : wr.grownBy w46 (some go17) := (by rw [hw]; exact HP45.2); have hp_ : Kd.R (Kd.int .i64) 3 w46 w.heap.size (fun k_ => some k_ ≠ (u10 : Value).ownBlock ∧ some k_ ≠ (.slice (some ad268) t265.length co32 : Value).ownBlock) (.slice (some ⟨go17, 0, none⟩) x9_5.length co17) y272 := (by rw [hw, Ny272.out]; exact HP45.1); clear HP45; refine sh4_ hp_ (Kd.Q_after (v := (.slice (some ⟨go17, 0, none⟩) x9_5.length co17)) (v1 := (.slice (some ⟨go17, 0, none⟩) x9_5.length co17)) (ok := (fun k_ => some k_ ≠ (.slice (some ad268) t265.length co32 : Value).ownBlock)) (by (with_reducible repeat (first | apply Kd.Q_alloc | apply Kd.Q_drewN | apply Kd.Q_drew)); exact Kd.Q_mono HO_10.out (fun _ hk => ⟨hk.2, hk.1⟩)) hg (.inl rfl)) (Kd.R_after (v := (.slice (some ⟨go17, 0, none⟩) x9_5.length co17)) (v1 := (.slice (some ⟨go17, 0, none⟩) x9_5.length co17)) (ok := (fun k_ => some k_ ≠ (u10 : Value).ownBlock)) (by (with_reducible repeat (first | apply Kd.R_alloc | apply Kd.R_drewN | apply Kd.R_drew)); exact Kd.R_mono HO_55.out (fun _ hk => ⟨hk.2, hk.1⟩)) hg (.inl rfl)) ((by rw [hw]; exact below_set (HB.out) GB17.out : Below w.heap.size w w46)) ?_; clear HO_9 HO_10 HO_55 HB; intro HO_9 HO_10 HO_55 HB; clear hg hw hp_) | ((with_reducible refine gate_builtin (b := .append) (xs := #[.tmp 79, .tmp 81]) rfl ?_); at_builtin; refine Kd.Q_append (Kd.int .i64) (w0 := w) w.heap.size rfl (.tmp 79) (.tmp 81) 24 3 (.int .i64 0) 8 rfl Try.underlying24 info3 rfl (by decide) (by omega) u10 x10_5 (rd t265 x57_5) [.int .i64 (rd t265 x57_5)] (fun k_ => some k_ ≠ (.slice (some ⟨go17, 0, none⟩) x9_5.length co17 : Value).ownBlock ∧ some k_ ≠ (.slice (some ad268) t265.length co32 : Value).ownBlock) (fun _ => False) rfl rfl ?aP (fun _ hk => hk.elim) ?aF ?aO ?aB ?aS ?aL ?_; (case aP => exact rfl); (case aB => exact (bl_ HB)); (case aF => exact (fun k_ hk => ⟨Kd.fresh' (Kd.R_lt (ra_ HO_9)) k_ hk, Kd.fresh' (Kd.R_lt (ra_ HO_55)) k_ hk⟩)); (case aO => exact (by (with_reducible repeat (first | apply Kd.Q_alloc | apply Kd.Q_drewN | apply Kd.Q_drew)); exact Kd.Q_mono HO_10.out (fun _ hk => ⟨hk.2, hk.1⟩))); (case aS => exact (below_size (bl_ HB))); (case aL => have := LMc44.out; omega); intro v274 w47 ho hb hg hat; rw [← Ny273.out] at ho; refine sh4_ (Kd.R_after (ok := (fun k_ => some k_ ≠ (.slice (some ad268) t265.length co32 : Value).ownBlock)) (by (with_reducible repeat (first | apply Kd.R_alloc | apply Kd.R_drewN | apply Kd.R_drew)); exact Kd.R_mono HO_9.out (fun _ hk => ⟨hk.2, hk.1⟩)) hg hat) (Kd.R_after (ok := (fun k_ => some k_ ≠ (.slice (some ⟨go17, 0, none⟩) x9_5.length co17 : Value).ownBlock)) (by (with_reducible repeat (first | apply Kd.R_alloc | apply Kd.R_drewN | apply Kd.R_drew)); exact Kd.R_mono HO_55.out (fun _ hk => ⟨hk.2, hk.1⟩)) hg hat) hb ho ?_; clear HO_9 HO_55 HB HO_10 ho hb hg hat; intro HO_9 HO_55 HB HO275))
                  (try simp only [← hl9_5])
                  go_roundg k5
                  case measure => have := HJ4.out; have := HK2.out; have := HK3.out; have := HJ23.out; have := HK5.out; omega
                  case rel => exact ⟨(y272), (y273), (wrap64 (x57_5 + 1)), (by first | rfl | (simp; done) | (simp [*]; done)), H', ⟨by have := HJ4.out; have := HK2.out; have := HK3.out; have := HJ23.out; have := HK5.out; omega⟩, ⟨by (try simp only [hl9_3]); (try simp only [hl9_5]); (with_reducible repeat (first | apply Kd.R_alloc | apply Kd.R_drewN | apply Kd.R_drew)); exact Kd.R_mono HO_9.out (fun _ hk => ⟨hk.2, hk.1⟩)⟩, ⟨by (try simp only [hl9_3]); (try simp only [hl9_5]); (with_reducible repeat (first | apply Kd.Q_alloc | apply Kd.Q_drewN | apply Kd.Q_drew)); exact HO275.out⟩, ⟨by (try simp only [hl9_3]); (try simp only [hl9_5]); (with_reducible repeat (first | apply Kd.R_alloc | apply Kd.R_drewN | apply Kd.R_drew)); exact HO_55.out⟩, ⟨bl_ HB⟩⟩
                 ·rw [if_neg c40] at H
                  have c40b0 := decide_eq_false c40
                  clear c40
                  have H' := Aside0.mk H
                  clear H
                  have p268 : 0 ≤ (x57_5 : Int) := od_
                  have q268 : x57_5 < (t265.length : Int) := od_
                  obtain ⟨ad268, e268, hx268_0⟩ := Kd.at_int (Kd.R_reads' HO_55.out).2.2 x57_5 p268 q268
                  cases e268
                  replace p268 := eq_true p268
                  replace q268 := eq_true q268
                  go_wp2_with (first | ((with_reducible refine gate_callee (f := 73) rfl ?_); refine gl_ 63 Try.func73 (impl_isIndex.calls (rd t265 x57_5) a1 true _ A36.out) ?_; rintro e w' ⟨rfl, ⟨nd, rfl⟩⟩; refine ⟨_, rfl, ?_⟩; have p270 : 0 ≤ ((rd t265 x57_5) : Int) := od_; have q270 : (rd t265 x57_5) < (x9_5.length : Int) := od_; obtain ⟨ad270, e270, hx270_0⟩ := Kd.at_int (Kd.R_reads' HO_9.out).2.2 (rd t265 x57_5) p270 q270; obtain rfl : (⟨go17, 0, none⟩ : Addr) = ad270 := (by injection e270); (first | simp only [add_plain] at hx270_0 | simp only [add_at] at hx270_0 | simp only [Addr.add, Nat.zero_add] at hx270_0 | skip); replace p270 := eq_true p270; replace q270 := eq_true q270))
                  (try simp only [← hl9_5])
                  go_roundg k5
                  case measure => have := HJ4.out; have := HK2.out; have := HK3.out; have := HJ23.out; have := HK5.out; omega
                  case rel => exact ⟨(x9_5), (x10_5), (wrap64 (x57_5 + 1)), (by first | rfl | (simp; done) | (simp [*]; done)), H', ⟨by have := HJ4.out; have := HK2.out; have := HK3.out; have := HJ23.out; have := HK5.out; omega⟩, ⟨by (try simp only [hl9_3]); (try simp only [hl9_5]); (with_reducible repeat (first | apply Kd.R_alloc | apply Kd.R_drewN | apply Kd.R_drew)); exact HO_9.out⟩, ⟨by (try simp only [hl9_3]); (try simp only [hl9_5]); (with_reducible repeat (first | apply Kd.Q_alloc | apply Kd.Q_drewN | apply Kd.Q_drew)); exact HO_10.out⟩, ⟨by (try simp only [hl9_3]); (try simp only [hl9_5]); (with_reducible repeat (first | apply Kd.R_alloc | apply Kd.R_drewN | apply Kd.R_drew)); exact HO_55.out⟩, ⟨bl_ HB⟩⟩
                ·replace c37 := Bool.eq_false_iff.mpr c37
                 subst c37
                 have H1 : (impl_DistancesTo.l2 k5 l0 a1 a2 a3 x9_5 x10_5 (rd x10_3 0) t265 (t265.length : Int) (wrap64 (x57_5 + 1))) = some r := by rw [if_neg (show ¬ (false = true) by decide)] at H; exact H
                 clear H
                 have H := H1
                 clear H1
                 have H' := Aside0.mk H
                 clear H
                 have p268 : 0 ≤ (x57_5 : Int) := od_
                 have q268 : x57_5 < (t265.length : Int) := od_
                 obtain ⟨ad268, e268, hx268_0⟩ := Kd.at_int (Kd.R_reads' HO_55.out).2.2 x57_5 p268 q268
                 cases e268
                 replace p268 := eq_true p268
                 replace q268 := eq_true q268
                 go_wp2_with (first | ((with_reducible refine gate_callee (f := 73) rfl ?_); refine gl_ 63 Try.func73 (impl_isIndex.calls (rd t265 x57_5) a1 false _ A36.out) ?_; rintro e w' ⟨rfl, ⟨nd, rfl⟩⟩; refine ⟨_, rfl, ?_⟩))
                 (try simp only [← hl9_5])
                 go_roundg k5
                 case measure => have := HJ4.out; have := HK2.out; have := HK3.out; have := HJ23.out; have := HK5.out; omega
                 case rel => exact ⟨(x9_5), (x10_5), (wrap64 (x57_5 + 1)), (by first | rfl | (simp; done) | (simp [*]; done)), H', ⟨by have := HJ4.out; have := HK2.out; have := HK3.out; have := HJ23.out; have := HK5.out; omega⟩, ⟨by (try simp only [hl9_3]); (try simp only [hl9_5]); (with_reducible repeat (first | apply Kd.R_alloc | apply Kd.R_drewN | apply Kd.R_drew)); exact HO_9.out⟩, ⟨by (try simp only [hl9_3]); (try simp only [hl9_5]); (with_reducible repeat (first | apply Kd.Q_alloc | apply Kd.Q_drewN | apply Kd.Q_drew)); exact HO_10.out⟩, ⟨by (try simp only [hl9_3]); (try simp only [hl9_5]); (with_reducible repeat (first | apply Kd.R_alloc | apply Kd.R_drewN | apply Kd.R_drew)); exact HO_55.out⟩, ⟨bl_ HB⟩⟩
               ·rw [if_neg c33] at H
                have c33b0 : decide (x57_5 < (t265.length : Int)) = false := decide_eq_false c33
                clear c33
                replace H := ifn_ H
                obtain ⟨c48, H⟩ := H
                have c48b0 := eq_true c48
                have c48b1 := decide_eq_true c48
                clear c48
                replace H : ∃ y_ : List Int, Aside0 (y_ = (x10_5.drop (1 : Int).toNat)) ∧ (impl_DistancesTo.l1 k5 l0 a1 a2 a3 x9_5 y_) = some r := ⟨_, ⟨rfl⟩, yh_ H⟩
                obtain ⟨y276, Ny276, H⟩ := H
                have H' := Aside0.mk H
                clear H
                obtain ⟨Ao49, co49, eo49, _⟩ := Kd.Q_slice HO_10.out
                subst eo49
                have q50 : (1 : Int) ≤ ((x10_5.length : Int) : Int) := od_
                obtain ⟨i050, hi050, _, hsz50, _⟩ := info_parts info3
                have hcut50 := cut_from (P := Try.prog) 24 3 .i64 Try.underlying24 hi050 1 hsz50 Ao49 x10_5.length co49 1 (by omega) q50
                have hr50 := Kd.Q_drop (k := (1 : Int).toNat) HO_10.out (by omega)
                obtain ⟨A50, hA50⟩ : ∃ A1, A1 = (if co49 = (1 : Int).toNat then Ao49 else (Ao49 : Option Addr).map (·.add ((1 : Int).toNat * 1))) := ⟨_, rfl⟩
                obtain ⟨c50, hc50⟩ : ∃ c1, c1 = co49 - (1 : Int).toNat := ⟨_, rfl⟩
                have hy50 : y276.length = x10_5.length - (1 : Int).toNat := (by rw [Ny276.out, List.length_drop])
                rw [← Ny276.out] at hr50
                rw [← hy50, ← hA50, ← hc50] at hcut50
                replace hr50 : Kd.Q (Kd.int .i64) 3 wr w.heap.size (fun k_ => some k_ ≠ (.slice (some ⟨go17, 0, none⟩) x9_5.length co17 : Value).ownBlock ∧ some k_ ≠ (.slice Ao32 t265.length co32 : Value).ownBlock) (.slice A50 y276.length c50) y276 := (by rw [hA50, hc50, hy50]; exact hr50)
                have HE50 : Aside0 ((Value.slice A50 y276.length c50).ownBlock = (.slice Ao49 x10_5.length co49 : Value).ownBlock) := ⟨by rw [hA50]; split <;> (cases (Ao49 : Option Addr) <;> rfl)⟩
                clear hy50 hi050 hsz50 HO_10 hA50 hc50
                have HO278 := Aside0.mk hr50
                clear hr50
                replace q50 := eq_true q50
                have n_ := Aside0.mk (Kd.R_mono (ok' := fun k_ => (some k_ ≠ (.slice A50 y276.length c50 : Value).ownBlock ∧ some k_ ≠ (.slice Ao32 t265.length co32 : Value).ownBlock)) HO_9.out (fun k_ hk => ⟨(by rw [HE50.out]; exact hk.1), hk.2⟩))
                clear HO_9
                have HO_9 := n_
                clear n_
                have n_ := Aside0.mk (Kd.R_mono (ok' := fun k_ => (some k_ ≠ (.slice (some ⟨go17, 0, none⟩) x9_5.length co17 : Value).ownBlock ∧ some k_ ≠ (.slice A50 y276.length c50 : Value).ownBlock)) HO_55.out (fun k_ hk => ⟨hk.1, (by rw [HE50.out]; exact hk.2)⟩))
                clear HO_55
                have HO_55 := n_
                clear n_
                go_wp2
                (try simp only [← hl9_3, ← hl9_5])
                go_roundg k5
                case measure => have := HJ4.out; have := HK2.out; have := HK3.out; have := HJ23.out; have := HK5.out; omega
                case rel => exact ⟨(x9_5), (y276), H', ⟨by have := HJ4.out; have := HK2.out; have := HK3.out; have := HJ23.out; have := HK5.out; omega⟩, ⟨by (try simp only [hl9_3]); (try simp only [hl9_5]); (with_reducible repeat (first | apply Kd.R_alloc | apply Kd.R_drewN | apply Kd.R_drew)); exact Kd.R_mono HO_9.out (fun _ hk => hk.1)⟩, ⟨by (try simp only [hl9_3]); (try simp only [hl9_5]); (with_reducible repeat (first | apply Kd.Q_alloc | apply Kd.Q_drewN | apply Kd.Q_drew)); exact Kd.Q_mono HO278.out (fun _ hk => hk.1)⟩, ⟨bl_ HB⟩⟩
         ·rw [if_neg c22] at H
          have c22b0 : decide (0 < (x10_3.length : Int)) = false := decide_eq_false c22
          have c22b1 : decide (0 < x10_3.length) = false := decide_eq_false (by omega)
          clear c22
          obtain rfl := Option.some.inj H
          obtain ⟨Ao51, co51, eo51, _⟩ := Kd.Q_slice HO_10.out
          subst eo51
          go_wp2
          go_ret
          exact ⟨_, er_, by (with_reducible repeat (first | apply Kd.R_alloc | apply Kd.R_drewN | apply Kd.R_drew)); exact Kd.R_mono HO_9.out (fun _ hk => trivial), bl_ HB⟩

/-! ### laws_FnExactDistancesTo: function 11 -/
def laws_FnExactDistancesTo.j0 : Nat → List (S117) → Int → Int → Int → List Int → List Int → Bool → Option (Bool)
 | 0, _, _, _, _, _, _, _ => none
 | k + 1, x0, x1, x2, x3, x10, x12, x54 => if x54 = true then (some false) else ((laws_markIntS.f k x12 1).bind fun bt300 => ((laws_heldIntS.f k bt300.2 1).bind fun t302 => (if t302 < 0 then (some false) else (if t302 = bt300.1 then ((laws_toLinkS.f k x0).bind fun t303 => ((impl_DistancesTo.f k t303 x1 x2 x3).bind fun t306 => ((laws_eqIntS.f k t306 x10).bind fun t309 => (if t309 = true then ((laws_heldIntS.f k bt300.2 1).bind fun t310 => (if t310 < 0 then (some false) else (if t310 = bt300.1 then (some true) else (some false)))) else (some false))))) else (some false)))))
def laws_FnExactDistancesTo.f (k : Nat) (l0 : List (S117)) (a1 : Int) (a2 : Int) (a3 : Int) : Option (Bool) := (laws_szLinkS.f l0 1048576).bind fun t279 => (if t279 < 0 then (some true) else ((laws_toLinkS.f k l0).bind fun t280 => ((spec_DistancesTo.f k t280 a1 a2 a3).bind fun t283 => ((laws_toLinkS.f k l0).bind fun t286 => ((impl_DistancesTo.f k t286 a1 a2 a3).bind fun t289 => ((laws_eqIntS.f k t289 t283).bind fun t292 => (if t292 = true then ((laws_toLinkS.f k l0).bind fun t293 => ((laws_eqLinkS.f k t286 t293).bind fun t296 => (if t296 = true then ((laws_markLinkS.f k t286 1).bind fun bt297 => (if bt297.1 < 0 then (laws_FnExactDistancesTo.j0 k l0 a1 a2 a3 t283 t289 true) else ((laws_eqIntS.f k t289 t283).bind fun t299 => (laws_FnExactDistancesTo.j0 k l0 a1 a2 a3 t283 t289 (!t299))))) else (some false)))) else (some false))))))))
theorem laws_FnExactDistancesTo.mono_l : ∀ k, (∀ y0 y1 y2 y3 y4 y5 y6, LeO (laws_FnExactDistancesTo.j0 k y0 y1 y2 y3 y4 y5 y6) (laws_FnExactDistancesTo.j0 (k + 1) y0 y1 y2 y3 y4 y5 y6))
 | 0 => fun _ _ _ _ _ _ _ r h => by simp [laws_FnExactDistancesTo.j0] at h
 | k + 1 => by
  have ih0 := laws_FnExactDistancesTo.mono_l k
  ·intro y0 y1 y2 y3 y4 y5 y6
   unfold laws_FnExactDistancesTo.j0
   repeat' first | (with_reducible first | exact ih0 _ _ _ _ _ _ _ | exact impl_DistancesTo.mono _ _ _ _ _ | exact laws_eqIntS.mono _ _ _ | exact laws_eqLinkS.mono _ _ _ | exact laws_heldIntS.mono _ _ _ | exact laws_markIntS.mono _ _ _ | exact laws_markLinkS.mono _ _ _ | exact laws_toLinkS.mono _ _ | exact spec_DistancesTo.mono _ _ _ _ _ | exact LeO.refl _ | exact LeO.none _ | refine LeO.ite ?_ ?_ | refine LeO.bind ?_ (fun _ => ?_)) | exact LeO.none _ | refine LeO.ite ?_ ?_ | refine LeO.bind ?_ (fun _ => ?_)
theorem laws_FnExactDistancesTo.mono : ∀ a0 a1 a2 a3 k, LeO (laws_FnExactDistancesTo.f k a0 a1 a2 a3) (laws_FnExactDistancesTo.f (k + 1) a0 a1 a2 a3) := by
 intro a0 a1 a2 a3 k
 have ih0 := laws_FnExactDistancesTo.mono_l k
 unfold laws_FnExactDistancesTo.f
 repeat' first | (with_reducible first | exact ih0 _ _ _ _ _ _ _ | exact impl_DistancesTo.mono _ _ _ _ _ | exact laws_eqIntS.mono _ _ _ | exact laws_eqLinkS.mono _ _ _ | exact laws_heldIntS.mono _ _ _ | exact laws_markIntS.mono _ _ _ | exact laws_markLinkS.mono _ _ _ | exact laws_toLinkS.mono _ _ | exact spec_DistancesTo.mono _ _ _ _ _ | exact LeO.refl _ | exact LeO.none _ | refine LeO.ite ?_ ?_ | refine LeO.bind ?_ (fun _ => ?_)) | exact LeO.none _ | refine LeO.ite ?_ ?_ | refine LeO.bind ?_ (fun _ => ?_)
set_option maxHeartbeats 8000000 in
set_option maxRecDepth 100000 in
theorem laws_FnExactDistancesTo.calls (k : Nat) (A0 : Option Addr) (c0 : Nat) (l0 : List (S117)) (a1 : Int) (a2 : Int) (a3 : Int) (r : Bool) (w : World) (hr0 : Kd.C k117 w A0 l0.length l0) (hc0 : l0.length ≤ c0) (h : laws_FnExactDistancesTo.f k l0 a1 a2 a3 = some r) (hT_ : r = true := by rfl) :
  Calls Try.prog 11 #[.slice A0 l0.length c0, .int .i64 a1, .int .i64 a2, .int .i64 a3] w fun e w' => e = .returned (.bool r) ∧ Below w.heap.size w w' := by
 have HR0 := Aside0.mk hr0
 have HC0 := Aside0.mk hc0
 clear hr0 hc0
 have HB := Aside0.mk (Below.refl w.heap.size w)
 subst hT_
 have H := h
 clear h
 unfold laws_FnExactDistancesTo.f at H
 replace H := bs_ H
 obtain ⟨t279, A5, H⟩ := H
 by_cases c6 : t279 < 0
 ·rw [if_pos c6] at H
  have c6b0 := decide_eq_true c6
  clear c6
  clear H
  go_enter Try.func11, Try.ntmps11
  go_wp2_with (first | ((with_reducible refine gate_callee (f := 54) rfl ?_); refine gl_ 19 Try.func54 (laws_szLinkS.calls _ _ l0 1048576 t279 _ (cq_ HR0) HC0.out A5.out) ?_; rintro e w' ⟨rfl, ⟨nd, rfl⟩⟩; refine ⟨_, rfl, ?_⟩))
  go_ret
  exact ⟨er_, bl_ HB⟩
 ·rw [if_neg c6] at H
  have c6b0 := decide_eq_false c6
  clear c6
  replace H := bs_ H
  obtain ⟨t280, A7, H⟩ := H
  replace H := bs_ H
  obtain ⟨t283, A8, H⟩ := H
  replace H := bs_ H
  obtain ⟨t286, A9, H⟩ := H
  replace H := bs_ H
  obtain ⟨t289, A10, H⟩ := H
  replace H := bs_ H
  obtain ⟨t292, A11, H⟩ := H
  by_cases c12 : t292 = true
  ·subst c12
   try rw [if_pos rfl] at H
   replace H := bs_ H
   obtain ⟨t293, A13, H⟩ := H
   replace H := bs_ H
   obtain ⟨t296, A14, H⟩ := H
   by_cases c15 : t296 = true
   ·subst c15
    try rw [if_pos rfl] at H
    replace H := bs_ H
    obtain ⟨⟨t297, t298⟩, A16, H⟩ := H
    dsimp only at H
    have HC17 := Aside0.mk H
    clear H
    go_enter Try.func11, Try.ntmps11
    go_upto_region 14 with (first | ((with_reducible refine gate_callee (f := 54) rfl ?_); refine gl_ 19 Try.func54 (laws_szLinkS.calls _ _ l0 1048576 t279 _ (cq_ HR0) HC0.out A5.out) ?_; rintro e w' ⟨rfl, ⟨nd, rfl⟩⟩; refine ⟨_, rfl, ?_⟩) | ((with_reducible refine gate_callee (f := 56) rfl ?_); refine gl_ 23 Try.func56 (laws_toLinkS.calls k _ _ l0 t280 _ (cq_ HR0) HC0.out A7.out) ?_; rintro e w18 ⟨v281, rfl, ho0, hb⟩; refine ⟨_, rfl, sh2_ (Kd.R_lower ho0 (below_size (bl_ HB))) (below_step (bl_ HB) hb) ?_⟩; clear HB hb ho0; intro HO282 HB; obtain ⟨Ao19, co19, eo19⟩ := Kd.R_slice HO282.out; subst eo19) | ((with_reducible refine gate_callee (f := 58) rfl ?_); refine gl_ 27 Try.func58 (spec_DistancesTo.calls k _ _ t280 a1 a2 a3 t283 _ (cr_ HO282) (rl_ HO282) A8.out) ?_; rintro e w20 ⟨v284, rfl, ho0, hb⟩; refine ⟨_, rfl, sh3_ (Kd.R_below (ra_ HO282) hb) (Kd.R_lower ho0 (below_size (bl_ HB))) (below_step (bl_ HB) hb) ?_⟩; clear HO282 HB hb ho0; intro HO282 HO285 HB) | ((with_reducible refine gate_callee (f := 56) rfl ?_); refine gl_ 29 Try.func56 (laws_toLinkS.calls k _ _ l0 t286 _ (ck_ HR0 HB) HC0.out A9.out) ?_; rintro e w21 ⟨v287, rfl, ho0, hb⟩; refine ⟨_, rfl, sh4_ (Kd.R_elder' (ra_ HO282) (Kd.R_base ho0) hb) (Kd.R_below (ra_ HO285) hb) (Kd.R_lower (Kd.R_new' ho0 (Kd.R_lt (ra_ HO282))) (below_size (bl_ HB))) (below_step (bl_ HB) hb) ?_⟩; clear HO282 HO285 HB hb ho0; intro HO282 HO285 HO288 HB; obtain ⟨Ao22, co22, eo22⟩ := Kd.R_slice HO288.out; subst eo22) | ((with_reducible refine gate_callee (f := 59) rfl ?_); refine gl_ 34 Try.func59 (impl_DistancesTo.calls k _ _ t286 a1 a2 a3 t289 _ (cr_ HO288) (rl_ HO288) A10.out) ?_; rintro e w23 ⟨v290, rfl, ho0, hb⟩; refine ⟨_, rfl, sh5_ (Kd.R_below (ra_ HO282) hb) (Kd.R_elder' (ra_ HO285) (Kd.R_base ho0) hb) (Kd.R_below (ra_ HO288) hb) (Kd.R_lower (Kd.R_new' ho0 (Kd.R_lt (ra_ HO285))) (below_size (bl_ HB))) (below_step (bl_ HB) hb) ?_⟩; clear HO282 HO285 HO288 HB hb ho0; intro HO282 HO285 HO288 HO291 HB; obtain ⟨Ao24, co24, eo24⟩ := Kd.R_slice HO291.out; subst eo24; obtain ⟨Ao25, co25, eo25⟩ := Kd.R_slice HO285.out; subst eo25) | ((with_reducible refine gate_callee (f := 46) rfl ?_); refine gl_ 37 Try.func46 (laws_eqIntS.calls k _ _ t289 _ _ t283 true _ (cr_ HO291) (rl_ HO291) (cr_ HO285) (rl_ HO285) A11.out) ?_; rintro e w' ⟨rfl, ⟨nd, rfl⟩⟩; refine ⟨_, rfl, ?_⟩) | ((with_reducible refine gate_callee (f := 56) rfl ?_); refine goesL_ (some 41) rfl rfl Try.func56 (by kernel_rfl) rfl #[.slice A0 l0.length c0] rfl mp_ ?_; (with_reducible refine (laws_toLinkS.calls k _ _ l0 t293 _ ?side1 ?side2 A13.out).mono ?_); (case side1 => repeat (first | exact (Kd.C_below HR0.out (bl_ HB)) | (with_reducible refine Kd.C_alloc ?_ _) | (with_reducible refine Kd.C_drewN ?_ _) | (with_reducible refine Kd.C_drew ?_))); (case side2 => exact HC0.out); rintro e w26 ⟨v294, rfl, ho0, hb⟩; refine ⟨_, rfl, sh6_ (Kd.R_elder' (ra_ HO282) (Kd.R_base ho0) hb) (Kd.R_below (ra_ HO285) hb) (Kd.R_elder' (ra_ HO288) (Kd.R_base ho0) hb) (Kd.R_below (ra_ HO291) hb) (Kd.R_lower (Kd.R_new' (Kd.R_new' ho0 (Kd.R_lt (ra_ HO282))) (Kd.R_lt (ra_ HO288))) (below_size (bl_ HB))) (below_step (bl_ HB) hb) ?_⟩; clear HO282 HO285 HO288 HO291 HB hb ho0; intro HO282 HO285 HO288 HO291 HO295 HB; obtain ⟨Ao27, co27, eo27⟩ := Kd.R_slice HO295.out; subst eo27) | ((with_reducible refine gate_callee (f := 35) rfl ?_); refine gl_ 42 Try.func35 (laws_eqLinkS.calls k _ _ t286 _ _ t293 true _ (cr_ HO288) (rl_ HO288) (cr_ HO295) (rl_ HO295) A14.out) ?_; rintro e w28 ⟨rfl, hb⟩; refine ⟨_, rfl, sh6_ (Kd.R_below (ra_ HO282) hb) (Kd.R_below (ra_ HO285) hb) (Kd.R_below (ra_ HO288) hb) (Kd.R_below (ra_ HO291) hb) (Kd.R_below (ra_ HO295) hb) (below_step (bl_ HB) hb) ?_⟩; clear HO282 HO285 HO288 HO291 HO295 HB hb; intro HO282 HO285 HO288 HO291 HO295 HB) | ((with_reducible refine gate_callee (f := 37) rfl ?_); refine goesL_ (some 46) rfl rfl Try.func37 (by kernel_rfl) rfl #[.slice Ao22 t286.length co22, .int .i64 1] rfl mp_ ?_; (with_reducible refine (laws_markLinkS.calls k (fun k_ => some k_ = (.slice Ao22 t286.length co22 : Value).ownBlock) (.slice Ao22 t286.length co22) t286 1 t297 t298 w _ ?side1 ?side2 A16.out).mono ?_); (case side1 => repeat (first | (with_reducible first | exact HB.out | apply below_alloc | apply pw_below_drewN | apply below_drew1) | exact HB.out)); (case side2 => exact Kd.R_tight rfl HO288.out); rintro e w29 ⟨rfl, hy0, hb, hkp⟩; refine ⟨_, rfl, sh6_ (Kd.R_mono (ok' := fun k_ => some k_ ≠ (.slice Ao22 t286.length co22 : Value).ownBlock ∧ some k_ ≠ (.slice Ao27 t293.length co27 : Value).ownBlock) (Kd.R_keptB (HO282.out) hkp (fun k_ hk_ hs_ => (hk_.1.2) hs_)) (fun k_ hk_ => ⟨hx_ hk_, hx_ hk_⟩)) (Kd.R_mono (ok' := fun k_ => some k_ ≠ (.slice Ao24 t289.length co24 : Value).ownBlock) (Kd.R_keptB ((Kd.R_apart' HO285.out (Kd.R_typed HO288.out) (by decide))) hkp (fun k_ hk_ hs_ => (hk_.2) hs_)) (fun k_ hk_ => hx_ hk_)) (Kd.R_reok rfl hy0 (fun k_ e_ => HO288.out.1 k_ e_)) (Kd.R_mono (ok' := fun k_ => some k_ ≠ (.slice Ao25 t283.length co25 : Value).ownBlock) (Kd.R_keptB ((Kd.R_apart' HO291.out (Kd.R_typed HO288.out) (by decide))) hkp (fun k_ hk_ hs_ => (hk_.2) hs_)) (fun k_ hk_ => hx_ hk_)) (Kd.R_mono (ok' := fun k_ => some k_ ≠ (.slice Ao19 t280.length co19 : Value).ownBlock ∧ some k_ ≠ (.slice Ao22 t286.length co22 : Value).ownBlock) (Kd.R_keptB (HO295.out) hkp (fun k_ hk_ hs_ => (hk_.2) hs_)) (fun k_ hk_ => ⟨hx_ hk_, hx_ hk_⟩)) hb ?_⟩; clear HO282 HO285 HO288 HO291 HO295 HB hb hkp hy0; intro HO282 HO285 HO288 HO291 HO295 HB))
    (try simp only [Act.put, List.setIfInBounds_toArray, List.set_cons_zero, List.set_cons_succ])
    go_cut [54] (fun v54 wc => ∃ (kq : Nat) (x54_16 : Bool), v54 = .bool x54_16 ∧ Aside0 (laws_FnExactDistancesTo.j0 kq l0 a1 a2 a3 t283 t289 x54_16 = some true) ∧ Aside0 (kq ≤ k) ∧ Aside0 (Kd.R (Kd.int .i64) 3 wc w.heap.size (fun k_ => some k_ ≠ ((.slice Ao24 t289.length co24) : Value).ownBlock) (.slice Ao25 t283.length co25) t283) ∧ Aside0 (Kd.R (Kd.int .i64) 3 wc w.heap.size (fun k_ => some k_ ≠ ((.slice Ao25 t283.length co25) : Value).ownBlock) (.slice Ao24 t289.length co24) t289) ∧ Aside0 (Below w.heap.size w wc))
    case first =>
     have H := HC17.out
     clear HC17
     by_cases c30 : t297 < 0
     ·rw [if_pos c30] at H
      have c30b0 := decide_eq_true c30
      clear c30
      (first | rw [c30b0] | (simp only [i64_w, i32_w]; rw [c30b0]) | skip)
      have H' := Aside0.mk H
      clear H
      go_wp2
      go_meet
      case rel => exact ⟨_, (true), (by first | rfl | (simp; done) | (simp [*]; done)), H', ⟨by first | omega | exact Nat.le_refl _⟩, ⟨ra_ HO285⟩, ⟨ra_ HO291⟩, ⟨bl_ HB⟩⟩
     ·rw [if_neg c30] at H
      have c30b0 := decide_eq_false c30
      clear c30
      (first | rw [c30b0] | (simp only [i64_w, i32_w]; rw [c30b0]) | skip)
      replace H := bs_ H
      obtain ⟨t299, A31, H⟩ := H
      have H' := Aside0.mk H
      clear H
      go_wp2_with (first | (go_at_call 46; (with_reducible refine (laws_eqIntS.calls k _ _ t289 _ _ t283 t299 _ ?side1 ?side2 ?side3 ?side4 A31.out).mono ?_); (case side1 => repeat (first | exact (Kd.R_reads' HO291.out).2.2 | (with_reducible refine Kd.C_alloc ?_ _) | (with_reducible refine Kd.C_drewN ?_ _) | (with_reducible refine Kd.C_drew ?_))); (case side2 => exact (Kd.R_reads' HO291.out).2.1); (case side3 => repeat (first | exact (Kd.R_reads' HO285.out).2.2 | (with_reducible refine Kd.C_alloc ?_ _) | (with_reducible refine Kd.C_drewN ?_ _) | (with_reducible refine Kd.C_drew ?_))); (case side4 => exact (Kd.R_reads' HO285.out).2.1); rintro e w' ⟨rfl, ⟨nd, rfl⟩⟩))
      go_meet
      case rel => exact ⟨_, (!t299), (by first | rfl | (simp; done) | (simp [*]; done)), H', ⟨by first | omega | exact Nat.le_refl _⟩, ⟨ra_ HO285⟩, ⟨ra_ HO291⟩, ⟨bl_ HB⟩⟩
    case rest =>
     clear HC17
     try clear c1
     try clear p2
     try clear c3
     try clear c4
     try clear c5
     try clear c6
     try clear c6b0
     try clear c11
     try clear c12
     try clear c15
     try clear c30
     try clear c30b0
     obtain ⟨kq, x54_16, rfl, HA, HJ16, HO_10, HO_12, HB⟩ := hcut
     cases kq with
     | zero => exact absurd HA.out (by simp [laws_FnExactDistancesTo.j0])
     | succ kj16 =>
      have H := HA.out
      clear HA
      simp only [laws_FnExactDistancesTo.j0] at H
      by_cases c32 : x54_16 = true
      ·subst c32
       try rw [if_pos rfl] at H
       exact absurd H (by simp)
      ·replace c32 := Bool.eq_false_iff.mpr c32
       subst c32
       have H1 : ((laws_markIntS.f kj16 t289 1).bind fun bt300 => ((laws_heldIntS.f kj16 bt300.2 1).bind fun t302 => (if t302 < 0 then (some false) else (if t302 = bt300.1 then ((laws_toLinkS.f kj16 l0).bind fun t303 => ((impl_DistancesTo.f kj16 t303 a1 a2 a3).bind fun t306 => ((laws_eqIntS.f kj16 t306 t283).bind fun t309 => (if t309 = true then ((laws_heldIntS.f kj16 bt300.2 1).bind fun t310 => (if t310 < 0 then (some false) else (if t310 = bt300.1 then (some true) else (some false)))) else (some false))))) else (some false))))) = some true := by first | (rw [if_neg (show ¬ (false = true) by decide)] at H; exact H) | rfl
       clear H
       have H := H1
       clear H1
       replace H := bs_ H
       obtain ⟨⟨t300, t301⟩, A33, H⟩ := H
       dsimp only at H
       replace H := bs_ H
       obtain ⟨t302, A34, H⟩ := H
       by_cases c35 : t302 < 0
       ·rw [if_pos c35] at H
        have c35b0 := decide_eq_true c35
        clear c35
        exact absurd H (by simp)
       ·rw [if_neg c35] at H
        have c35b0 := decide_eq_false c35
        clear c35
        by_cases c36 : t302 = t300
        ·rw [if_pos c36] at H
         obtain ⟨c36b0, c36b1⟩ := bt_ c36
         clear c36
         replace H := bs_ H
         obtain ⟨t303, A37, H⟩ := H
         replace H := bs_ H
         obtain ⟨t306, A38, H⟩ := H
         replace H := bs_ H
         obtain ⟨t309, A39, H⟩ := H
         by_cases c40 : t309 = true
         ·subst c40
          try rw [if_pos rfl] at H
          replace H := bs_ H
          obtain ⟨t310, A41, H⟩ := H
          by_cases c42 : t310 < 0
          ·rw [if_pos c42] at H
           have c42b0 := decide_eq_true c42
           clear c42
           exact absurd H (by simp)
          ·rw [if_neg c42] at H
           have c42b0 := decide_eq_false c42
           clear c42
           by_cases c43 : t310 = t300
           ·rw [if_pos c43] at H
            obtain ⟨c43b0, c43b1⟩ := bt_ c43
            clear c43
            clear H
            go_wp2_with (first | ((with_reducible refine gate_callee (f := 47) rfl ?_); refine goesL_ (some 57) rfl rfl Try.func47 (by kernel_rfl) rfl #[.slice Ao24 t289.length co24, .int .i64 1] rfl mp_ ?_; (with_reducible refine (laws_markIntS.calls kj16 (fun k_ => some k_ = (.slice Ao24 t289.length co24 : Value).ownBlock) (.slice Ao24 t289.length co24) t289 1 t300 t301 w _ ?side1 ?side2 A33.out).mono ?_); (case side1 => repeat (first | (with_reducible first | exact HB.out | apply below_alloc | apply pw_below_drewN | apply below_drew1) | exact HB.out)); (case side2 => exact Kd.R_tight rfl HO_12.out); rintro e w44 ⟨rfl, hy0, hb, hkp⟩; refine ⟨_, rfl, sh3_ (Kd.R_mono (ok' := fun k_ => some k_ ≠ (.slice Ao24 t289.length co24 : Value).ownBlock) (Kd.R_keptB (HO_10.out) hkp (fun k_ hk_ hs_ => (hk_) hs_)) (fun k_ hk_ => hx_ hk_)) (Kd.R_reok rfl hy0 (fun k_ e_ => HO_12.out.1 k_ e_)) hb ?_⟩; clear HO_10 HO_12 HB hb hkp hy0; intro HO_10 HO_12 HB) | ((with_reducible refine gate_callee (f := 48) rfl ?_); refine goesL_ (some 60) rfl rfl Try.func48 (by kernel_rfl) rfl #[.slice Ao24 t301.length co24, .int .i64 1] rfl (by (try simp only [List.map_toArray, List.map_cons, List.map_nil]); first | done | (rw [show t301.length = t289.length from (Kd.R_reads' HO_12.out).1.symm] <;> rfl) | rfl | (simp only [List.length_drop, List.length_take]; rfl)) ?_; (with_reducible refine (laws_heldIntS.calls kj16 _ _ t301 1 t302 _ ?side1 ?side2 A34.out).mono ?_); (case side1 => repeat (first | exact (Kd.R_reads' HO_12.out).2.2 | (with_reducible refine Kd.C_alloc ?_ _) | (with_reducible refine Kd.C_drewN ?_ _) | (with_reducible refine Kd.C_drew ?_))); (case side2 => rw [show t301.length = t289.length from (Kd.R_reads' HO_12.out).1.symm]; exact (Kd.R_reads' HO_12.out).2.1); rintro e w' ⟨rfl, ⟨nd, rfl⟩⟩; refine ⟨_, rfl, ?_⟩) | ((with_reducible refine gate_callee (f := 56) rfl ?_); refine goesL_ (some 67) rfl rfl Try.func56 (by kernel_rfl) rfl #[.slice A0 l0.length c0] rfl mp_ ?_; (with_reducible refine (laws_toLinkS.calls kj16 _ _ l0 t303 _ ?side1 ?side2 A37.out).mono ?_); (case side1 => repeat (first | exact (Kd.C_below HR0.out (bl_ HB)) | (with_reducible refine Kd.C_alloc ?_ _) | (with_reducible refine Kd.C_drewN ?_ _) | (with_reducible refine Kd.C_drew ?_))); (case side2 => exact HC0.out); rintro e w45 ⟨v304, rfl, ho0, hb⟩; refine ⟨_, rfl, sh4_ (Kd.R_below (ra_ HO_10) hb) (Kd.R_below (ra_ HO_12) hb) (Kd.R_lower ho0 (below_size (bl_ HB))) (below_step (bl_ HB) hb) ?_⟩; clear HO_10 HO_12 HB hb ho0; intro HO_10 HO_12 HO305 HB; obtain ⟨Ao46, co46, eo46⟩ := Kd.R_slice HO305.out; subst eo46) | ((with_reducible refine gate_callee (f := 59) rfl ?_); refine gl_ 71 Try.func59 (impl_DistancesTo.calls kj16 _ _ t303 a1 a2 a3 t306 _ (cr_ HO305) (rl_ HO305) A38.out) ?_; rintro e w47 ⟨v307, rfl, ho0, hb⟩; refine ⟨_, rfl, sh5_ (Kd.R_elder' (ra_ HO_10) (Kd.R_base ho0) hb) (Kd.R_elder' (ra_ HO_12) (Kd.R_base ho0) hb) (Kd.R_below (ra_ HO305) hb) (Kd.R_lower (Kd.R_new' (Kd.R_new' ho0 (Kd.R_lt (ra_ HO_10))) (Kd.R_lt (ra_ HO_12))) (below_size (bl_ HB))) (below_step (bl_ HB) hb) ?_⟩; clear HO_10 HO_12 HO305 HB hb ho0; intro HO_10 HO_12 HO305 HO308 HB; obtain ⟨Ao48, co48, eo48⟩ := Kd.R_slice HO308.out; subst eo48) | ((with_reducible refine gate_callee (f := 46) rfl ?_); refine gl_ 74 Try.func46 (laws_eqIntS.calls kj16 _ _ t306 _ _ t283 true _ (cr_ HO308) (rl_ HO308) (cr_ HO_10) (rl_ HO_10) A39.out) ?_; rintro e w' ⟨rfl, ⟨nd, rfl⟩⟩; refine ⟨_, rfl, ?_⟩) | ((with_reducible refine gate_callee (f := 48) rfl ?_); refine goesL_ (some 78) rfl rfl Try.func48 (by kernel_rfl) rfl #[.slice Ao24 t301.length co24, .int .i64 1] rfl (by (try simp only [List.map_toArray, List.map_cons, List.map_nil]); first | done | (rw [show t301.length = t289.length from (Kd.R_reads' HO_12.out).1.symm] <;> rfl) | rfl | (simp only [List.length_drop, List.length_take]; rfl)) ?_; (with_reducible refine (laws_heldIntS.calls kj16 _ _ t301 1 t310 _ ?side1 ?side2 A41.out).mono ?_); (case side1 => repeat (first | exact (Kd.R_reads' HO_12.out).2.2 | (with_reducible refine Kd.C_alloc ?_ _) | (with_reducible refine Kd.C_drewN ?_ _) | (with_reducible refine Kd.C_drew ?_))); (case side2 => rw [show t301.length = t289.length from (Kd.R_reads' HO_12.out).1.symm]; exact (Kd.R_reads' HO_12.out).2.1); rintro e w' ⟨rfl, ⟨nd, rfl⟩⟩; refine ⟨_, rfl, ?_⟩))
            go_ret
            exact ⟨er_, bl_ HB⟩
           ·rw [if_neg c43] at H
            obtain ⟨c43b0, c43b1⟩ := bn_ c43
            exact absurd H (by simp)
         ·replace c40 := Bool.eq_false_iff.mpr c40
          subst c40
          have H1 : (some false) = some true := by first | (rw [if_neg (show ¬ (false = true) by decide)] at H; exact H) | rfl
          clear H
          have H := H1
          clear H1
          exact absurd H (by simp)
        ·rw [if_neg c36] at H
         obtain ⟨c36b0, c36b1⟩ := bn_ c36
         exact absurd H (by simp)
   ·replace c15 := Bool.eq_false_iff.mpr c15
    subst c15
    have H1 : (some false) = some true := by first | (rw [if_neg (show ¬ (false = true) by decide)] at H; exact H) | rfl
    clear H
    have H := H1
    clear H1
    exact absurd H (by simp)
  ·replace c12 := Bool.eq_false_iff.mpr c12
   subst c12
   have H1 : (some false) = some true := by first | (rw [if_neg (show ¬ (false = true) by decide)] at H; exact H) | rfl
   clear H
   have H := H1
   clear H1
   exact absurd H (by simp)

end Go.Proofs.Ytlljhblilicnfaa.PFnExactDistancesTo
