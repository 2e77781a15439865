-- Written by a program of this session for this claim (the kit's printer with changes).
import Derived.Test.YtcjfalmhohcifaaQFnExactLostTicksx0
import Derived.Test.YtcjfalmhohcifaaQFnExactLostTicksx1
namespace Go.Proofs.Ytcjfalmhohcifaa.PFnExactLostTicks
open Go.RowKit Go.Proofs.YtcjfalmhohcifaaW.PrintWords Go.Proofs.YtcjfalmhohcifaaW.PrintLast Go.Proofs.YtcjfalmhohcifaaW.PrintMore
attribute [local go_sem] max2_int min2_int max_two min_two max_three min_three max_four min_four   -- for this text's walks alone
set_option linter.unusedVariables false
set_option linter.unusedSimpArgs false

/-! ### spec_InSpans: function 80 -/
def spec_InSpans.l0 : Nat → List (S73) → Int → Int → Option (Bool)
 | 0, _, _, _ => none
 | k + 1, x0, x1, x5 => if x5 < (x0.length : Int) then (if 0 ≤ x5 then ((spec_InSpan.f ((rd_T73 x0 x5).f0) ((rd_T73 x0 x5).f1) x1).bind fun t150 => (if t150 = true then (some true) else (spec_InSpans.l0 k x0 x1 (wrap64 (x5 + 1))))) else (none)) else (some false)
def spec_InSpans.f (k : Nat) (l0 : List (S73)) (a1 : Int) : Option (Bool) := spec_InSpans.l0 k l0 a1 0
theorem spec_InSpans.mono_l : ∀ k, (∀ y0 y1 y2, LeO (spec_InSpans.l0 k y0 y1 y2) (spec_InSpans.l0 (k + 1) y0 y1 y2))
 | 0 => fun _ _ _ r h => by simp [spec_InSpans.l0] at h
 | k + 1 => by
  have ih0 := spec_InSpans.mono_l k
  ·intro y0 y1 y2
   unfold spec_InSpans.l0
   repeat' first | (with_reducible first | exact ih0 _ _ _ | exact LeO.refl _ | exact LeO.none _ | refine LeO.ite ?_ ?_ | refine LeO.bind ?_ (fun _ => ?_)) | exact LeO.none _ | refine LeO.ite ?_ ?_ | refine LeO.bind ?_ (fun _ => ?_)
theorem spec_InSpans.mono : ∀ a0 a1 k, LeO (spec_InSpans.f k a0 a1) (spec_InSpans.f (k + 1) a0 a1) := by
 intro a0 a1 k
 have ih0 := spec_InSpans.mono_l k
 unfold spec_InSpans.f
 repeat' first | (with_reducible first | exact ih0 _ _ _ | exact LeO.refl _ | exact LeO.none _ | refine LeO.ite ?_ ?_ | refine LeO.bind ?_ (fun _ => ?_)) | exact LeO.none _ | refine LeO.ite ?_ ?_ | refine LeO.bind ?_ (fun _ => ?_)
set_option maxHeartbeats 8000000 in
set_option maxRecDepth 100000 in
theorem spec_InSpans.calls (k : Nat) (A0 : Option Addr) (c0 : Nat) (l0 : List (S73)) (a1 : Int) (r : Bool) (w : World) (hr0 : Kd.C k73 w A0 l0.length l0) (hc0 : l0.length ≤ c0) (h : spec_InSpans.f k l0 a1 = some r) :
  Calls Try.prog 80 #[.slice A0 l0.length c0, .int .i64 a1] w fun e w' => e = .returned (.bool r) ∧ Below w.heap.size w w' := by
 have hu73 := Try.underlying73
 have HR0 := Aside0.mk hr0
 have HC0 := Aside0.mk hc0
 clear hr0 hc0
 have HB := Aside0.mk (Below.refl w.heap.size w)
 have H := h
 clear h
 unfold spec_InSpans.f at H
 have H' := Aside0.mk H
 clear H
 go_enter Try.func80, Try.ntmps80
 go_wp2
 go_loopg [5] k (fun kq v5 w' => ∃ (x5_1 : Int), v5 = .int .i64 x5_1 ∧ Aside0 (spec_InSpans.l0 kq l0 a1 x5_1 = some r) ∧ Aside0 (kq ≤ k) ∧ Aside0 (Below w.heap.size w w'))
 case atStart => exact ⟨(0), (by first | rfl | (simp; done) | (simp [*]; done)), H', ⟨Nat.le_refl _⟩, ⟨bl_ HB⟩⟩
 case round =>
  clear H'
  try clear p2
  obtain ⟨x5_1, rfl, HA, HK1, HB⟩ := hrel
  cases gk with
  | zero => exact absurd HA.out (by simp [spec_InSpans.l0])
  | succ k1 =>
   have H := HA.out
   clear HA
   simp only [spec_InSpans.l0] at H
   by_cases c3 : x5_1 < (l0.length : Int)
   ·rw [if_pos c3] at H
    have c3b0 := decide_eq_true c3
    clear c3
    replace H := ifn_ H
    obtain ⟨c4, H⟩ := H
    have c4b0 := decide_eq_true c4
    clear c4
    replace H := bs_ H
    obtain ⟨t150, A5, H⟩ := H
    by_cases c6 : t150 = true
    ·subst c6
     rw [if_pos rfl] at H
     obtain rfl := Option.some.inj H
     have p149 : 0 ≤ (x5_1 : Int) := od_
     have q149 : x5_1 < (l0.length : Int) := od_
     obtain ⟨ad149, e149, hx149_0, hx149_1⟩ := at_T73 HR0.out x5_1 p149 q149
     cases e149
     replace hx149_0 := hbc_ HB hx149_0
     replace hx149_1 := hbc_ HB hx149_1
     replace p149 := eq_true p149
     replace q149 := eq_true q149
     go_wp2_with (first | ((with_reducible refine gate_callee (f := 100) rfl ?_); refine gl_ 17 Try.func100 (spec_InSpan.calls ((rd_T73 l0 x5_1).f0) ((rd_T73 l0 x5_1).f1) a1 true _ A5.out) ?_; rintro e w7 ⟨rfl, hb⟩; refine ⟨_, rfl, sh1_ (below_step (bl_ HB) hb) ?_⟩; clear HB hb; intro HB))
     go_ret
     exact ⟨er_, bl_ HB⟩
    ·replace c6 := Bool.eq_false_iff.mpr c6
     subst c6
     have H1 : (spec_InSpans.l0 k1 l0 a1 (wrap64 (x5_1 + 1))) = some r := by rw [if_neg (show ¬ (false = true) by decide)] at H; exact H
     clear H
     have H := H1
     clear H1
     have H' := Aside0.mk H
     clear H
     have p149 : 0 ≤ (x5_1 : Int) := od_
     have q149 : x5_1 < (l0.length : Int) := od_
     obtain ⟨ad149, e149, hx149_0, hx149_1⟩ := at_T73 HR0.out x5_1 p149 q149
     cases e149
     replace hx149_0 := hbc_ HB hx149_0
     replace hx149_1 := hbc_ HB hx149_1
     replace p149 := eq_true p149
     replace q149 := eq_true q149
     go_wp2_with (first | ((with_reducible refine gate_callee (f := 100) rfl ?_); refine gl_ 17 Try.func100 (spec_InSpan.calls ((rd_T73 l0 x5_1).f0) ((rd_T73 l0 x5_1).f1) a1 false _ A5.out) ?_; rintro e w8 ⟨rfl, hb⟩; refine ⟨_, rfl, sh1_ (below_step (bl_ HB) hb) ?_⟩; clear HB hb; intro HB))
     go_roundg k1
     case measure => have := HK1.out; omega
     case rel => exact ⟨(wrap64 (x5_1 + 1)), (by first | rfl | (simp; done) | (simp [*]; done)), H', ⟨by have := HK1.out; omega⟩, ⟨bl_ HB⟩⟩
   ·rw [if_neg c3] at H
    have c3b0 := decide_eq_false c3
    clear c3
    obtain rfl := Option.some.inj H
    go_wp2
    go_ret
    exact ⟨er_, bl_ HB⟩

/-! ### spec_CutSpans: function 43 -/
def spec_CutSpans.l0 : Nat → List (S73) → List (S73) → List (S73) → Int → Int → Option ((List (S73)))
 | 0, _, _, _, _, _ => none
 | k + 1, x0, x1, x5, x6, x7 => if x7 < x6 then ((spec_InSpans.f k x0 x7).bind fun t155 => (if t155 = true then ((spec_InSpans.f k x1 x7).bind fun t156 => (if t156 = true then (spec_CutSpans.l0 k x0 x1 x5 x6 (wrap64 (x7 + 1))) else ((spec_l4Put.f x5 x7).bind fun t157 => (spec_CutSpans.l0 k x0 x1 t157 x6 (wrap64 (x7 + 1)))))) else (spec_CutSpans.l0 k x0 x1 x5 x6 (wrap64 (x7 + 1))))) else (some x5)
def spec_CutSpans.f (k : Nat) (l0 : List (S73)) (l1 : List (S73)) : Option ((List (S73))) := (spec_l4Last.f k l0).bind fun t154 => (spec_CutSpans.l0 k l0 l1 (([] : List (S73))) t154 0)
theorem spec_CutSpans.mono_l : ∀ k, (∀ y0 y1 y2 y3 y4, LeO (spec_CutSpans.l0 k y0 y1 y2 y3 y4) (spec_CutSpans.l0 (k + 1) y0 y1 y2 y3 y4))
 | 0 => fun _ _ _ _ _ r h => by simp [spec_CutSpans.l0] at h
 | k + 1 => by
  have ih0 := spec_CutSpans.mono_l k
  ·intro y0 y1 y2 y3 y4
   unfold spec_CutSpans.l0
   repeat' first | (with_reducible first | exact ih0 _ _ _ _ _ | exact spec_InSpans.mono _ _ _ | exact spec_l4Last.mono _ _ | exact LeO.refl _ | exact LeO.none _ | refine LeO.ite ?_ ?_ | refine LeO.bind ?_ (fun _ => ?_)) | exact LeO.none _ | refine LeO.ite ?_ ?_ | refine LeO.bind ?_ (fun _ => ?_)
theorem spec_CutSpans.mono : ∀ a0 a1 k, LeO (spec_CutSpans.f k a0 a1) (spec_CutSpans.f (k + 1) a0 a1) := by
 intro a0 a1 k
 have ih0 := spec_CutSpans.mono_l k
 unfold spec_CutSpans.f
 repeat' first | (with_reducible first | exact ih0 _ _ _ _ _ | exact spec_InSpans.mono _ _ _ | exact spec_l4Last.mono _ _ | exact LeO.refl _ | exact LeO.none _ | refine LeO.ite ?_ ?_ | refine LeO.bind ?_ (fun _ => ?_)) | exact LeO.none _ | refine LeO.ite ?_ ?_ | refine LeO.bind ?_ (fun _ => ?_)
set_option maxHeartbeats 8000000 in
set_option maxRecDepth 100000 in
theorem spec_CutSpans.calls (k : Nat) (A0 : Option Addr) (c0 : Nat) (l0 : List (S73)) (A1 : Option Addr) (c1 : Nat) (l1 : List (S73)) (r : List (S73)) (w : World) (hr0 : Kd.C k73 w A0 l0.length l0) (hc0 : l0.length ≤ c0) (hr1 : Kd.C k73 w A1 l1.length l1) (hc1 : l1.length ≤ c1) (h : spec_CutSpans.f k l0 l1 = some r) :
  Calls Try.prog 43 #[.slice A0 l0.length c0, .slice A1 l1.length c1] w fun e w' => ∃ v0_ : Value, e = .returned (v0_) ∧ Kd.R k73 73 w' w.heap.size (fun _ => True) v0_ r ∧ Below w.heap.size w w' := by
 have HR0 := Aside0.mk hr0
 have HC0 := Aside0.mk hc0
 clear hr0 hc0
 have HR1 := Aside0.mk hr1
 have HC1 := Aside0.mk hc1
 clear hr1 hc1
 have HB := Aside0.mk (Below.refl w.heap.size w)
 have H := h
 clear h
 unfold spec_CutSpans.f at H
 replace H : ∃ y_ : List (S73), Aside0 (y_ = (([] : List (S73)))) ∧ ((spec_l4Last.f k l0).bind fun t154 => (spec_CutSpans.l0 k l0 l1 y_ t154 0)) = some r := ⟨_, ⟨rfl⟩, yh_ H⟩
 obtain ⟨y151, Ny151, H⟩ := H
 replace H := bs_ H
 obtain ⟨t154, A3, H⟩ := H
 have H' := Aside0.mk H
 clear H
 go_enter Try.func43, Try.ntmps43
 go_wp2_with (first | ((with_reducible refine gate_dst (N := 8) rfl ?_); refine Kd.R_lit k73 _ 73 ?hg (N := 8) ?hd (xs := ([] : List (S73))) (inner := []) (ok := fun _ => True) (okp := fun _ => True) ?hr ?hp (fun _ hk => hk) trivial (Below.refl _ _) (Nat.le_refl _) (by simp) ?_; (case hd => rfl); (case hg => rfl); (case hr => first | (go_simp; done) | (go_simp; rfl)); (case hp => exact (Reps.none _ _)); intro v152 w4 ho5 hb hg_ hnew_; clear hg_ hnew_; (first | rw [← Ny151.out] at ho5 | (simp only [Int.reduceToNat] at ho5; rw [← Ny151.out] at ho5)); refine sh2_ (Kd.R_lower ho5 (below_size (bl_ HB))) (below_step (bl_ HB) hb) ?_; clear HB hb ho5; intro HO153 HB) | ((with_reducible refine gate_callee (f := 79) rfl ?_); refine gl_ 10 Try.func79 (spec_l4Last.calls k _ _ l0 t154 _ (ck_ HR0 HB) HC0.out A3.out) ?_; rintro e w6 ⟨rfl, hb⟩; refine ⟨_, rfl, sh2_ (Kd.R_below (ra_ HO153) hb) (below_step (bl_ HB) hb) ?_⟩; clear HO153 HB hb; intro HO153 HB))
 go_loopg [5, 7] k (fun kq v5 v7 w' => ∃ (x5_1 : List (S73)) (x7_1 : Int), v7 = .int .i64 x7_1 ∧ Aside0 (spec_CutSpans.l0 kq l0 l1 x5_1 t154 x7_1 = some r) ∧ Aside0 (kq ≤ k) ∧ Aside0 (Kd.R k73 73 w' w.heap.size (fun _ => True) v5 x5_1) ∧ Aside0 (Below w.heap.size w w'))
 case atStart => exact ⟨(y151), (0), (by first | rfl | (simp; done) | (simp [*]; done)), H', ⟨Nat.le_refl _⟩, ⟨ra_ HO153⟩, ⟨bl_ HB⟩⟩
 case round =>
  clear H'
  try clear c1
  try clear p2
  try clear c4
  obtain ⟨x5_1, x7_1, rfl, HA, HK1, HO_5, HB⟩ := hrel
  cases gk with
  | zero => exact absurd HA.out (by simp [spec_CutSpans.l0])
  | succ k1 =>
   have H := HA.out
   clear HA
   simp only [spec_CutSpans.l0] at H
   by_cases c7 : x7_1 < t154
   ·rw [if_pos c7] at H
    have c7b0 := decide_eq_true c7
    clear c7
    replace H := bs_ H
    obtain ⟨t155, A8, H⟩ := H
    by_cases c9 : t155 = true
    ·subst c9
     rw [if_pos rfl] at H
     replace H := bs_ H
     obtain ⟨t156, A10, H⟩ := H
     by_cases c11 : t156 = true
     ·subst c11
      rw [if_pos rfl] at H
      have H' := Aside0.mk H
      clear H
      go_wp2_with (first | ((with_reducible refine gate_callee (f := 80) rfl ?_); refine gl_ 18 Try.func80 (spec_InSpans.calls k1 _ _ l0 x7_1 true _ (ck_ HR0 HB) HC0.out A8.out) ?_; rintro e w12 ⟨rfl, hb⟩; refine ⟨_, rfl, sh2_ (Kd.R_below (ra_ HO_5) hb) (below_step (bl_ HB) hb) ?_⟩; clear HO_5 HB hb; intro HO_5 HB) | (go_at_call 80; (with_reducible refine (spec_InSpans.calls k1 _ _ l1 x7_1 true _ ?side1 ?side2 A10.out).mono ?_); (case side1 => exact ck_ HR1 HB); (case side2 => exact HC1.out); rintro e w13 ⟨rfl, hb⟩; refine sh2_ (Kd.R_below (ra_ HO_5) hb) (below_step (bl_ HB) hb) ?_; clear HO_5 HB hb; intro HO_5 HB))
      go_roundg k1
      case measure => have := HK1.out; omega
      case rel => exact ⟨(x5_1), (wrap64 (x7_1 + 1)), (by first | rfl | (simp; done) | (simp [*]; done)), H', ⟨by have := HK1.out; omega⟩, ⟨ra_ HO_5⟩, ⟨bl_ HB⟩⟩
     ·replace c11 := Bool.eq_false_iff.mpr c11
      subst c11
      have H1 : ((spec_l4Put.f x5_1 x7_1).bind fun t157 => (spec_CutSpans.l0 k1 l0 l1 t157 t154 (wrap64 (x7_1 + 1)))) = some r := by rw [if_neg (show ¬ (false = true) by decide)] at H; exact H
      clear H
      have H := H1
      clear H1
      replace H := bs_ H
      obtain ⟨t157, A14, H⟩ := H
      have H' := Aside0.mk H
      clear H
      go_wp2_with (first | ((with_reducible refine gate_callee (f := 80) rfl ?_); refine gl_ 18 Try.func80 (spec_InSpans.calls k1 _ _ l0 x7_1 true _ (ck_ HR0 HB) HC0.out A8.out) ?_; rintro e w15 ⟨rfl, hb⟩; refine ⟨_, rfl, sh2_ (Kd.R_below (ra_ HO_5) hb) (below_step (bl_ HB) hb) ?_⟩; clear HO_5 HB hb; intro HO_5 HB) | (go_at_call 80; (with_reducible refine (spec_InSpans.calls k1 _ _ l1 x7_1 false _ ?side1 ?side2 A10.out).mono ?_); (case side1 => exact ck_ HR1 HB); (case side2 => exact HC1.out); rintro e w16 ⟨rfl, hb⟩; refine sh2_ (Kd.R_below (ra_ HO_5) hb) (below_step (bl_ HB) hb) ?_; clear HO_5 HB hb; intro HO_5 HB; obtain ⟨Ao17, co17, eo17⟩ := Kd.R_slice HO_5.out; subst eo17) | ((with_reducible refine gate_callee (f := 77) rfl ?_); refine goesL_ (some 27) rfl rfl Try.func77 (by kernel_rfl) rfl #[.slice Ao17 x5_1.length co17, .int .i64 x7_1] rfl mp_ ?_; (with_reducible refine (spec_l4Put.calls (fun k_ => some k_ = (.slice Ao17 x5_1.length co17 : Value).ownBlock) (.slice Ao17 x5_1.length co17) x5_1 x7_1 t157 w _ ?side1 ?side2 A14.out).mono ?_); (case side1 => repeat (first | (with_reducible first | exact HB.out | apply below_alloc | apply pw_below_drewN | apply below_drew1) | exact HB.out)); (case side2 => exact Kd.R_tight rfl HO_5.out); rintro e w18 ⟨v158, rfl, ho0, hb, hkp⟩; refine ⟨_, rfl, sh2_ (Kd.R_mono (ok' := fun k_ => True) ho0 (fun k_ hk_ => trivial)) hb ?_⟩; clear HB HO_5 hb hkp ho0; intro HO159 HB))
      go_roundg k1
      case measure => have := HK1.out; omega
      case rel => exact ⟨(t157), (wrap64 (x7_1 + 1)), (by first | rfl | (simp; done) | (simp [*]; done)), H', ⟨by have := HK1.out; omega⟩, ⟨ra_ HO159⟩, ⟨bl_ HB⟩⟩
    ·replace c9 := Bool.eq_false_iff.mpr c9
     subst c9
     have H1 : (spec_CutSpans.l0 k1 l0 l1 x5_1 t154 (wrap64 (x7_1 + 1))) = some r := by rw [if_neg (show ¬ (false = true) by decide)] at H; exact H
     clear H
     have H := H1
     clear H1
     have H' := Aside0.mk H
     clear H
     go_wp2_with (first | ((with_reducible refine gate_callee (f := 80) rfl ?_); refine gl_ 18 Try.func80 (spec_InSpans.calls k1 _ _ l0 x7_1 false _ (ck_ HR0 HB) HC0.out A8.out) ?_; rintro e w19 ⟨rfl, hb⟩; refine ⟨_, rfl, sh2_ (Kd.R_below (ra_ HO_5) hb) (below_step (bl_ HB) hb) ?_⟩; clear HO_5 HB hb; intro HO_5 HB))
     go_roundg k1
     case measure => have := HK1.out; omega
     case rel => exact ⟨(x5_1), (wrap64 (x7_1 + 1)), (by first | rfl | (simp; done) | (simp [*]; done)), H', ⟨by have := HK1.out; omega⟩, ⟨ra_ HO_5⟩, ⟨bl_ HB⟩⟩
   ·rw [if_neg c7] at H
    have c7b0 := decide_eq_false c7
    clear c7
    obtain rfl := Option.some.inj H
    go_wp2
    go_ret
    exact ⟨_, er_, ra_ HO_5, bl_ HB⟩

/-! ### spec_JoinSpans: function 93 -/
def spec_JoinSpans.l0 : Nat → List (S73) → List (S73) → Int → Int → Option ((List (S73)))
 | 0, _, _, _, _ => none
 | k + 1, x0, x3, x4, x5 => if x5 < x4 then ((spec_InSpans.f k x0 x5).bind fun t164 => (if t164 = true then ((spec_l4Put.f x3 x5).bind fun t165 => (spec_JoinSpans.l0 k x0 t165 x4 (wrap64 (x5 + 1)))) else (spec_JoinSpans.l0 k x0 x3 x4 (wrap64 (x5 + 1))))) else (some x3)
def spec_JoinSpans.f (k : Nat) (l0 : List (S73)) : Option ((List (S73))) := (spec_l4Last.f k l0).bind fun t163 => (spec_JoinSpans.l0 k l0 (([] : List (S73))) t163 0)
theorem spec_JoinSpans.mono_l : ∀ k, (∀ y0 y1 y2 y3, LeO (spec_JoinSpans.l0 k y0 y1 y2 y3) (spec_JoinSpans.l0 (k + 1) y0 y1 y2 y3))
 | 0 => fun _ _ _ _ r h => by simp [spec_JoinSpans.l0] at h
 | k + 1 => by
  have ih0 := spec_JoinSpans.mono_l k
  ·intro y0 y1 y2 y3
   unfold spec_JoinSpans.l0
   repeat' first | (with_reducible first | exact ih0 _ _ _ _ | exact spec_InSpans.mono _ _ _ | exact spec_l4Last.mono _ _ | exact LeO.refl _ | exact LeO.none _ | refine LeO.ite ?_ ?_ | refine LeO.bind ?_ (fun _ => ?_)) | exact LeO.none _ | refine LeO.ite ?_ ?_ | refine LeO.bind ?_ (fun _ => ?_)
theorem spec_JoinSpans.mono : ∀ a0 k, LeO (spec_JoinSpans.f k a0) (spec_JoinSpans.f (k + 1) a0) := by
 intro a0 k
 have ih0 := spec_JoinSpans.mono_l k
 unfold spec_JoinSpans.f
 repeat' first | (with_reducible first | exact ih0 _ _ _ _ | exact spec_InSpans.mono _ _ _ | exact spec_l4Last.mono _ _ | exact LeO.refl _ | exact LeO.none _ | refine LeO.ite ?_ ?_ | refine LeO.bind ?_ (fun _ => ?_)) | exact LeO.none _ | refine LeO.ite ?_ ?_ | refine LeO.bind ?_ (fun _ => ?_)
set_option maxHeartbeats 8000000 in
set_option maxRecDepth 100000 in
theorem spec_JoinSpans.calls (k : Nat) (A0 : Option Addr) (c0 : Nat) (l0 : List (S73)) (r : List (S73)) (w : World) (hr0 : Kd.C k73 w A0 l0.length l0) (hc0 : l0.length ≤ c0) (h : spec_JoinSpans.f k l0 = some r) :
  Calls Try.prog 93 #[.slice A0 l0.length c0] w fun e w' => ∃ v0_ : Value, e = .returned (v0_) ∧ Kd.R k73 73 w' w.heap.size (fun _ => True) v0_ r ∧ Below w.heap.size w w' := by
 have HR0 := Aside0.mk hr0
 have HC0 := Aside0.mk hc0
 clear hr0 hc0
 have HB := Aside0.mk (Below.refl w.heap.size w)
 have H := h
 clear h
 unfold spec_JoinSpans.f at H
 replace H : ∃ y_ : List (S73), Aside0 (y_ = (([] : List (S73)))) ∧ ((spec_l4Last.f k l0).bind fun t163 => (spec_JoinSpans.l0 k l0 y_ t163 0)) = some r := ⟨_, ⟨rfl⟩, yh_ H⟩
 obtain ⟨y160, Ny160, H⟩ := H
 replace H := bs_ H
 obtain ⟨t163, A2, H⟩ := H
 have H' := Aside0.mk H
 clear H
 go_enter Try.func93, Try.ntmps93
 go_wp2_with (first | ((with_reducible refine gate_dst (N := 6) rfl ?_); refine Kd.R_lit k73 _ 73 ?hg (N := 6) ?hd (xs := ([] : List (S73))) (inner := []) (ok := fun _ => True) (okp := fun _ => True) ?hr ?hp (fun _ hk => hk) trivial (Below.refl _ _) (Nat.le_refl _) (by simp) ?_; (case hd => rfl); (case hg => rfl); (case hr => first | (go_simp; done) | (go_simp; rfl)); (case hp => exact (Reps.none _ _)); intro v161 w3 ho4 hb hg_ hnew_; clear hg_ hnew_; (first | rw [← Ny160.out] at ho4 | (simp only [Int.reduceToNat] at ho4; rw [← Ny160.out] at ho4)); refine sh2_ (Kd.R_lower ho4 (below_size (bl_ HB))) (below_step (bl_ HB) hb) ?_; clear HB hb ho4; intro HO162 HB) | ((with_reducible refine gate_callee (f := 79) rfl ?_); refine gl_ 8 Try.func79 (spec_l4Last.calls k _ _ l0 t163 _ (ck_ HR0 HB) HC0.out A2.out) ?_; rintro e w5 ⟨rfl, hb⟩; refine ⟨_, rfl, sh2_ (Kd.R_below (ra_ HO162) hb) (below_step (bl_ HB) hb) ?_⟩; clear HO162 HB hb; intro HO162 HB))
 go_loopg [3, 5] k (fun kq v3 v5 w' => ∃ (x3_1 : List (S73)) (x5_1 : Int), v5 = .int .i64 x5_1 ∧ Aside0 (spec_JoinSpans.l0 kq l0 x3_1 t163 x5_1 = some r) ∧ Aside0 (kq ≤ k) ∧ Aside0 (Kd.R k73 73 w' w.heap.size (fun _ => True) v3 x3_1) ∧ Aside0 (Below w.heap.size w w'))
 case atStart => exact ⟨(y160), (0), (by first | rfl | (simp; done) | (simp [*]; done)), H', ⟨Nat.le_refl _⟩, ⟨ra_ HO162⟩, ⟨bl_ HB⟩⟩
 case round =>
  clear H'
  try clear p2
  obtain ⟨x3_1, x5_1, rfl, HA, HK1, HO_3, HB⟩ := hrel
  cases gk with
  | zero => exact absurd HA.out (by simp [spec_JoinSpans.l0])
  | succ k1 =>
   have H := HA.out
   clear HA
   simp only [spec_JoinSpans.l0] at H
   by_cases c6 : x5_1 < t163
   ·rw [if_pos c6] at H
    have c6b0 := decide_eq_true c6
    clear c6
    replace H := bs_ H
    obtain ⟨t164, A7, H⟩ := H
    by_cases c8 : t164 = true
    ·subst c8
     rw [if_pos rfl] at H
     replace H := bs_ H
     obtain ⟨t165, A9, H⟩ := H
     have H' := Aside0.mk H
     clear H
     go_wp2_with (first | ((with_reducible refine gate_callee (f := 80) rfl ?_); refine gl_ 16 Try.func80 (spec_InSpans.calls k1 _ _ l0 x5_1 true _ (ck_ HR0 HB) HC0.out A7.out) ?_; rintro e w10 ⟨rfl, hb⟩; refine ⟨_, rfl, sh2_ (Kd.R_below (ra_ HO_3) hb) (below_step (bl_ HB) hb) ?_⟩; clear HO_3 HB hb; intro HO_3 HB; obtain ⟨Ao11, co11, eo11⟩ := Kd.R_slice HO_3.out; subst eo11) | ((with_reducible refine gate_callee (f := 77) rfl ?_); refine goesL_ (some 19) rfl rfl Try.func77 (by kernel_rfl) rfl #[.slice Ao11 x3_1.length co11, .int .i64 x5_1] rfl mp_ ?_; (with_reducible refine (spec_l4Put.calls (fun k_ => some k_ = (.slice Ao11 x3_1.length co11 : Value).ownBlock) (.slice Ao11 x3_1.length co11) x3_1 x5_1 t165 w _ ?side1 ?side2 A9.out).mono ?_); (case side1 => repeat (first | (with_reducible first | exact HB.out | apply below_alloc | apply pw_below_drewN | apply below_drew1) | exact HB.out)); (case side2 => exact Kd.R_tight rfl HO_3.out); rintro e w12 ⟨v166, rfl, ho0, hb, hkp⟩; refine ⟨_, rfl, sh2_ (Kd.R_mono (ok' := fun k_ => True) ho0 (fun k_ hk_ => trivial)) hb ?_⟩; clear HB HO_3 hb hkp ho0; intro HO167 HB))
     go_roundg k1
     case measure => have := HK1.out; omega
     case rel => exact ⟨(t165), (wrap64 (x5_1 + 1)), (by first | rfl | (simp; done) | (simp [*]; done)), H', ⟨by have := HK1.out; omega⟩, ⟨ra_ HO167⟩, ⟨bl_ HB⟩⟩
    ·replace c8 := Bool.eq_false_iff.mpr c8
     subst c8
     have H1 : (spec_JoinSpans.l0 k1 l0 x3_1 t163 (wrap64 (x5_1 + 1))) = some r := by rw [if_neg (show ¬ (false = true) by decide)] at H; exact H
     clear H
     have H := H1
     clear H1
     have H' := Aside0.mk H
     clear H
     go_wp2_with (first | ((with_reducible refine gate_callee (f := 80) rfl ?_); refine gl_ 16 Try.func80 (spec_InSpans.calls k1 _ _ l0 x5_1 false _ (ck_ HR0 HB) HC0.out A7.out) ?_; rintro e w13 ⟨rfl, hb⟩; refine ⟨_, rfl, sh2_ (Kd.R_below (ra_ HO_3) hb) (below_step (bl_ HB) hb) ?_⟩; clear HO_3 HB hb; intro HO_3 HB))
     go_roundg k1
     case measure => have := HK1.out; omega
     case rel => exact ⟨(x3_1), (wrap64 (x5_1 + 1)), (by first | rfl | (simp; done) | (simp [*]; done)), H', ⟨by have := HK1.out; omega⟩, ⟨ra_ HO_3⟩, ⟨bl_ HB⟩⟩
   ·rw [if_neg c6] at H
    have c6b0 := decide_eq_false c6
    clear c6
    obtain rfl := Option.some.inj H
    go_wp2
    go_ret
    exact ⟨_, er_, ra_ HO_3, bl_ HB⟩

/-! ### spec_CloudSpans: function 58 -/
def spec_CloudSpans.l0 : Nat → List (S87) → Int → List (S73) → Int → Option ((List (S73)))
 | 0, _, _, _, _ => none
 | k + 1, x0, x1, x5, x6 => if x6 < (x0.length : Int) then (if 0 ≤ x6 then (if ((rd_T87 x0 x6).f0) = x1 then (if x5.length < 8796093022208 then (spec_CloudSpans.l0 k x0 x1 (x5 ++ [(⟨(rd_T87 x0 x6).f1, (rd_T87 x0 x6).f2⟩ : S73)]) (wrap64 (x6 + 1))) else (none)) else (spec_CloudSpans.l0 k x0 x1 x5 (wrap64 (x6 + 1)))) else (none)) else ((spec_JoinSpans.f k x5).bind fun t177 => (some t177))
def spec_CloudSpans.f (k : Nat) (l0 : List (S87)) (a1 : Int) : Option ((List (S73))) := spec_CloudSpans.l0 k l0 a1 (([] : List (S73))) 0
theorem spec_CloudSpans.mono_l : ∀ k, (∀ y0 y1 y2 y3, LeO (spec_CloudSpans.l0 k y0 y1 y2 y3) (spec_CloudSpans.l0 (k + 1) y0 y1 y2 y3))
 | 0 => fun _ _ _ _ r h => by simp [spec_CloudSpans.l0] at h
 | k + 1 => by
  have ih0 := spec_CloudSpans.mono_l k
  ·intro y0 y1 y2 y3
   unfold spec_CloudSpans.l0
   repeat' first | (with_reducible first | exact ih0 _ _ _ _ | exact spec_JoinSpans.mono _ _ | exact LeO.refl _ | exact LeO.none _ | refine LeO.ite ?_ ?_ | refine LeO.bind ?_ (fun _ => ?_)) | exact LeO.none _ | refine LeO.ite ?_ ?_ | refine LeO.bind ?_ (fun _ => ?_)
theorem spec_CloudSpans.mono : ∀ a0 a1 k, LeO (spec_CloudSpans.f k a0 a1) (spec_CloudSpans.f (k + 1) a0 a1) := by
 intro a0 a1 k
 have ih0 := spec_CloudSpans.mono_l k
 unfold spec_CloudSpans.f
 repeat' first | (with_reducible first | exact ih0 _ _ _ _ | exact spec_JoinSpans.mono _ _ | exact LeO.refl _ | exact LeO.none _ | refine LeO.ite ?_ ?_ | refine LeO.bind ?_ (fun _ => ?_)) | exact LeO.none _ | refine LeO.ite ?_ ?_ | refine LeO.bind ?_ (fun _ => ?_)
def spec_CloudSpans.T6 : Bool × List (List Nat × List Nat) := (true, [([], []), ([], []), ([], []), ([1, 2], [1, 2]), ([3], [3]), ([4], [4]), ([], []), ([], []), ([6, 7], [6, 7]), ([8], [8]), ([9], [9]), ([5, 10], [5, 10]), ([11], [11]), ([0, 12], [0, 12]), ([13, 13, 0, 1, 2, 3, 4, 5, 6, 7, 8, 9, 10, 11, 12, 13], [0, 13])])
def spec_CloudSpans.B6 : List Nat := [0, 0, 0, 6, 14, 30, 0, 0, 192, 448, 960, 2046, 4094, 8191, 16383]
theorem spec_CloudSpans.tab6 : rtab .any (opsOf Try.f58 6) = spec_CloudSpans.T6 := by kernel_rfl
theorem spec_CloudSpans.bits6 : waitsOk spec_CloudSpans.T6.2 spec_CloudSpans.B6 = true := by kernel_rfl
set_option maxHeartbeats 8000000 in
set_option maxRecDepth 100000 in
theorem spec_CloudSpans.calls (k : Nat) (A0 : Option Addr) (c0 : Nat) (l0 : List (S87)) (a1 : Int) (r : List (S73)) (w : World) (hr0 : Kd.C k87 w A0 l0.length l0) (hc0 : l0.length ≤ c0) (h : spec_CloudSpans.f k l0 a1 = some r) :
  Calls Try.prog 58 #[.slice A0 l0.length c0, .int .i64 a1] w fun e w' => ∃ v0_ : Value, e = .returned (v0_) ∧ Kd.R k73 73 w' w.heap.size (fun _ => True) v0_ r ∧ Below w.heap.size w w' := by
 have hu73 := Try.underlying73
 have HR0 := Aside0.mk hr0
 have HC0 := Aside0.mk hc0
 clear hr0 hc0
 have HB := Aside0.mk (Below.refl w.heap.size w)
 have H := h
 clear h
 unfold spec_CloudSpans.f at H
 replace H : ∃ y_ : List (S73), Aside0 (y_ = (([] : List (S73)))) ∧ (spec_CloudSpans.l0 k l0 a1 y_ 0) = some r := ⟨_, ⟨rfl⟩, yh_ H⟩
 obtain ⟨y168, Ny168, H⟩ := H
 have H' := Aside0.mk H
 clear H
 go_enter Try.func58, Try.ntmps58
 go_wp2_with (first | ((with_reducible refine gate_dst (N := 7) rfl ?_); refine Kd.R_lit k73 _ 73 ?hg (N := 7) ?hd (xs := ([] : List (S73))) (inner := []) (ok := fun _ => True) (okp := fun _ => True) ?hr ?hp (fun _ hk => hk) trivial (Below.refl _ _) (Nat.le_refl _) (by simp) ?_; (case hd => rfl); (case hg => rfl); (case hr => first | (go_simp; done) | (go_simp; rfl)); (case hp => exact (Reps.none _ _)); intro v169 w3 ho4 hb hg_ hnew_; clear hg_ hnew_; (first | rw [← Ny168.out] at ho4 | (simp only [Int.reduceToNat] at ho4; rw [← Ny168.out] at ho4)); refine sh2_ (Kd.R_lower ho4 (below_size (bl_ HB))) (below_step (bl_ HB) hb) ?_; clear HB hb ho4; intro HO170 HB))
 go_loopg [5, 6] k (fun kq v5 v6 w' => ∃ (x5_1 : List (S73)) (x6_1 : Int), v6 = .int .i64 x6_1 ∧ Aside0 (spec_CloudSpans.l0 kq l0 a1 x5_1 x6_1 = some r) ∧ Aside0 (kq ≤ k) ∧ Aside0 (Kd.R k73 73 w' w.heap.size (fun _ => True) v5 x5_1) ∧ Aside0 (Below w.heap.size w w'))
 case atStart => exact ⟨(y168), (0), (by first | rfl | (simp; done) | (simp [*]; done)), H', ⟨Nat.le_refl _⟩, ⟨ra_ HO170⟩, ⟨bl_ HB⟩⟩
 case round =>
  clear H'
  try clear p2
  obtain ⟨x5_1, x6_1, rfl, HA, HK1, HO_5, HB⟩ := hrel
  cases gk with
  | zero => exact absurd HA.out (by simp [spec_CloudSpans.l0])
  | succ k1 =>
   have H := HA.out
   clear HA
   simp only [spec_CloudSpans.l0] at H
   by_cases c5 : x6_1 < (l0.length : Int)
   ·rw [if_pos c5] at H
    have c5b0 := decide_eq_true c5
    clear c5
    replace H := ifn_ H
    obtain ⟨c6, H⟩ := H
    have c6b0 := decide_eq_true c6
    clear c6
    by_cases c7 : ((rd_T87 l0 x6_1).f0) = a1
    ·rw [if_pos c7] at H
     obtain ⟨c7b0, c7b1⟩ := bt_ c7
     clear c7
     replace H := ifn_ H
     obtain ⟨c8, H⟩ := H
     have LMc8 := Aside0.mk c8
     clear c8
     replace H : ∃ y_ : List (S73), Aside0 (y_ = (x5_1 ++ [(⟨(rd_T87 l0 x6_1).f1, (rd_T87 l0 x6_1).f2⟩ : S73)])) ∧ (spec_CloudSpans.l0 k1 l0 a1 y_ (wrap64 (x6_1 + 1))) = some r := ⟨_, ⟨rfl⟩, yh_ H⟩
     obtain ⟨y174, Ny174, H⟩ := H
     have H' := Aside0.mk H
     clear H
     have p171 : 0 ≤ (x6_1 : Int) := od_
     have q171 : x6_1 < (l0.length : Int) := od_
     obtain ⟨ad171, e171, hx171_0, hx171_1, hx171_2⟩ := at_T87 HR0.out x6_1 p171 q171
     cases e171
     replace hx171_0 := hbc_ HB hx171_0
     replace hx171_1 := hbc_ HB hx171_1
     replace hx171_2 := hbc_ HB hx171_2
     replace p171 := eq_true p171
     replace q171 := eq_true q171
     try go_wp2
     refine sh2_ (Kd.R_drew HO_5.out) (below_drew1 HB.out) ?_
     clear HO_5 HB
     intro HO_5 HB
     have p172 : 0 ≤ (x6_1 : Int) := od_
     have q172 : x6_1 < (l0.length : Int) := od_
     obtain ⟨ad172, e172, hx172_0, hx172_1, hx172_2⟩ := at_T87 HR0.out x6_1 p172 q172
     have hw172_2 := hx172_2
     have hw172_1 := hx172_1
     have hw172_0 := hx172_0
     obtain rfl : ad171 = ad172 := (by injection e172)
     replace hx172_0 := hbc_ HB hx172_0
     replace hx172_1 := hbc_ HB hx172_1
     replace hx172_2 := hbc_ HB hx172_2
     replace p172 := eq_true p172
     replace q172 := eq_true q172
     have p173 : 0 ≤ (x6_1 : Int) := od_
     have q173 : x6_1 < (l0.length : Int) := od_
     obtain ⟨ad173, e173, hx173_0, hx173_1, hx173_2⟩ := at_T87 HR0.out x6_1 p173 q173
     have hw173_2 := hx173_2
     have hw173_1 := hx173_1
     have hw173_0 := hx173_0
     obtain rfl : ad171 = ad173 := (by injection e173)
     replace hx173_0 := hbc_ HB hx173_0
     replace hx173_1 := hbc_ HB hx173_1
     replace hx173_2 := hbc_ HB hx173_2
     replace p173 := eq_true p173
     replace q173 := eq_true q173
     refine start_ (n := 15) (S := fun w' => w'.cell? (ad171.add ((x6_1).toNat * 3)) = some (.int .i64 ((rd_T87 l0 x6_1).f0)) ∧ w'.cell? ⟨(ad171.add ((x6_1).toNat * 3)).block, (ad171.add ((x6_1).toNat * 3)).off + 1, none⟩ = some (.int .i64 ((rd_T87 l0 x6_1).f1)) ∧ w'.cell? ⟨(ad171.add ((x6_1).toNat * 3)).block, (ad171.add ((x6_1).toNat * 3)).off + 2, none⟩ = some (.int .i64 ((rd_T87 l0 x6_1).f2)) ∧ w'.cell? (ad171.add ((x6_1).toNat * 3)) = some (.int .i64 ((rd_T87 l0 x6_1).f0)) ∧ w'.cell? ⟨(ad171.add ((x6_1).toNat * 3)).block, (ad171.add ((x6_1).toNat * 3)).off + 1, none⟩ = some (.int .i64 ((rd_T87 l0 x6_1).f1)) ∧ w'.cell? ⟨(ad171.add ((x6_1).toNat * 3)).block, (ad171.add ((x6_1).toNat * 3)).off + 2, none⟩ = some (.int .i64 ((rd_T87 l0 x6_1).f2))) (ds := []) #[false, false, false, false, false, false, false, false, false, false, false, false, false, false, false] (by kernel_rfl) rfl rfl ⟨((HB.out.cell (World.block_lt_of_cell? w _ hw172_0)).trans hw172_0), ((HB.out.cell (World.block_lt_of_cell? w _ hw172_1)).trans hw172_1), ((HB.out.cell (World.block_lt_of_cell? w _ hw172_2)).trans hw172_2), ((HB.out.cell (World.block_lt_of_cell? w _ hw173_0)).trans hw173_0), ((HB.out.cell (World.block_lt_of_cell? w _ hw173_1)).trans hw173_1), ((HB.out.cell (World.block_lt_of_cell? w _ hw173_2)).trans hw173_2)⟩ (fun hHeld => ?_); refine with_tabW spec_CloudSpans.tab6 spec_CloudSpans.bits6 (fun HT_ HW_ => ?_)
     generalize wr.drew = w9 at HO_5 HB hx172_0 hx172_1 hx172_2 hx173_0 hx173_1 hx173_2 hHeld ⊢
     refine pur_ 0 #[true, false, false, false, false, false, false, false, false, false, false, false, false, false, false] (some 21) HT_ ?_
     refine pur_ 1 #[true, true, false, false, false, false, false, false, false, false, false, false, false, false, false] (some 22) HT_ ?_
     refine pur_ 2 #[true, true, true, false, false, false, false, false, false, false, false, false, false, false, false] (some 23) HT_ ?_
     refine pur_ 3 #[true, true, true, true, false, false, false, false, false, false, false, false, false, false, false] (some 24) HT_ ?_
     refine pur_ 4 #[true, true, true, true, true, false, false, false, false, false, false, false, false, false, false] (some 25) HT_ ?_
     refine pur_ 6 #[true, true, true, true, true, false, true, false, false, false, false, false, false, false, false] (some 27) HT_ ?_
     refine pur_ 7 #[true, true, true, true, true, false, true, true, false, false, false, false, false, false, false] (some 28) HT_ ?_
     refine pur_ 8 #[true, true, true, true, true, false, true, true, true, false, false, false, false, false, false] (some 29) HT_ ?_
     refine pur_ 9 #[true, true, true, true, true, false, true, true, true, true, false, false, false, false, false] (some 30) HT_ ?_
     refine tak_ 5 #[true, true, true, true, true, true, true, true, true, true, false, false, false, false, false] (some 26) HT_ HW_ hHeld ?_
     refine tak_ 10 #[true, true, true, true, true, true, true, true, true, true, true, false, false, false, false] (some 31) HT_ HW_ hHeld ?_
     refine pur_ 11 #[true, true, true, true, true, true, true, true, true, true, true, true, false, false, false] (some 32) HT_ ?_
     refine one_ (i := 12) (N := some 33) #[true, true, true, true, true, true, true, true, true, true, true, true, true, false, false] rfl rfl (one_of HT_.out (by kernel_rfl)) (by decide) (fun K hK => ?_)
     refine value_ (w1 := ?_) (v := ?_) (by rfl) rfl ?_ ?_
     rotate_left 2
     ·go_simp
      constructor
      ·rfl
      ·rfl
     refine hK.out _ _ ⟨(World.cell?_alloc_lt _ _ _ (World.block_lt_of_cell? _ _ (((HB.out.cell (World.block_lt_of_cell? w _ hw172_0)).trans hw172_0)))).trans (((HB.out.cell (World.block_lt_of_cell? w _ hw172_0)).trans hw172_0)), (World.cell?_alloc_lt _ _ _ (World.block_lt_of_cell? _ _ (((HB.out.cell (World.block_lt_of_cell? w _ hw172_1)).trans hw172_1)))).trans (((HB.out.cell (World.block_lt_of_cell? w _ hw172_1)).trans hw172_1)), (World.cell?_alloc_lt _ _ _ (World.block_lt_of_cell? _ _ (((HB.out.cell (World.block_lt_of_cell? w _ hw172_2)).trans hw172_2)))).trans (((HB.out.cell (World.block_lt_of_cell? w _ hw172_2)).trans hw172_2)), (World.cell?_alloc_lt _ _ _ (World.block_lt_of_cell? _ _ (((HB.out.cell (World.block_lt_of_cell? w _ hw173_0)).trans hw173_0)))).trans (((HB.out.cell (World.block_lt_of_cell? w _ hw173_0)).trans hw173_0)), (World.cell?_alloc_lt _ _ _ (World.block_lt_of_cell? _ _ (((HB.out.cell (World.block_lt_of_cell? w _ hw173_1)).trans hw173_1)))).trans (((HB.out.cell (World.block_lt_of_cell? w _ hw173_1)).trans hw173_1)), (World.cell?_alloc_lt _ _ _ (World.block_lt_of_cell? _ _ (((HB.out.cell (World.block_lt_of_cell? w _ hw173_2)).trans hw173_2)))).trans (((HB.out.cell (World.block_lt_of_cell? w _ hw173_2)).trans hw173_2))⟩ (fun hHeld => ?_)
     clear hK K
     refine norm_ (a' := ?_) ?_ ?_
     rotate_left
     ·show Act.put _ (some 33) _ = _
      simp only [Act.put, List.setIfInBounds_toArray, List.set_cons_zero, List.set_cons_succ, i64_w, i32_w]
      rfl
     refine one_ (i := 13) (N := some 34) #[true, true, true, true, true, true, true, true, true, true, true, true, true, true, false] rfl rfl (one_of HT_.out (by kernel_rfl)) (by decide) (fun K hK => ?_)
     refine Kd.R_append_step k73 (w0 := w) w.heap.size (by rfl) (.tmp 21) (.tmp 33) 28 73 (.agg #[(.int .i64 0), (.int .i64 0)]) 16 rfl Try.underlying28 info73 rfl (by decide) (by omega) u5 x5_1 (⟨(rd_T87 l0 x6_1).f1, (rd_T87 l0 x6_1).f2⟩ : S73) [.int .i64 ((rd_T87 l0 x6_1).f1), .int .i64 ((rd_T87 l0 x6_1).f2)] (fun _ => True) (fun _ => False) rfl rfl ?aP (fun _ hk => hk.elim) ?aF ?aO ?aB ?aS ?aL ?_
     (case aP => exact k73_mkM _ _ _ (⟨(rd_T87 l0 x6_1).f1, (rd_T87 l0 x6_1).f2⟩ : S73))
     (case aB => exact (bl_ HB))
     (case aF => exact (fun _ _ => trivial))
     (case aO => exact (ra_ HO_5))
     (case aS => exact (below_size (bl_ HB)))
     (case aL => have := LMc8.out; omega)
     intro v175 w10 ho hb hg hat
     rw [← Ny174.out] at ho
     refine sh2_ hb ho ?_
     clear HB HO_5 ho hb hg hat
     intro HB HO176
     refine hK.out _ _ ⟨((HB.out.cell (World.block_lt_of_cell? w _ hw172_0)).trans hw172_0), ((HB.out.cell (World.block_lt_of_cell? w _ hw172_1)).trans hw172_1), ((HB.out.cell (World.block_lt_of_cell? w _ hw172_2)).trans hw172_2), ((HB.out.cell (World.block_lt_of_cell? w _ hw173_0)).trans hw173_0), ((HB.out.cell (World.block_lt_of_cell? w _ hw173_1)).trans hw173_1), ((HB.out.cell (World.block_lt_of_cell? w _ hw173_2)).trans hw173_2)⟩ (fun hHeld => ?_)
     clear hK K
     refine norm_ (a' := ?_) ?_ ?_
     rotate_left
     ·show Act.put _ (some 34) _ = _
      simp only [Act.put, List.setIfInBounds_toArray, List.set_cons_zero, List.set_cons_succ, i64_w, i32_w]
      rfl
     refine pur_ 14 #[true, true, true, true, true, true, true, true, true, true, true, true, true, true, true] (some 5) HT_ ?_
     refine done_ (done_of HT_.out (by kernel_rfl)) ?_
     try go_wp2
     go_roundg k1
     case measure => have := HK1.out; omega
     case rel => exact ⟨(y174), (wrap64 (x6_1 + 1)), (by first | rfl | (simp; done) | (simp [*]; done)), H', ⟨by have := HK1.out; omega⟩, ⟨ra_ HO176⟩, ⟨bl_ HB⟩⟩
    ·rw [if_neg c7] at H
     obtain ⟨c7b0, c7b1⟩ := bn_ c7
     have H' := Aside0.mk H
     clear H
     have p171 : 0 ≤ (x6_1 : Int) := od_
     have q171 : x6_1 < (l0.length : Int) := od_
     obtain ⟨ad171, e171, hx171_0, hx171_1, hx171_2⟩ := at_T87 HR0.out x6_1 p171 q171
     cases e171
     replace hx171_0 := hbc_ HB hx171_0
     replace hx171_1 := hbc_ HB hx171_1
     replace hx171_2 := hbc_ HB hx171_2
     replace p171 := eq_true p171
     replace q171 := eq_true q171
     go_wp2
     go_roundg k1
     case measure => have := HK1.out; omega
     case rel => exact ⟨(x5_1), (wrap64 (x6_1 + 1)), (by first | rfl | (simp; done) | (simp [*]; done)), H', ⟨by have := HK1.out; omega⟩, ⟨ra_ HO_5⟩, ⟨bl_ HB⟩⟩
   ·rw [if_neg c5] at H
    have c5b0 : decide (x6_1 < (l0.length : Int)) = false := decide_eq_false c5
    clear c5
    replace H := bs_ H
    obtain ⟨t177, A11, H⟩ := H
    obtain rfl := Option.some.inj H
    obtain ⟨Ao12, co12, eo12⟩ := Kd.R_slice HO_5.out
    subst eo12
    go_wp2_with (first | ((with_reducible refine gate_callee (f := 93) rfl ?_); refine gl_ 36 Try.func93 (spec_JoinSpans.calls k1 _ _ x5_1 t177 _ (cr_ HO_5) (rl_ HO_5) A11.out) ?_; rintro e w13 ⟨v178, rfl, ho0, hb⟩; refine ⟨_, rfl, sh3_ (Kd.R_elder' (ra_ HO_5) (Kd.R_base ho0) hb) (Kd.R_lower (Kd.R_new' ho0 (Kd.R_lt (ra_ HO_5))) (below_size (bl_ HB))) (below_step (bl_ HB) hb) ?_⟩; clear HO_5 HB hb ho0; intro HO_5 HO179 HB))
    go_ret
    exact ⟨_, er_, by (with_reducible repeat (first | apply Kd.R_alloc | apply Kd.R_drewN | apply Kd.R_drew)); exact Kd.R_mono HO179.out (fun _ hk => trivial), bl_ HB⟩

end Go.Proofs.Ytcjfalmhohcifaa.PFnExactLostTicks
