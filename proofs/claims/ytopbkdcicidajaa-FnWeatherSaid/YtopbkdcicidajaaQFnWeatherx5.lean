-- Written by a program of this session for this claim (the kit's printer with changes).
import Derived.Test.YtopbkdcicidajaaQFnWeatherx0
import Derived.Test.YtopbkdcicidajaaQFnWeatherx1
import Derived.Test.YtopbkdcicidajaaQFnWeatherx3
import Derived.Test.YtopbkdcicidajaaQFnWeatherx4
namespace Go.Proofs.Ytopbkdcicidajaa.PFnWeather
open Go.RowKit Go.Proofs.YtopbkdcicidajaaW.PrintWords Go.Proofs.YtopbkdcicidajaaW.PrintLast Go.Proofs.YtopbkdcicidajaaW.PrintMore
attribute [local go_sem] max2_int min2_int max_two min_two max_three min_three max_four min_four   -- for this text's walks alone
set_option linter.unusedVariables false
set_option linter.unusedSimpArgs false

/-! ### spec_JoinSpans: function 117 -/
def spec_JoinSpans.l0 : Nat → List (S82) → List (S82) → Int → Int → Option ((List (S82)))
 | 0, _, _, _, _ => none
 | k + 1, x0, x3, x4, x5 => if x5 < x4 then ((spec_InSpans.f k x0 x5).bind fun t378 => (if t378 = true then ((spec_l4Put.f x3 x5).bind fun t379 => (spec_JoinSpans.l0 k x0 t379 x4 (wrap64 (x5 + 1)))) else (spec_JoinSpans.l0 k x0 x3 x4 (wrap64 (x5 + 1))))) else (some x3)
def spec_JoinSpans.f (k : Nat) (l0 : List (S82)) : Option ((List (S82))) := (spec_l4Last.f k l0).bind fun t377 => (spec_JoinSpans.l0 k l0 (([] : List (S82))) t377 0)
theorem spec_JoinSpans.mono_l : ∀ k, (∀ y0 y1 y2 y3, LeO (spec_JoinSpans.l0 k y0 y1 y2 y3) (spec_JoinSpans.l0 (k + 1) y0 y1 y2 y3))
 | 0 => fun _ _ _ _ r h => by simp [spec_JoinSpans.l0] at h
 | k + 1 => by
  have ih0 := spec_JoinSpans.mono_l k
  ·intro y0 y1 y2 y3
   unfold spec_JoinSpans.l0
   repeat' first | (with_reducible first | exact ih0 _ _ _ _ | exact spec_InSpans.mono _ _ _ | exact spec_l4Last.mono _ _ | exact LeO.refl _ | exact LeO.none _ | refine LeO.ite ?_ ?_ | refine LeO.bind ?_ (fun _ => ?_)) | exact LeO.none _ | refine LeO.ite ?_ ?_ | refine LeO.bind ?_ (fun _ => ?_)
theorem spec_JoinSpans.mono : ∀ a0 k, LeO (spec_JoinSpans.f k a0) (spec_JoinSpans.f (k + 1) a0) := by
 intro a0 k
 have ih0 := spec_JoinSpans.mono_l k
 unfold spec_JoinSpans.f
 repeat' first | (with_reducible first | exact ih0 _ _ _ _ | exact spec_InSpans.mono _ _ _ | exact spec_l4Last.mono _ _ | exact LeO.refl _ | exact LeO.none _ | refine LeO.ite ?_ ?_ | refine LeO.bind ?_ (fun _ => ?_)) | exact LeO.none _ | refine LeO.ite ?_ ?_ | refine LeO.bind ?_ (fun _ => ?_)
set_option maxHeartbeats 8000000 in
set_option maxRecDepth 100000 in
theorem spec_JoinSpans.calls (k : Nat) (A0 : Option Addr) (c0 : Nat) (l0 : List (S82)) (r : List (S82)) (w : World) (hr0 : Kd.C k82 w A0 l0.length l0) (hc0 : l0.length ≤ c0) (h : spec_JoinSpans.f k l0 = some r) :
  Calls Try.prog 117 #[.slice A0 l0.length c0] w fun e w' => ∃ v0_ : Value, e = .returned (v0_) ∧ Kd.R k82 82 w' w.heap.size (fun _ => True) v0_ r ∧ Below w.heap.size w w' := by
 have HR0 := Aside0.mk hr0
 have HC0 := Aside0.mk hc0
 clear hr0 hc0
 have HB := Aside0.mk (Below.refl w.heap.size w)
 have H := h
 clear h
 unfold spec_JoinSpans.f at H
 replace H : ∃ y_ : List (S82), Aside0 (y_ = (([] : List (S82)))) ∧ ((spec_l4Last.f k l0).bind fun t377 => (spec_JoinSpans.l0 k l0 y_ t377 0)) = some r := ⟨_, ⟨rfl⟩, yh_ H⟩
 obtain ⟨y374, Ny374, H⟩ := H
 replace H := bs_ H
 obtain ⟨t377, A2, H⟩ := H
 have H' := Aside0.mk H
 clear H
 go_enter Try.func117, Try.ntmps117
 go_wp2_with (first | ((with_reducible refine gate_dst (N := 6) rfl ?_); refine Kd.R_lit k82 _ 82 ?hg (N := 6) ?hd (xs := ([] : List (S82))) (inner := []) (ok := fun _ => True) (okp := fun _ => True) ?hr ?hp (fun _ hk => hk) trivial (Below.refl _ _) (Nat.le_refl _) (by simp) ?_; (case hd => rfl); (case hg => rfl); (case hr => first | (go_simp; done) | (go_simp; rfl)); (case hp => exact (Reps.none _ _)); intro v375 w3 ho4 hb hg_ hnew_; clear hg_ hnew_; (first | rw [← Ny374.out] at ho4 | (simp only [Int.reduceToNat] at ho4; rw [← Ny374.out] at ho4)); refine sh2_ (Kd.R_lower ho4 (below_size (bl_ HB))) (below_step (bl_ HB) hb) ?_; clear HB hb ho4; intro HO376 HB) | ((with_reducible refine gate_callee (f := 104) rfl ?_); refine gl_ 8 Try.func104 (spec_l4Last.calls k _ _ l0 t377 _ (ck_ HR0 HB) HC0.out A2.out) ?_; rintro e w5 ⟨rfl, hb⟩; refine ⟨_, rfl, sh2_ (Kd.R_below (ra_ HO376) hb) (below_step (bl_ HB) hb) ?_⟩; clear HO376 HB hb; intro HO376 HB))
 go_loopg [3, 5] k (fun kq v3 v5 w' => ∃ (x3_1 : List (S82)) (x5_1 : Int), v5 = .int .i64 x5_1 ∧ Aside0 (spec_JoinSpans.l0 kq l0 x3_1 t377 x5_1 = some r) ∧ Aside0 (kq ≤ k) ∧ Aside0 (Kd.R k82 82 w' w.heap.size (fun _ => True) v3 x3_1) ∧ Aside0 (Below w.heap.size w w'))
 case atStart => exact ⟨(y374), (0), (by first | rfl | (simp; done) | (simp [*]; done)), H', ⟨Nat.le_refl _⟩, ⟨ra_ HO376⟩, ⟨bl_ HB⟩⟩
 case round =>
  clear H'
  try clear c1
  try clear p2
  obtain ⟨x3_1, x5_1, rfl, HA, HK1, HO_3, HB⟩ := hrel
  cases gk with
  | zero => exact absurd HA.out (by simp [spec_JoinSpans.l0])
  | succ k1 =>
   have H := HA.out
   clear HA
   simp only [spec_JoinSpans.l0] at H
   by_cases c6 : x5_1 < t377
   ·rw [if_pos c6] at H
    have c6b0 := decide_eq_true c6
    clear c6
    replace H := bs_ H
    obtain ⟨t378, A7, H⟩ := H
    by_cases c8 : t378 = true
    ·subst c8
     rw [if_pos rfl] at H
     replace H := bs_ H
     obtain ⟨t379, A9, H⟩ := H
     have H' := Aside0.mk H
     clear H
     go_wp2_with (first | ((with_reducible refine gate_callee (f := 105) rfl ?_); refine gl_ 16 Try.func105 (spec_InSpans.calls k1 _ _ l0 x5_1 true _ (ck_ HR0 HB) HC0.out A7.out) ?_; rintro e w10 ⟨rfl, hb⟩; refine ⟨_, rfl, sh2_ (Kd.R_below (ra_ HO_3) hb) (below_step (bl_ HB) hb) ?_⟩; clear HO_3 HB hb; intro HO_3 HB; obtain ⟨Ao11, co11, eo11⟩ := Kd.R_slice HO_3.out; subst eo11) | ((with_reducible refine gate_callee (f := 106) rfl ?_); refine goesL_ (some 19) rfl rfl Try.func106 (by kernel_rfl) rfl #[.slice Ao11 x3_1.length co11, .int .i64 x5_1] rfl mp_ ?_; (with_reducible refine (spec_l4Put.calls (fun k_ => some k_ = (.slice Ao11 x3_1.length co11 : Value).ownBlock) (.slice Ao11 x3_1.length co11) x3_1 x5_1 t379 w _ ?side1 ?side2 A9.out).mono ?_); (case side1 => repeat (first | (with_reducible first | exact HB.out | apply below_alloc | apply pw_below_drewN | apply below_drew1) | exact HB.out)); (case side2 => exact Kd.R_tight rfl HO_3.out); rintro e w12 ⟨v380, rfl, ho0, hb, hkp⟩; refine ⟨_, rfl, sh2_ (Kd.R_mono (ok' := fun k_ => True) ho0 (fun k_ hk_ => trivial)) hb ?_⟩; clear HB HO_3 hb hkp ho0; intro HO381 HB))
     go_roundg k1
     case measure => have := HK1.out; omega
     case rel => exact ⟨(t379), (wrap64 (x5_1 + 1)), (by first | rfl | (simp; done) | (simp [*]; done)), H', ⟨by have := HK1.out; omega⟩, ⟨ra_ HO381⟩, ⟨bl_ HB⟩⟩
    ·replace c8 := Bool.eq_false_iff.mpr c8
     subst c8
     have H1 : (spec_JoinSpans.l0 k1 l0 x3_1 t377 (wrap64 (x5_1 + 1))) = some r := by rw [if_neg (show ¬ (false = true) by decide)] at H; exact H
     clear H
     have H := H1
     clear H1
     have H' := Aside0.mk H
     clear H
     go_wp2_with (first | ((with_reducible refine gate_callee (f := 105) rfl ?_); refine gl_ 16 Try.func105 (spec_InSpans.calls k1 _ _ l0 x5_1 false _ (ck_ HR0 HB) HC0.out A7.out) ?_; rintro e w13 ⟨rfl, hb⟩; refine ⟨_, rfl, sh2_ (Kd.R_below (ra_ HO_3) hb) (below_step (bl_ HB) hb) ?_⟩; clear HO_3 HB hb; intro HO_3 HB))
     go_roundg k1
     case measure => have := HK1.out; omega
     case rel => exact ⟨(x3_1), (wrap64 (x5_1 + 1)), (by first | rfl | (simp; done) | (simp [*]; done)), H', ⟨by have := HK1.out; omega⟩, ⟨ra_ HO_3⟩, ⟨bl_ HB⟩⟩
   ·rw [if_neg c6] at H
    have c6b0 := decide_eq_false c6
    clear c6
    obtain rfl := Option.some.inj H
    go_wp2
    go_ret
    exact ⟨_, by first | (rw [hRT_.out]; rfl) | exact er_, ra_ HO_3, bl_ HB⟩

/-! ### spec_CloudSpans: function 89 -/
def spec_CloudSpans.l0 : Nat → List (S121) → Int → List (S82) → Int → Option ((List (S82)))
 | 0, _, _, _, _ => none
 | k + 1, x0, x1, x5, x6 => if x6 < (x0.length : Int) then (if 0 ≤ x6 then (if ((rd_T121 x0 x6).f0) = x1 then (if x5.length < 8796093022208 then (spec_CloudSpans.l0 k x0 x1 (x5 ++ [(⟨(rd_T121 x0 x6).f1, (rd_T121 x0 x6).f2⟩ : S82)]) (wrap64 (x6 + 1))) else (none)) else (spec_CloudSpans.l0 k x0 x1 x5 (wrap64 (x6 + 1)))) else (none)) else ((spec_JoinSpans.f k x5).bind fun t391 => (some t391))
def spec_CloudSpans.f (k : Nat) (l0 : List (S121)) (a1 : Int) : Option ((List (S82))) := spec_CloudSpans.l0 k l0 a1 (([] : List (S82))) 0
theorem spec_CloudSpans.mono_l : ∀ k, (∀ y0 y1 y2 y3, LeO (spec_CloudSpans.l0 k y0 y1 y2 y3) (spec_CloudSpans.l0 (k + 1) y0 y1 y2 y3))
 | 0 => fun _ _ _ _ r h => by simp [spec_CloudSpans.l0] at h
 | k + 1 => by
  have ih0 := spec_CloudSpans.mono_l k
  ·intro y0 y1 y2 y3
   unfold spec_CloudSpans.l0
   repeat' first | (with_reducible first | exact ih0 _ _ _ _ | exact spec_JoinSpans.mono _ _ | exact LeO.refl _ | exact LeO.none _ | refine LeO.ite ?_ ?_ | refine LeO.bind ?_ (fun _ => ?_)) | exact LeO.none _ | refine LeO.ite ?_ ?_ | refine LeO.bind ?_ (fun _ => ?_)
theorem spec_CloudSpans.mono : ∀ a0 a1 k, LeO (spec_CloudSpans.f k a0 a1) (spec_CloudSpans.f (k + 1) a0 a1) := by
 intro a0 a1 k
 have ih0 := spec_CloudSpans.mono_l k
 unfold spec_CloudSpans.f
 repeat' first | (with_reducible first | exact ih0 _ _ _ _ | exact spec_JoinSpans.mono _ _ | exact LeO.refl _ | exact LeO.none _ | refine LeO.ite ?_ ?_ | refine LeO.bind ?_ (fun _ => ?_)) | exact LeO.none _ | refine LeO.ite ?_ ?_ | refine LeO.bind ?_ (fun _ => ?_)
def spec_CloudSpans.T6 : Bool × List (List Nat × List Nat) := (true, [([], []), ([], []), ([], []), ([1, 2], [1, 2]), ([3], [3]), ([4], [4]), ([], []), ([], []), ([6, 7], [6, 7]), ([8], [8]), ([9], [9]), ([5, 10], [5, 10]), ([11], [11]), ([0, 12], [0, 12]), ([13, 13, 0, 1, 2, 3, 4, 5, 6, 7, 8, 9, 10, 11, 12, 13], [0, 13])])
def spec_CloudSpans.B6 : List Nat := [0, 0, 0, 6, 14, 30, 0, 0, 192, 448, 960, 2046, 4094, 8191, 16383]
theorem spec_CloudSpans.tab6 : rtab .any (opsOf Try.f89 6) = spec_CloudSpans.T6 := by kernel_rfl
theorem spec_CloudSpans.bits6 : waitsOk spec_CloudSpans.T6.2 spec_CloudSpans.B6 = true := by kernel_rfl
set_option maxHeartbeats 8000000 in
set_option maxRecDepth 100000 in
theorem spec_CloudSpans.calls (k : Nat) (A0 : Option Addr) (c0 : Nat) (l0 : List (S121)) (a1 : Int) (r : List (S82)) (w : World) (hr0 : Kd.C k121 w A0 l0.length l0) (hc0 : l0.length ≤ c0) (h : spec_CloudSpans.f k l0 a1 = some r) :
  Calls Try.prog 89 #[.slice A0 l0.length c0, .int .i64 a1] w fun e w' => ∃ v0_ : Value, e = .returned (v0_) ∧ Kd.R k82 82 w' w.heap.size (fun _ => True) v0_ r ∧ Below w.heap.size w w' := by
 have hu82 := Try.underlying82
 have HR0 := Aside0.mk hr0
 have HC0 := Aside0.mk hc0
 clear hr0 hc0
 have HB := Aside0.mk (Below.refl w.heap.size w)
 have H := h
 clear h
 unfold spec_CloudSpans.f at H
 replace H : ∃ y_ : List (S82), Aside0 (y_ = (([] : List (S82)))) ∧ (spec_CloudSpans.l0 k l0 a1 y_ 0) = some r := ⟨_, ⟨rfl⟩, yh_ H⟩
 obtain ⟨y382, Ny382, H⟩ := H
 have H' := Aside0.mk H
 clear H
 go_enter Try.func89, Try.ntmps89
 go_wp2_with (first | ((with_reducible refine gate_dst (N := 7) rfl ?_); refine Kd.R_lit k82 _ 82 ?hg (N := 7) ?hd (xs := ([] : List (S82))) (inner := []) (ok := fun _ => True) (okp := fun _ => True) ?hr ?hp (fun _ hk => hk) trivial (Below.refl _ _) (Nat.le_refl _) (by simp) ?_; (case hd => rfl); (case hg => rfl); (case hr => first | (go_simp; done) | (go_simp; rfl)); (case hp => exact (Reps.none _ _)); intro v383 w3 ho4 hb hg_ hnew_; clear hg_ hnew_; (first | rw [← Ny382.out] at ho4 | (simp only [Int.reduceToNat] at ho4; rw [← Ny382.out] at ho4)); refine sh2_ (Kd.R_lower ho4 (below_size (bl_ HB))) (below_step (bl_ HB) hb) ?_; clear HB hb ho4; intro HO384 HB))
 go_loopg [5, 6] k (fun kq v5 v6 w' => ∃ (x5_1 : List (S82)) (x6_1 : Int), v6 = .int .i64 x6_1 ∧ Aside0 (spec_CloudSpans.l0 kq l0 a1 x5_1 x6_1 = some r) ∧ Aside0 (kq ≤ k) ∧ Aside0 (Kd.R k82 82 w' w.heap.size (fun _ => True) v5 x5_1) ∧ Aside0 (Below w.heap.size w w'))
 case atStart => exact ⟨(y382), (0), (by first | rfl | (simp; done) | (simp [*]; done)), H', ⟨Nat.le_refl _⟩, ⟨ra_ HO384⟩, ⟨bl_ HB⟩⟩
 case round =>
  clear H'
  try clear p2
  obtain ⟨x5_1, x6_1, rfl, HA, HK1, HO_5, HB⟩ := hrel
  cases gk with
  | zero => exact absurd HA.out (by simp [spec_CloudSpans.l0])
  | succ k1 =>
   have H := HA.out
   clear HA
   simp only [spec_CloudSpans.l0] at H
   by_cases c5 : x6_1 < (l0.length : Int)
   ·rw [if_pos c5] at H
    have c5b0 := decide_eq_true c5
    clear c5
    replace H := ifn_ H
    obtain ⟨c6, H⟩ := H
    have c6b0 := decide_eq_true c6
    clear c6
    by_cases c7 : ((rd_T121 l0 x6_1).f0) = a1
    ·rw [if_pos c7] at H
     obtain ⟨c7b0, c7b1⟩ := bt_ c7
     clear c7
     replace H := ifn_ H
     obtain ⟨c8, H⟩ := H
     have LMc8 := Aside0.mk c8
     clear c8
     replace H : ∃ y_ : List (S82), Aside0 (y_ = (x5_1 ++ [(⟨(rd_T121 l0 x6_1).f1, (rd_T121 l0 x6_1).f2⟩ : S82)])) ∧ (spec_CloudSpans.l0 k1 l0 a1 y_ (wrap64 (x6_1 + 1))) = some r := ⟨_, ⟨rfl⟩, yh_ H⟩
     obtain ⟨y388, Ny388, H⟩ := H
     have H' := Aside0.mk H
     clear H
     have p385 : 0 ≤ (x6_1 : Int) := od_
     have q385 : x6_1 < (l0.length : Int) := od_
     obtain ⟨ad385, e385, hx385_0, hx385_1, hx385_2⟩ := at_T121 HR0.out x6_1 p385 q385
     cases e385
     replace hx385_0 := hbc_ HB hx385_0
     replace hx385_1 := hbc_ HB hx385_1
     replace hx385_2 := hbc_ HB hx385_2
     replace p385 := eq_true p385
     replace q385 := eq_true q385
     try go_wp2
     refine sh2_ (Kd.R_drew HO_5.out) (below_drew1 HB.out) ?_
     clear HO_5 HB
     intro HO_5 HB
     have p386 : 0 ≤ (x6_1 : Int) := od_
     have q386 : x6_1 < (l0.length : Int) := od_
     obtain ⟨ad386, e386, hx386_0, hx386_1, hx386_2⟩ := at_T121 HR0.out x6_1 p386 q386
     have hw386_2 := hx386_2
     have hw386_1 := hx386_1
     have hw386_0 := hx386_0
     obtain rfl : ad385 = ad386 := (by injection e386)
     replace hx386_0 := hbc_ HB hx386_0
     replace hx386_1 := hbc_ HB hx386_1
     replace hx386_2 := hbc_ HB hx386_2
     replace p386 := eq_true p386
     replace q386 := eq_true q386
     have p387 : 0 ≤ (x6_1 : Int) := od_
     have q387 : x6_1 < (l0.length : Int) := od_
     obtain ⟨ad387, e387, hx387_0, hx387_1, hx387_2⟩ := at_T121 HR0.out x6_1 p387 q387
     have hw387_2 := hx387_2
     have hw387_1 := hx387_1
     have hw387_0 := hx387_0
     obtain rfl : ad385 = ad387 := (by injection e387)
     replace hx387_0 := hbc_ HB hx387_0
     replace hx387_1 := hbc_ HB hx387_1
     replace hx387_2 := hbc_ HB hx387_2
     replace p387 := eq_true p387
     replace q387 := eq_true q387
     refine start_ (n := 15) (S := fun w' => w'.cell? (ad385.add ((x6_1).toNat * 3)) = some (.int .i64 ((rd_T121 l0 x6_1).f0)) ∧ w'.cell? ⟨(ad385.add ((x6_1).toNat * 3)).block, (ad385.add ((x6_1).toNat * 3)).off + 1, none⟩ = some (.int .i64 ((rd_T121 l0 x6_1).f1)) ∧ w'.cell? ⟨(ad385.add ((x6_1).toNat * 3)).block, (ad385.add ((x6_1).toNat * 3)).off + 2, none⟩ = some (.int .i64 ((rd_T121 l0 x6_1).f2)) ∧ w'.cell? (ad385.add ((x6_1).toNat * 3)) = some (.int .i64 ((rd_T121 l0 x6_1).f0)) ∧ w'.cell? ⟨(ad385.add ((x6_1).toNat * 3)).block, (ad385.add ((x6_1).toNat * 3)).off + 1, none⟩ = some (.int .i64 ((rd_T121 l0 x6_1).f1)) ∧ w'.cell? ⟨(ad385.add ((x6_1).toNat * 3)).block, (ad385.add ((x6_1).toNat * 3)).off + 2, none⟩ = some (.int .i64 ((rd_T121 l0 x6_1).f2))) (ds := []) #[false, false, false, false, false, false, false, false, false, false, false, false, false, false, false] (by kernel_rfl) rfl rfl ⟨((HB.out.cell (World.block_lt_of_cell? w _ hw386_0)).trans hw386_0), ((HB.out.cell (World.block_lt_of_cell? w _ hw386_1)).trans hw386_1), ((HB.out.cell (World.block_lt_of_cell? w _ hw386_2)).trans hw386_2), ((HB.out.cell (World.block_lt_of_cell? w _ hw387_0)).trans hw387_0), ((HB.out.cell (World.block_lt_of_cell? w _ hw387_1)).trans hw387_1), ((HB.out.cell (World.block_lt_of_cell? w _ hw387_2)).trans hw387_2)⟩ (fun hHeld => ?_); refine with_tabW spec_CloudSpans.tab6 spec_CloudSpans.bits6 (fun HT_ HW_ => ?_)
     generalize wr.drew = w9 at HO_5 HB hx386_0 hx386_1 hx386_2 hx387_0 hx387_1 hx387_2 hHeld ⊢
     refine pur_ 0 #[true, false, false, false, false, false, false, false, false, false, false, false, false, false, false] (some 21) HT_ ?_
     refine pur_ 1 #[true, true, false, false, false, false, false, false, false, false, false, false, false, false, false] (some 22) HT_ ?_
     refine pur_ 2 #[true, true, true, false, false, false, false, false, false, false, false, false, false, false, false] (some 23) HT_ ?_
     refine pur_ 3 #[true, true, true, true, false, false, false, false, false, false, false, false, false, false, false] (some 24) HT_ ?_
     refine pur_ 4 #[true, true, true, true, true, false, false, false, false, false, false, false, false, false, false] (some 25) HT_ ?_
     refine pur_ 6 #[true, true, true, true, true, false, true, false, false, false, false, false, false, false, false] (some 27) HT_ ?_
     refine pur_ 7 #[true, true, true, true, true, false, true, true, false, false, false, false, false, false, false] (some 28) HT_ ?_
     refine pur_ 8 #[true, true, true, true, true, false, true, true, true, false, false, false, false, false, false] (some 29) HT_ ?_
     refine pur_ 9 #[true, true, true, true, true, false, true, true, true, true, false, false, false, false, false] (some 30) HT_ ?_
     refine tak_ 5 #[true, true, true, true, true, true, true, true, true, true, false, false, false, false, false] (some 26) HT_ HW_ hHeld ?_
     refine tak_ 10 #[true, true, true, true, true, true, true, true, true, true, true, false, false, false, false] (some 31) HT_ HW_ hHeld ?_
     refine pur_ 11 #[true, true, true, true, true, true, true, true, true, true, true, true, false, false, false] (some 32) HT_ ?_
     refine one_ (i := 12) (N := some 33) #[true, true, true, true, true, true, true, true, true, true, true, true, true, false, false] rfl rfl (one_of HT_.out (by kernel_rfl)) (by decide) (fun K hK => ?_)
     refine value_ (w1 := ?_) (v := ?_) (by rfl) rfl ?_ ?_
     rotate_left 2
     ·go_simp
      constructor
      ·rfl
      ·rfl
     refine hK.out _ _ ⟨(World.cell?_alloc_lt _ _ _ (World.block_lt_of_cell? _ _ (((HB.out.cell (World.block_lt_of_cell? w _ hw386_0)).trans hw386_0)))).trans (((HB.out.cell (World.block_lt_of_cell? w _ hw386_0)).trans hw386_0)), (World.cell?_alloc_lt _ _ _ (World.block_lt_of_cell? _ _ (((HB.out.cell (World.block_lt_of_cell? w _ hw386_1)).trans hw386_1)))).trans (((HB.out.cell (World.block_lt_of_cell? w _ hw386_1)).trans hw386_1)), (World.cell?_alloc_lt _ _ _ (World.block_lt_of_cell? _ _ (((HB.out.cell (World.block_lt_of_cell? w _ hw386_2)).trans hw386_2)))).trans (((HB.out.cell (World.block_lt_of_cell? w _ hw386_2)).trans hw386_2)), (World.cell?_alloc_lt _ _ _ (World.block_lt_of_cell? _ _ (((HB.out.cell (World.block_lt_of_cell? w _ hw387_0)).trans hw387_0)))).trans (((HB.out.cell (World.block_lt_of_cell? w _ hw387_0)).trans hw387_0)), (World.cell?_alloc_lt _ _ _ (World.block_lt_of_cell? _ _ (((HB.out.cell (World.block_lt_of_cell? w _ hw387_1)).trans hw387_1)))).trans (((HB.out.cell (World.block_lt_of_cell? w _ hw387_1)).trans hw387_1)), (World.cell?_alloc_lt _ _ _ (World.block_lt_of_cell? _ _ (((HB.out.cell (World.block_lt_of_cell? w _ hw387_2)).trans hw387_2)))).trans (((HB.out.cell (World.block_lt_of_cell? w _ hw387_2)).trans hw387_2))⟩ (fun hHeld => ?_)
     clear hK K
     refine norm_ (a' := ?_) ?_ ?_
     rotate_left
     ·show Act.put _ (some 33) _ = _
      simp only [Act.put, List.setIfInBounds_toArray, List.set_cons_zero, List.set_cons_succ, i64_w, i32_w]
      rfl
     refine one_ (i := 13) (N := some 34) #[true, true, true, true, true, true, true, true, true, true, true, true, true, true, false] rfl rfl (one_of HT_.out (by kernel_rfl)) (by decide) (fun K hK => ?_)
     refine Kd.R_append_step k82 (w0 := w) w.heap.size (by rfl) (.tmp 21) (.tmp 33) 40 82 (.agg #[(.int .i64 0), (.int .i64 0)]) 16 rfl Try.underlying40 info82 rfl (by decide) (by omega) u5 x5_1 (⟨(rd_T121 l0 x6_1).f1, (rd_T121 l0 x6_1).f2⟩ : S82) [.int .i64 ((rd_T121 l0 x6_1).f1), .int .i64 ((rd_T121 l0 x6_1).f2)] (fun _ => True) (fun _ => False) rfl rfl ?aP (fun _ hk => hk.elim) ?aF ?aO ?aB ?aS ?aL ?_
     (case aP => exact k82_mkM _ _ _ (⟨(rd_T121 l0 x6_1).f1, (rd_T121 l0 x6_1).f2⟩ : S82))
     (case aB => exact (bl_ HB))
     (case aF => exact (fun _ _ => trivial))
     (case aO => exact (ra_ HO_5))
     (case aS => exact (below_size (bl_ HB)))
     (case aL => have := LMc8.out; omega)
     intro v389 w10 ho hb hg hat
     rw [← Ny388.out] at ho
     refine sh2_ hb ho ?_
     clear HB HO_5 ho hb hg hat
     intro HB HO390
     refine hK.out _ _ ⟨((HB.out.cell (World.block_lt_of_cell? w _ hw386_0)).trans hw386_0), ((HB.out.cell (World.block_lt_of_cell? w _ hw386_1)).trans hw386_1), ((HB.out.cell (World.block_lt_of_cell? w _ hw386_2)).trans hw386_2), ((HB.out.cell (World.block_lt_of_cell? w _ hw387_0)).trans hw387_0), ((HB.out.cell (World.block_lt_of_cell? w _ hw387_1)).trans hw387_1), ((HB.out.cell (World.block_lt_of_cell? w _ hw387_2)).trans hw387_2)⟩ (fun hHeld => ?_)
     clear hK K
     refine norm_ (a' := ?_) ?_ ?_
     rotate_left
     ·show Act.put _ (some 34) _ = _
      simp only [Act.put, List.setIfInBounds_toArray, List.set_cons_zero, List.set_cons_succ, i64_w, i32_w]
      rfl
     refine pur_ 14 #[true, true, true, true, true, true, true, true, true, true, true, true, true, true, true] (some 5) HT_ ?_
     refine done_ (done_of HT_.out (by kernel_rfl)) ?_
     try go_wp2
     go_roundg k1
     case measure => have := HK1.out; omega
     case rel => exact ⟨(y388), (wrap64 (x6_1 + 1)), (by first | rfl | (simp; done) | (simp [*]; done)), H', ⟨by have := HK1.out; omega⟩, ⟨ra_ HO390⟩, ⟨bl_ HB⟩⟩
    ·rw [if_neg c7] at H
     obtain ⟨c7b0, c7b1⟩ := bn_ c7
     have H' := Aside0.mk H
     clear H
     have p385 : 0 ≤ (x6_1 : Int) := od_
     have q385 : x6_1 < (l0.length : Int) := od_
     obtain ⟨ad385, e385, hx385_0, hx385_1, hx385_2⟩ := at_T121 HR0.out x6_1 p385 q385
     cases e385
     replace hx385_0 := hbc_ HB hx385_0
     replace hx385_1 := hbc_ HB hx385_1
     replace hx385_2 := hbc_ HB hx385_2
     replace p385 := eq_true p385
     replace q385 := eq_true q385
     go_wp2
     go_roundg k1
     case measure => have := HK1.out; omega
     case rel => exact ⟨(x5_1), (wrap64 (x6_1 + 1)), (by first | rfl | (simp; done) | (simp [*]; done)), H', ⟨by have := HK1.out; omega⟩, ⟨ra_ HO_5⟩, ⟨bl_ HB⟩⟩
   ·rw [if_neg c5] at H
    have c5b0 : decide (x6_1 < (l0.length : Int)) = false := decide_eq_false c5
    clear c5
    replace H := bs_ H
    obtain ⟨t391, A11, H⟩ := H
    obtain rfl := Option.some.inj H
    obtain ⟨Ao12, co12, eo12⟩ := Kd.R_slice HO_5.out
    subst eo12
    go_wp2_with (first | ((with_reducible refine gate_callee (f := 117) rfl ?_); refine gl_ 36 Try.func117 (spec_JoinSpans.calls k1 _ _ x5_1 t391 _ (cr_ HO_5) (rl_ HO_5) A11.out) ?_; rintro e w13 ⟨v392, rfl, ho0, hb⟩; refine ⟨_, rfl, sh3_ (Kd.R_elder' (ra_ HO_5) (Kd.R_base ho0) hb) (Kd.R_lower (Kd.R_new' ho0 (Kd.R_lt (ra_ HO_5))) (below_size (bl_ HB))) (below_step (bl_ HB) hb) ?_⟩; clear HO_5 HB hb ho0; intro HO_5 HO393 HB))
    go_ret
    exact ⟨_, by first | (rw [hRT_.out]; rfl) | exact er_, by (with_reducible repeat (first | apply Kd.R_alloc | apply Kd.R_drewN | apply Kd.R_drew)); exact Kd.R_mono HO393.out (fun _ hk => trivial), bl_ HB⟩

/-! ### spec_CutClouds: function 45 -/
mutual
def spec_CutClouds.l0 : Nat → List (S53) → List (S121) → List (S53) → Int → Option ((List (S53)))
 | 0, _, _, _, _ => none
 | k + 1, x0, x1, x5, x6 => if x6 < (x0.length : Int) then (if 0 ≤ x6 then ((spec_CloudSpans.f k x1 ((rd_T53 x0 x6).f0)).bind fun t402 => ((spec_CutSpans.f k (([(⟨(rd_T53 x0 x6).f2, (rd_T53 x0 x6).f3⟩ : S82)] : List (S82))) t402).bind fun t405 => ((spec_CloudSpans.f k x1 ((rd_T53 x0 x6).f1)).bind fun t408 => ((spec_CutSpans.f k t405 t408).bind fun t411 => (spec_CutClouds.l1 k x0 x1 x5 x6 t411 0 ((rd_T53 x0 x6).f0) ((rd_T53 x0 x6).f1) ((rd_T53 x0 x6).f2) ((rd_T53 x0 x6).f3)))))) else (none)) else (some x5)
def spec_CutClouds.l1 : Nat → List (S53) → List (S121) → List (S53) → Int → List (S82) → Int → Int → Int → Int → Int → Option ((List (S53)))
 | 0, _, _, _, _, _, _, _, _, _, _ => none
 | k + 1, x0, x1, x5, x6, x8, x9, x399000, x399001, x399002, x399003 => if x9 < (x8.length : Int) then (if 0 ≤ x9 then (if x5.length < 4398046511104 then (spec_CutClouds.l1 k x0 x1 (x5 ++ [(⟨x399000, x399001, (rd_T82 x8 x9).f0, (rd_T82 x8 x9).f1⟩ : S53)]) x6 x8 (wrap64 (x9 + 1)) x399000 x399001 x399002 x399003) else (none)) else (none)) else (spec_CutClouds.l0 k x0 x1 x5 (wrap64 (x6 + 1)))
end
def spec_CutClouds.f (k : Nat) (l0 : List (S53)) (l1 : List (S121)) : Option ((List (S53))) := spec_CutClouds.l0 k l0 l1 (([] : List (S53))) 0
theorem spec_CutClouds.mono_l : ∀ k, (∀ y0 y1 y2 y3, LeO (spec_CutClouds.l0 k y0 y1 y2 y3) (spec_CutClouds.l0 (k + 1) y0 y1 y2 y3)) ∧ (∀ y0 y1 y2 y3 y4 y5 y6 y7 y8 y9, LeO (spec_CutClouds.l1 k y0 y1 y2 y3 y4 y5 y6 y7 y8 y9) (spec_CutClouds.l1 (k + 1) y0 y1 y2 y3 y4 y5 y6 y7 y8 y9))
 | 0 => ⟨fun _ _ _ _ r h => by simp [spec_CutClouds.l0] at h, fun _ _ _ _ _ _ _ _ _ _ r h => by simp [spec_CutClouds.l1] at h⟩
 | k + 1 => by
  obtain ⟨ih0, ih1⟩ := spec_CutClouds.mono_l k
  refine ⟨?_, ?_⟩
  ·intro y0 y1 y2 y3
   unfold spec_CutClouds.l0
   repeat' first | (with_reducible first | exact ih0 _ _ _ _ | exact ih1 _ _ _ _ _ _ _ _ _ _ | exact spec_CloudSpans.mono _ _ _ | exact spec_CutSpans.mono _ _ _ | exact LeO.refl _ | exact LeO.none _ | refine LeO.ite ?_ ?_ | refine LeO.bind ?_ (fun _ => ?_)) | exact LeO.none _ | refine LeO.ite ?_ ?_ | refine LeO.bind ?_ (fun _ => ?_)
  ·intro y0 y1 y2 y3 y4 y5 y6 y7 y8 y9
   unfold spec_CutClouds.l1
   repeat' first | (with_reducible first | exact ih0 _ _ _ _ | exact ih1 _ _ _ _ _ _ _ _ _ _ | exact spec_CloudSpans.mono _ _ _ | exact spec_CutSpans.mono _ _ _ | exact LeO.refl _ | exact LeO.none _ | refine LeO.ite ?_ ?_ | refine LeO.bind ?_ (fun _ => ?_)) | exact LeO.none _ | refine LeO.ite ?_ ?_ | refine LeO.bind ?_ (fun _ => ?_)
theorem spec_CutClouds.mono : ∀ a0 a1 k, LeO (spec_CutClouds.f k a0 a1) (spec_CutClouds.f (k + 1) a0 a1) := by
 intro a0 a1 k
 obtain ⟨ih0, ih1⟩ := spec_CutClouds.mono_l k
 unfold spec_CutClouds.f
 repeat' first | (with_reducible first | exact ih0 _ _ _ _ | exact ih1 _ _ _ _ _ _ _ _ _ _ | exact spec_CloudSpans.mono _ _ _ | exact spec_CutSpans.mono _ _ _ | exact LeO.refl _ | exact LeO.none _ | refine LeO.ite ?_ ?_ | refine LeO.bind ?_ (fun _ => ?_)) | exact LeO.none _ | refine LeO.ite ?_ ?_ | refine LeO.bind ?_ (fun _ => ?_)
def spec_CutClouds.T6 : Bool × List (List Nat × List Nat) := (true, [([], []), ([0], [0]), ([], []), ([2], [2]), ([1, 3], [1, 3]), ([4], [4]), ([], []), ([], []), ([7], [7]), ([6, 8], [6, 8]), ([5, 9, 9], [5, 9]), ([10, 10, 0, 1, 2, 3, 4, 5, 6, 7, 8, 9, 10], [10])])
def spec_CutClouds.B6 : List Nat := [0, 1, 0, 4, 15, 31, 0, 0, 128, 448, 1023, 2047]
theorem spec_CutClouds.tab6 : rtab .any (opsOf Try.f45 6) = spec_CutClouds.T6 := by kernel_rfl
theorem spec_CutClouds.bits6 : waitsOk spec_CutClouds.T6.2 spec_CutClouds.B6 = true := by kernel_rfl
def spec_CutClouds.T11 : Bool × List (List Nat × List Nat) := (true, [([], []), ([], []), ([1], [1]), ([], []), ([3], [3]), ([], []), ([], []), ([5, 6], [5, 6]), ([7], [7]), ([8], [8]), ([], []), ([], []), ([10, 11], [10, 11]), ([12], [12]), ([13], [13]), ([2, 4, 9, 14], [2, 4, 9, 14]), ([15], [15]), ([0, 16], [0, 16]), ([17, 17, 0, 1, 2, 3, 4, 5, 6, 7, 8, 9, 10, 11, 12, 13, 14, 15, 16, 17], [0, 17])])
def spec_CutClouds.B11 : List Nat := [0, 0, 2, 0, 8, 0, 0, 96, 224, 480, 0, 0, 3072, 7168, 15360, 32766, 65534, 131071, 262143]
theorem spec_CutClouds.tab11 : rtab .any (opsOf Try.f45 11) = spec_CutClouds.T11 := by kernel_rfl
theorem spec_CutClouds.bits11 : waitsOk spec_CutClouds.T11.2 spec_CutClouds.B11 = true := by kernel_rfl
set_option maxHeartbeats 8000000 in
set_option maxRecDepth 100000 in
theorem spec_CutClouds.calls (k : Nat) (A0 : Option Addr) (c0 : Nat) (l0 : List (S53)) (A1 : Option Addr) (c1 : Nat) (l1 : List (S121)) (r : List (S53)) (w : World) (hr0 : Kd.C k53 w A0 l0.length l0) (hc0 : l0.length ≤ c0) (hr1 : Kd.C k121 w A1 l1.length l1) (hc1 : l1.length ≤ c1) (h : spec_CutClouds.f k l0 l1 = some r) :
  Calls Try.prog 45 #[.slice A0 l0.length c0, .slice A1 l1.length c1] w fun e w' => ∃ v0_ : Value, e = .returned (v0_) ∧ Kd.R k53 53 w' w.heap.size (fun _ => True) v0_ r ∧ Below w.heap.size w w' := by
 have hu53 := Try.underlying53
 have hu82 := Try.underlying82
 have HR0 := Aside0.mk hr0
 have HC0 := Aside0.mk hc0
 clear hr0 hc0
 have HR1 := Aside0.mk hr1
 have HC1 := Aside0.mk hc1
 clear hr1 hc1
 have HB := Aside0.mk (Below.refl w.heap.size w)
 have H := h
 clear h
 unfold spec_CutClouds.f at H
 replace H : ∃ y_ : List (S53), Aside0 (y_ = (([] : List (S53)))) ∧ (spec_CutClouds.l0 k l0 l1 y_ 0) = some r := ⟨_, ⟨rfl⟩, yh_ H⟩
 obtain ⟨y394, Ny394, H⟩ := H
 have H' := Aside0.mk H
 clear H
 go_enter Try.func45, Try.ntmps45
 go_wp2_with (first | ((with_reducible refine gate_dst (N := 10) rfl ?_); refine Kd.R_lit k53 _ 53 ?hg (N := 10) ?hd (xs := ([] : List (S53))) (inner := []) (ok := fun _ => True) (okp := fun _ => True) ?hr ?hp (fun _ hk => hk) trivial (Below.refl _ _) (Nat.le_refl _) (by simp) ?_; (case hd => rfl); (case hg => rfl); (case hr => first | (go_simp; done) | (go_simp; rfl)); (case hp => exact (Reps.none _ _)); intro v395 w3 ho4 hb hg_ hnew_; clear hg_ hnew_; (first | rw [← Ny394.out] at ho4 | (simp only [Int.reduceToNat] at ho4; rw [← Ny394.out] at ho4)); refine sh2_ (Kd.R_lower ho4 (below_size (bl_ HB))) (below_step (bl_ HB) hb) ?_; clear HB hb ho4; intro HO396 HB))
 go_loopg [5, 6] k (fun kq v5 v6 w' => ∃ (x5_1 : List (S53)) (x6_1 : Int), v6 = .int .i64 x6_1 ∧ Aside0 (spec_CutClouds.l0 kq l0 l1 x5_1 x6_1 = some r) ∧ Aside0 (kq ≤ k) ∧ Aside0 (Kd.R k53 53 w' w.heap.size (fun _ => True) v5 x5_1) ∧ Aside0 (Below w.heap.size w w'))
 case atStart => exact ⟨(y394), (0), (by first | rfl | (simp; done) | (simp [*]; done)), H', ⟨Nat.le_refl _⟩, ⟨ra_ HO396⟩, ⟨bl_ HB⟩⟩
 case round =>
  clear H'
  try clear c1
  try clear p2
  try clear c4
  obtain ⟨x5_1, x6_1, rfl, HA, HK1, HO_5, HB⟩ := hrel
  cases gk with
  | zero => exact absurd HA.out (by simp [spec_CutClouds.l0])
  | succ k1 =>
   have H := HA.out
   clear HA
   simp only [spec_CutClouds.l0] at H
   by_cases c5 : x6_1 < (l0.length : Int)
   ·rw [if_pos c5] at H
    have c5b0 := decide_eq_true c5
    clear c5
    replace H := ifn_ H
    obtain ⟨c6, H⟩ := H
    have c6b0 := decide_eq_true c6
    clear c6
    replace H : ∃ y_ : List (S82), Aside0 (y_ = (([(⟨(rd_T53 l0 x6_1).f2, (rd_T53 l0 x6_1).f3⟩ : S82)] : List (S82)))) ∧ ((spec_CloudSpans.f k1 l1 ((rd_T53 l0 x6_1).f0)).bind fun t402 => ((spec_CutSpans.f k1 y_ t402).bind fun t405 => ((spec_CloudSpans.f k1 l1 ((rd_T53 l0 x6_1).f1)).bind fun t408 => ((spec_CutSpans.f k1 t405 t408).bind fun t411 => (spec_CutClouds.l1 k1 l0 l1 x5_1 x6_1 t411 0 ((rd_T53 l0 x6_1).f0) ((rd_T53 l0 x6_1).f1) ((rd_T53 l0 x6_1).f2) ((rd_T53 l0 x6_1).f3)))))) = some r := ⟨_, ⟨rfl⟩, yh_ H⟩
    obtain ⟨y399, Ny399, H⟩ := H
    replace H := bs_ H
    obtain ⟨t402, A7, H⟩ := H
    replace H := bs_ H
    obtain ⟨t405, A8, H⟩ := H
    replace H := bs_ H
    obtain ⟨t408, A9, H⟩ := H
    replace H := bs_ H
    obtain ⟨t411, A10, H⟩ := H
    have H' := Aside0.mk H
    clear H
    have p397 : 0 ≤ (x6_1 : Int) := od_
    have q397 : x6_1 < (l0.length : Int) := od_
    obtain ⟨ad397, e397, hx397_0, hx397_1, hx397_2, hx397_3⟩ := at_T53 HR0.out x6_1 p397 q397
    cases e397
    replace hx397_0 := hbc_ HB hx397_0
    replace hx397_1 := hbc_ HB hx397_1
    replace hx397_2 := hbc_ HB hx397_2
    replace hx397_3 := hbc_ HB hx397_3
    replace p397 := eq_true p397
    replace q397 := eq_true q397
    try go_wp2_with (first | ((with_reducible refine gd_ 7 ?_); refine bx_ 7 53 #[.int .i64 0, .int .i64 0, .int .i64 0, .int .i64 0] ?_; intro gb398 hg w11 hbox hb; refine sh5_ (Kd.R_below (Kd.R_elderB (ra_ HO_5) gb398 (Nat.le_of_eq hg.symm)) hb) (below_step (bl_ HB) hb) hbox (ge_ hg (bl_ HB)) (ge_ hg (bl_ HB)) ?_; clear HO_5 HB hb hbox hg; intro HO_5 HB BK398 GW398 GE398; have hcz12 := cf4_ BK398))
    have n0_ : Aside0 (Kd.R k53 53 ((((w11.setCell ⟨gb398, 0, none⟩ (.int .i64 ((rd_T53 l0 x6_1).f0))).setCell ⟨gb398, 1, none⟩ (.int .i64 ((rd_T53 l0 x6_1).f1))).setCell ⟨gb398, 2, none⟩ (.int .i64 ((rd_T53 l0 x6_1).f2))).setCell ⟨gb398, 3, none⟩ (.int .i64 ((rd_T53 l0 x6_1).f3))) w.heap.size (fun k_ => k_ ≠ gb398) u5 x5_1) := ⟨by (with_reducible repeat (first | apply Kd.R_alloc | apply Kd.R_drewN | apply Kd.R_drew)); exact Kd.R_mono (Kd.R_far (p := ⟨gb398, 3, none⟩) (Kd.R_far (p := ⟨gb398, 2, none⟩) (Kd.R_far (p := ⟨gb398, 1, none⟩) (Kd.R_far (p := ⟨gb398, 0, none⟩) (Kd.R_mono HO_5.out (fun k_ hk => (⟨hk, hk.2⟩ : _ ∧ k_ ≠ gb398))) (fun _ hk => hk.2) (.int .i64 ((rd_T53 l0 x6_1).f0))) (fun _ hk => hk.2) (.int .i64 ((rd_T53 l0 x6_1).f1))) (fun _ hk => hk.2) (.int .i64 ((rd_T53 l0 x6_1).f2))) (fun _ hk => hk.2) (.int .i64 ((rd_T53 l0 x6_1).f3))) (fun _ hk => hk.1.2)⟩
    have n1_ : Aside0 (((((w11.setCell ⟨gb398, 0, none⟩ (.int .i64 ((rd_T53 l0 x6_1).f0))).setCell ⟨gb398, 1, none⟩ (.int .i64 ((rd_T53 l0 x6_1).f1))).setCell ⟨gb398, 2, none⟩ (.int .i64 ((rd_T53 l0 x6_1).f2))).setCell ⟨gb398, 3, none⟩ (.int .i64 ((rd_T53 l0 x6_1).f3))).heap[gb398]? = some (.cells #[.int .i64 ((rd_T53 l0 x6_1).f0), .int .i64 ((rd_T53 l0 x6_1).f1), .int .i64 ((rd_T53 l0 x6_1).f2), .int .i64 ((rd_T53 l0 x6_1).f3)] 53 (0, 0))) := ⟨by (with_reducible repeat (first | refine blk_drewN ?_ _ | refine blk_drew ?_ | refine blk_alloc ?_ _)); refine blk_put (cs := #[.int .i64 ((rd_T53 l0 x6_1).f0), .int .i64 ((rd_T53 l0 x6_1).f1), .int .i64 ((rd_T53 l0 x6_1).f2), .int .i64 0]) ?_ 3 _ rfl; (with_reducible repeat (first | refine blk_drewN ?_ _ | refine blk_drew ?_ | refine blk_alloc ?_ _)); refine blk_put (cs := #[.int .i64 ((rd_T53 l0 x6_1).f0), .int .i64 ((rd_T53 l0 x6_1).f1), .int .i64 0, .int .i64 0]) ?_ 2 _ rfl; (with_reducible repeat (first | refine blk_drewN ?_ _ | refine blk_drew ?_ | refine blk_alloc ?_ _)); refine blk_put (cs := #[.int .i64 ((rd_T53 l0 x6_1).f0), .int .i64 0, .int .i64 0, .int .i64 0]) ?_ 1 _ rfl; (with_reducible repeat (first | refine blk_drewN ?_ _ | refine blk_drew ?_ | refine blk_alloc ?_ _)); refine blk_put (cs := #[.int .i64 0, .int .i64 0, .int .i64 0, .int .i64 0]) ?_ 0 _ rfl; (with_reducible repeat (first | refine blk_drewN ?_ _ | refine blk_drew ?_ | refine blk_alloc ?_ _)); exact BK398.out⟩
    have n2_ : Aside0 (Below w.heap.size w ((((w11.setCell ⟨gb398, 0, none⟩ (.int .i64 ((rd_T53 l0 x6_1).f0))).setCell ⟨gb398, 1, none⟩ (.int .i64 ((rd_T53 l0 x6_1).f1))).setCell ⟨gb398, 2, none⟩ (.int .i64 ((rd_T53 l0 x6_1).f2))).setCell ⟨gb398, 3, none⟩ (.int .i64 ((rd_T53 l0 x6_1).f3)))) := ⟨bl1_ HB GE398⟩
    (try clear HO_5)
    (try clear BK398)
    (try clear HB)
    generalize ((((w11.setCell ⟨gb398, 0, none⟩ (.int .i64 ((rd_T53 l0 x6_1).f0))).setCell ⟨gb398, 1, none⟩ (.int .i64 ((rd_T53 l0 x6_1).f1))).setCell ⟨gb398, 2, none⟩ (.int .i64 ((rd_T53 l0 x6_1).f2))).setCell ⟨gb398, 3, none⟩ (.int .i64 ((rd_T53 l0 x6_1).f3))) = w13 at n0_ n1_ n2_ ⊢
    have HO_5 := n0_
    have BK398 := n1_
    have HB := n2_
    clear n0_ n1_ n2_
    refine sh3_ (Kd.R_drew HO_5.out) (blk_drew BK398.out) (below_drew1 HB.out) ?_
    clear HO_5 BK398 HB
    intro HO_5 BK398 HB
    refine start_ (n := 12) (S := fun w' => True) (ds := []) #[false, false, false, false, false, false, false, false, false, false, false, false] (by kernel_rfl) rfl rfl trivial (fun hHeld => ?_); refine with_tabW spec_CutClouds.tab6 spec_CutClouds.bits6 (fun HT_ HW_ => ?_)
    generalize w13.drew = w14 at HO_5 BK398 HB hHeld ⊢
    refine pur_ 0 #[true, false, false, false, false, false, false, false, false, false, false, false] (some 21) HT_ ?_
    refine pur_ 2 #[true, false, true, false, false, false, false, false, false, false, false, false] (some 23) HT_ ?_
    refine pur_ 6 #[true, false, true, false, false, false, true, false, false, false, false, false] (some 27) HT_ ?_
    refine pur_ 7 #[true, false, true, false, false, false, true, true, false, false, false, false] (some 28) HT_ ?_
    refine inv_at [1, 3, 4, 5, 8, 9, 10, 11] (fun a0_ b a w' => ∃ (v400 : Value) (v403 : Value) (v406 : Value) (m11_ : Value), a = putSel a0_ b [(1, 22, .int .i64 ((rd_T53 l0 x6_1).f2)), (3, 24, .int .i64 ((rd_T53 l0 x6_1).f3)), (4, 25, .agg #[.int .i64 ((rd_T53 l0 x6_1).f2), .int .i64 ((rd_T53 l0 x6_1).f3)]), (5, 26, v400), (8, 29, .int .i64 ((rd_T53 l0 x6_1).f0)), (9, 30, v403), (10, 31, v406), (11, 8, m11_)] ∧ (Kd.R k53 53 w' w.heap.size (fun k_ => k_ ≠ gb398) u5 x5_1) ∧ (w'.heap[gb398]? = some (.cells #[.int .i64 ((rd_T53 l0 x6_1).f0), .int .i64 ((rd_T53 l0 x6_1).f1), .int .i64 ((rd_T53 l0 x6_1).f2), .int .i64 ((rd_T53 l0 x6_1).f3)] 53 (0, 0))) ∧ (Below w.heap.size w w') ∧ (b 5 = true → Kd.R k82 82 w' w.heap.size (fun _ => True) v400 y399) ∧ (b 9 = true → Kd.R k82 82 w' w.heap.size (fun _ => True) v403 t402) ∧ (b 10 = true → Kd.R k82 82 w' w.heap.size (fun _ => True) v406 t405) ∧ (b 11 = true → (m11_ : Value) = v406)) HT_.out HW_.out (by kernel_rfl) (by kernel_rfl) ?_ ?_ ?_
    ·exact ⟨.bool false, .bool false, .bool false, .bool false, by simp only [putSel, Bool.false_eq_true, if_false], HO_5.out, BK398.out, HB.out, fun h_ => absurd h_ (by decide), fun h_ => absurd h_ (by decide), fun h_ => absurd h_ (by decide), fun h_ => absurd h_ (by decide)⟩
    ·skip
     clear BK398 HB HO_5
     refine steps_cons ?_ ?_
     ·rintro b a w' ⟨v400, v403, v406, m11_, ha, Q_HO_5, Q_BK398, Q_HB, Q_HO401, Q_HO404, Q_HO407, Q_X11_⟩ hb_ hon hoff
      refine ⟨_, rfl, fun K hK => ?_⟩
      have e21 : a.tmps[21]? = some (.pointer (some ⟨gb398, 2, none⟩)) := by rw [ha]; exact (putSel_off rfl).trans rfl
      replace ha := Aside0.mk ha
      have HO_5 := Aside0.mk Q_HO_5
      have BK398 := Aside0.mk Q_BK398
      have HB := Aside0.mk Q_HB
      have hc0_ : w'.cell? ⟨gb398, 0, none⟩ = some (.int .i64 ((rd_T53 l0 x6_1).f0)) := bc_ BK398 0 rfl
      have hc1_ : w'.cell? ⟨gb398, 1, none⟩ = some (.int .i64 ((rd_T53 l0 x6_1).f1)) := bc_ BK398 1 rfl
      have hc2_ : w'.cell? ⟨gb398, 2, none⟩ = some (.int .i64 ((rd_T53 l0 x6_1).f2)) := bc_ BK398 2 rfl
      have hc3_ : w'.cell? ⟨gb398, 3, none⟩ = some (.int .i64 ((rd_T53 l0 x6_1).f3)) := bc_ BK398 3 rfl
      refine value_ (w1 := w') (v := .int .i64 ((rd_T53 l0 x6_1).f2)) (by rfl) rfl ?_ ?_
      ·go_simp
       (try simp only [i64_w])
       try rfl
      refine hK.out _ _ ⟨v400, v403, v406, m11_, (by rw [ha.out]; exact putSel_upk 0 hb_ rfl rfl rfl), Q_HO_5, Q_BK398, Q_HB, fun h0_ => absurd ((hoff 5 (by kernel_rfl)).symm.trans h0_) (by decide), Q_HO404, fun h0_ => absurd ((hoff 10 (by kernel_rfl)).symm.trans h0_) (by decide), fun h0_ => absurd ((hoff 11 (by kernel_rfl)).symm.trans h0_) (by decide)⟩
     refine steps_cons ?_ ?_
     ·rintro b a w' ⟨v400, v403, v406, m11_, ha, Q_HO_5, Q_BK398, Q_HB, Q_HO401, Q_HO404, Q_HO407, Q_X11_⟩ hb_ hon hoff
      refine ⟨_, rfl, fun K hK => ?_⟩
      have e23 : a.tmps[23]? = some (.pointer (some ⟨gb398, 3, none⟩)) := by rw [ha]; exact (putSel_off rfl).trans rfl
      replace ha := Aside0.mk ha
      have HO_5 := Aside0.mk Q_HO_5
      have BK398 := Aside0.mk Q_BK398
      have HB := Aside0.mk Q_HB
      have hc0_ : w'.cell? ⟨gb398, 0, none⟩ = some (.int .i64 ((rd_T53 l0 x6_1).f0)) := bc_ BK398 0 rfl
      have hc1_ : w'.cell? ⟨gb398, 1, none⟩ = some (.int .i64 ((rd_T53 l0 x6_1).f1)) := bc_ BK398 1 rfl
      have hc2_ : w'.cell? ⟨gb398, 2, none⟩ = some (.int .i64 ((rd_T53 l0 x6_1).f2)) := bc_ BK398 2 rfl
      have hc3_ : w'.cell? ⟨gb398, 3, none⟩ = some (.int .i64 ((rd_T53 l0 x6_1).f3)) := bc_ BK398 3 rfl
      refine value_ (w1 := w') (v := .int .i64 ((rd_T53 l0 x6_1).f3)) (by rfl) rfl ?_ ?_
      ·go_simp
       (try simp only [i64_w])
       try rfl
      refine hK.out _ _ ⟨v400, v403, v406, m11_, (by rw [ha.out]; exact putSel_upk 1 hb_ rfl rfl rfl), Q_HO_5, Q_BK398, Q_HB, fun h0_ => absurd ((hoff 5 (by kernel_rfl)).symm.trans h0_) (by decide), Q_HO404, fun h0_ => absurd ((hoff 10 (by kernel_rfl)).symm.trans h0_) (by decide), fun h0_ => absurd ((hoff 11 (by kernel_rfl)).symm.trans h0_) (by decide)⟩
     refine steps_cons ?_ ?_
     ·rintro b a w' ⟨v400, v403, v406, m11_, ha, Q_HO_5, Q_BK398, Q_HB, Q_HO401, Q_HO404, Q_HO407, Q_X11_⟩ hb_ hon hoff
      refine ⟨_, rfl, fun K hK => ?_⟩
      have e22 : a.tmps[22]? = some (.int .i64 ((rd_T53 l0 x6_1).f2)) := by rw [ha]; exact putSel_on (e := (1, 22, .int .i64 ((rd_T53 l0 x6_1).f2))) 0 rfl rfl (hon 1 (by kernel_rfl)) rfl
      have e24 : a.tmps[24]? = some (.int .i64 ((rd_T53 l0 x6_1).f3)) := by rw [ha]; exact putSel_on (e := (3, 24, .int .i64 ((rd_T53 l0 x6_1).f3))) 1 rfl rfl (hon 3 (by kernel_rfl)) rfl
      replace ha := Aside0.mk ha
      have HO_5 := Aside0.mk Q_HO_5
      have BK398 := Aside0.mk Q_BK398
      have HB := Aside0.mk Q_HB
      refine value_ (w1 := w') (v := .agg #[.int .i64 ((rd_T53 l0 x6_1).f2), .int .i64 ((rd_T53 l0 x6_1).f3)]) (by rfl) rfl ?_ ?_
      ·go_simp
       (try simp only [i64_w])
       try rfl
      refine hK.out _ _ ⟨v400, v403, v406, m11_, (by rw [ha.out]; exact putSel_upk 2 hb_ rfl rfl rfl), Q_HO_5, Q_BK398, Q_HB, fun h0_ => absurd ((hoff 5 (by kernel_rfl)).symm.trans h0_) (by decide), Q_HO404, fun h0_ => absurd ((hoff 10 (by kernel_rfl)).symm.trans h0_) (by decide), fun h0_ => absurd ((hoff 11 (by kernel_rfl)).symm.trans h0_) (by decide)⟩
     refine steps_cons ?_ ?_
     ·rintro b a w' ⟨v400, v403, v406, m11_, ha, Q_HO_5, Q_BK398, Q_HB, Q_HO401, Q_HO404, Q_HO407, Q_X11_⟩ hb_ hon hoff
      refine ⟨_, rfl, fun K hK => ?_⟩
      have e25 : a.tmps[25]? = some (.agg #[.int .i64 ((rd_T53 l0 x6_1).f2), .int .i64 ((rd_T53 l0 x6_1).f3)]) := by rw [ha]; exact putSel_on (e := (4, 25, .agg #[.int .i64 ((rd_T53 l0 x6_1).f2), .int .i64 ((rd_T53 l0 x6_1).f3)])) 2 rfl rfl (hon 4 (by kernel_rfl)) rfl
      replace ha := Aside0.mk ha
      have HO_5 := Aside0.mk Q_HO_5
      have BK398 := Aside0.mk Q_BK398
      have HB := Aside0.mk Q_HB
      refine Kd.R_lit_step k82 _ 82 ?hg (N := 26) ?hd (xs := ([(⟨(rd_T53 l0 x6_1).f2, (rd_T53 l0 x6_1).f3⟩ : S82)] : List (S82))) (inner := [.int .i64 ((rd_T53 l0 x6_1).f2), .int .i64 ((rd_T53 l0 x6_1).f3)]) (ok := fun _ => True) (okp := fun _ => True) ?hr ?hp (fun _ hk => hk) trivial (Below.refl _ _) (Nat.le_refl _) (by simp) ?_; (case hd => rfl); (case hg => rfl); (case hr => first | (go_simp; done) | (go_simp; rfl)); (case hp => exact (Reps.c2 (show Kd.M k82 _ _ _ (⟨(rd_T53 l0 x6_1).f2, (rd_T53 l0 x6_1).f3⟩ : S82) [.int .i64 ((rd_T53 l0 x6_1).f2), .int .i64 ((rd_T53 l0 x6_1).f3)] from (k82_mkM _ _ _ (⟨(rd_T53 l0 x6_1).f2, (rd_T53 l0 x6_1).f3⟩ : S82) )) (Reps.none _ _)))
      intro v400 w15 ho16 hb hg_ hnew_
      clear hg_ hnew_
      (first | rw [← Ny399.out] at ho16 | (simp only [Int.reduceToNat] at ho16; rw [← Ny399.out] at ho16))
      have n0_ := Aside0.mk (Kd.R_below (ra_ HO_5) hb)
      have n1_ := Aside0.mk (Kd.R_lower ho16 (below_size (bl1_ HB GE398)))
      have n2_ := Aside0.mk (blk_below (bk_ BK398) hb)
      have n3_ := Aside0.mk (below_step (bl1_ HB GE398) hb)
      have z_HO404 := fun (h0_ : b 9 = true) => (show Kd.R k82 82 w15 w.heap.size (fun _ => True) v403 t402 from by first | exact (Kd.R_elder' (by (with_reducible repeat (first | apply Kd.R_alloc | apply Kd.R_drewN | apply Kd.R_drew)); exact (Q_HO404 h0_)) (Kd.R_base ho16) hb) | exact Kd.R_mono (Kd.R_elder' (by (with_reducible repeat (first | apply Kd.R_alloc | apply Kd.R_drewN | apply Kd.R_drew)); exact (Q_HO404 h0_)) (Kd.R_base ho16) hb) (fun _ h_ => by first | trivial | exact h_ | exact h_.1))
      clear HO_5
      clear BK398
      clear HB
      have HO_5 := n0_
      have HO401 := n1_
      have BK398 := n2_
      have HB := n3_
      clear n0_ n1_ n2_ n3_
      clear hb ho16
      refine hK.out _ _ ⟨v400, v403, v406, m11_, (by rw [ha.out]; exact putSel_upk 3 hb_ rfl rfl rfl), (ra_ HO_5), (bk_ BK398), (bl1_ HB GE398), fun _ => (ro_ HO401), z_HO404, fun h0_ => absurd ((hoff 10 (by kernel_rfl)).symm.trans h0_) (by decide), fun h0_ => absurd ((hoff 11 (by kernel_rfl)).symm.trans h0_) (by decide)⟩
     refine steps_cons ?_ ?_
     ·rintro b a w' ⟨v400, v403, v406, m11_, ha, Q_HO_5, Q_BK398, Q_HB, Q_HO401, Q_HO404, Q_HO407, Q_X11_⟩ hb_ hon hoff
      refine ⟨_, rfl, fun K hK => ?_⟩
      have e28 : a.tmps[28]? = some (.pointer (some ⟨gb398, 0, none⟩)) := by rw [ha]; exact (putSel_off rfl).trans rfl
      replace ha := Aside0.mk ha
      have HO_5 := Aside0.mk Q_HO_5
      have BK398 := Aside0.mk Q_BK398
      have HB := Aside0.mk Q_HB
      have hc0_ : w'.cell? ⟨gb398, 0, none⟩ = some (.int .i64 ((rd_T53 l0 x6_1).f0)) := bc_ BK398 0 rfl
      have hc1_ : w'.cell? ⟨gb398, 1, none⟩ = some (.int .i64 ((rd_T53 l0 x6_1).f1)) := bc_ BK398 1 rfl
      have hc2_ : w'.cell? ⟨gb398, 2, none⟩ = some (.int .i64 ((rd_T53 l0 x6_1).f2)) := bc_ BK398 2 rfl
      have hc3_ : w'.cell? ⟨gb398, 3, none⟩ = some (.int .i64 ((rd_T53 l0 x6_1).f3)) := bc_ BK398 3 rfl
      refine value_ (w1 := w') (v := .int .i64 ((rd_T53 l0 x6_1).f0)) (by rfl) rfl ?_ ?_
      ·go_simp
       (try simp only [i64_w])
       try rfl
      refine hK.out _ _ ⟨v400, v403, v406, m11_, (by rw [ha.out]; exact putSel_upk 4 hb_ rfl rfl rfl), Q_HO_5, Q_BK398, Q_HB, Q_HO401, fun h0_ => absurd ((hoff 9 (by kernel_rfl)).symm.trans h0_) (by decide), fun h0_ => absurd ((hoff 10 (by kernel_rfl)).symm.trans h0_) (by decide), fun h0_ => absurd ((hoff 11 (by kernel_rfl)).symm.trans h0_) (by decide)⟩
     refine steps_cons ?_ ?_
     ·rintro b a w' ⟨v400, v403, v406, m11_, ha, Q_HO_5, Q_BK398, Q_HB, Q_HO401, Q_HO404, Q_HO407, Q_X11_⟩ hb_ hon hoff
      refine ⟨_, rfl, fun K hK => ?_⟩
      have e27 : a.tmps[27]? = some (.slice A1 l1.length c1) := by rw [ha]; exact (putSel_off rfl).trans rfl
      have e29 : a.tmps[29]? = some (.int .i64 ((rd_T53 l0 x6_1).f0)) := by rw [ha]; exact putSel_on (e := (8, 29, .int .i64 ((rd_T53 l0 x6_1).f0))) 4 rfl rfl (hon 8 (by kernel_rfl)) rfl
      replace ha := Aside0.mk ha
      have HO_5 := Aside0.mk Q_HO_5
      have BK398 := Aside0.mk Q_BK398
      have HB := Aside0.mk Q_HB
      refine goes_ Try.func89 (by kernel_rfl) rfl #[.slice A1 l1.length c1, .int .i64 ((rd_T53 l0 x6_1).f0)] (by rfl) rfl rfl (by first | (simp only [List.map_toArray, List.map_cons, List.map_nil, Act.eval, Array.getD_eq_getD_getElem?, Option.getD_some, e27, e29]; done) | (simp only [List.map_toArray, List.map_cons, List.map_nil, Act.eval, Array.getD_eq_getD_getElem?, Option.getD_some, e27, e29]; rfl)) ?_
      with_reducible refine (spec_CloudSpans.calls k1 _ _ l1 ((rd_T53 l0 x6_1).f0) t402 _ ?side1 ?side2 A7.out).mono ?_
      (case side1 => exact ck_ HR1 HB)
      (case side2 => exact HC1.out)
      rintro e w15 ⟨v403, rfl, ho0, hb⟩
      refine ⟨_, rfl, ?_⟩
      have n0_ := Aside0.mk (Kd.R_below (ra_ HO_5) hb)
      have n1_ := Aside0.mk (Kd.R_lower ho0 (below_size (bl1_ HB GE398)))
      have n2_ := Aside0.mk (blk_below (bk_ BK398) hb)
      have n3_ := Aside0.mk (below_step (bl1_ HB GE398) hb)
      have z_HO401 := fun (h0_ : b 5 = true) => (show Kd.R k82 82 w15 w.heap.size (fun _ => True) v400 y399 from by first | exact (Kd.R_elder' (by (with_reducible repeat (first | apply Kd.R_alloc | apply Kd.R_drewN | apply Kd.R_drew)); exact (Q_HO401 h0_)) (Kd.R_base ho0) hb) | exact Kd.R_mono (Kd.R_elder' (by (with_reducible repeat (first | apply Kd.R_alloc | apply Kd.R_drewN | apply Kd.R_drew)); exact (Q_HO401 h0_)) (Kd.R_base ho0) hb) (fun _ h_ => by first | trivial | exact h_ | exact h_.1))
      clear HO_5
      clear BK398
      clear HB
      have HO_5 := n0_
      have HO404 := n1_
      have BK398 := n2_
      have HB := n3_
      clear n0_ n1_ n2_ n3_
      (try clear hb)
      (try clear hb2)
      (try clear hk)
      (try clear hi)
      (try clear ho0)
      refine hK.out _ _ ⟨v400, v403, v406, m11_, (by rw [ha.out]; exact putSel_upk 5 hb_ rfl rfl rfl), (ra_ HO_5), (bk_ BK398), (bl1_ HB GE398), z_HO401, fun _ => (ro_ HO404), fun h0_ => absurd ((hoff 10 (by kernel_rfl)).symm.trans h0_) (by decide), fun h0_ => absurd ((hoff 11 (by kernel_rfl)).symm.trans h0_) (by decide)⟩
     refine steps_cons ?_ ?_
     ·rintro b a w' ⟨v400, v403, v406, m11_, ha, Q_HO_5, Q_BK398, Q_HB, Q_HO401, Q_HO404, Q_HO407, Q_X11_⟩ hb_ hon hoff
      refine ⟨_, rfl, fun K hK => ?_⟩
      have e26 : a.tmps[26]? = some (v400) := by rw [ha]; exact putSel_on (e := (5, 26, v400)) 3 rfl rfl (hon 5 (by kernel_rfl)) rfl
      have e30 : a.tmps[30]? = some (v403) := by rw [ha]; exact putSel_on (e := (9, 30, v403)) 5 rfl rfl (hon 9 (by kernel_rfl)) rfl
      replace ha := Aside0.mk ha
      have HO_5 := Aside0.mk Q_HO_5
      have BK398 := Aside0.mk Q_BK398
      have HB := Aside0.mk Q_HB
      have HO401 := Aside0.mk (Q_HO401 (hon 5 (by kernel_rfl)))
      have HO404 := Aside0.mk (Q_HO404 (hon 9 (by kernel_rfl)))
      obtain ⟨Ao19, co19, eo19⟩ := Kd.R_slice HO401.out
      (first | subst eo19 | (injection eo19 with f1_ f2_ f3_; have f4_ := f1_.symm; have f5_ := f3_.symm; clear f1_ f2_ f3_; subst f4_; subst f5_))
      obtain ⟨Ao20, co20, eo20⟩ := Kd.R_slice HO404.out
      (first | subst eo20 | (injection eo20 with f1_ f2_ f3_; have f4_ := f1_.symm; have f5_ := f3_.symm; clear f1_ f2_ f3_; subst f4_; subst f5_))
      refine goes_ Try.func71 (by kernel_rfl) rfl #[.slice Ao19 y399.length co19, .slice Ao20 t402.length co20] (by rfl) rfl rfl (by first | (simp only [List.map_toArray, List.map_cons, List.map_nil, Act.eval, Array.getD_eq_getD_getElem?, Option.getD_some, e26, e30]; done) | (simp only [List.map_toArray, List.map_cons, List.map_nil, Act.eval, Array.getD_eq_getD_getElem?, Option.getD_some, e26, e30]; rfl)) ?_
      with_reducible refine (spec_CutSpans.calls k1 _ _ y399 _ _ t402 t405 _ ?side1 ?side2 ?side3 ?side4 A8.out).mono ?_
      (case side1 => repeat (first | exact (Kd.R_reads' HO401.out).2.2 | (with_reducible refine Kd.C_alloc ?_ _) | (with_reducible refine Kd.C_drewN ?_ _) | (with_reducible refine Kd.C_drew ?_)))
      (case side2 => exact (Kd.R_reads' HO401.out).2.1)
      (case side3 => repeat (first | exact (Kd.R_reads' HO404.out).2.2 | (with_reducible refine Kd.C_alloc ?_ _) | (with_reducible refine Kd.C_drewN ?_ _) | (with_reducible refine Kd.C_drew ?_)))
      (case side4 => exact (Kd.R_reads' HO404.out).2.1)
      rintro e w21 ⟨v406, rfl, ho0, hb⟩
      refine ⟨_, rfl, sh6_ (Kd.R_below (ra_ HO_5) hb) (Kd.R_elder' (ra_ HO401) (Kd.R_base ho0) hb) (Kd.R_elder' (ra_ HO404) (Kd.R_base ho0) hb) (Kd.R_lower (Kd.R_new' (Kd.R_new' ho0 (Kd.R_lt (ra_ HO401))) (Kd.R_lt (ra_ HO404))) (below_size (bl1_ HB GE398))) (blk_below (bk_ BK398) hb) (below_step (bl1_ HB GE398) hb) ?_⟩
      clear HO_5 HO401 HO404 BK398 HB hb ho0
      intro HO_5 HO401 HO404 HO407 BK398 HB
      refine hK.out _ _ ⟨.slice Ao19 y399.length co19, .slice Ao20 t402.length co20, v406, m11_, (by rw [ha.out]; exact putSel_upk 6 hb_ rfl rfl rfl), (ra_ HO_5), (bk_ BK398), (bl1_ HB GE398), fun _ => (ro_ HO401), fun _ => (ro_ HO404), fun _ => (ro_ HO407), fun h0_ => absurd ((hoff 11 (by kernel_rfl)).symm.trans h0_) (by decide)⟩
     refine steps_cons ?_ ?_
     ·rintro b a w' ⟨v400, v403, v406, m11_, ha, Q_HO_5, Q_BK398, Q_HB, Q_HO401, Q_HO404, Q_HO407, Q_X11_⟩ hb_ hon hoff
      refine ⟨_, rfl, fun K hK => ?_⟩
      have e31 : a.tmps[31]? = some (v406) := by rw [ha]; exact putSel_on (e := (10, 31, v406)) 6 rfl rfl (hon 10 (by kernel_rfl)) rfl
      replace ha := Aside0.mk ha
      have HO_5 := Aside0.mk Q_HO_5
      have BK398 := Aside0.mk Q_BK398
      have HB := Aside0.mk Q_HB
      have HO401 := Aside0.mk (Q_HO401 (hon 5 (by kernel_rfl)))
      have HO404 := Aside0.mk (Q_HO404 (hon 9 (by kernel_rfl)))
      have HO407 := Aside0.mk (Q_HO407 (hon 10 (by kernel_rfl)))
      refine value_ (w1 := w') (v := v406) (by rfl) rfl ?_ ?_
      ·go_simp
       (try simp only [i64_w])
       try rfl
      refine hK.out _ _ ⟨v400, v403, v406, (v406), (by rw [ha.out]; exact putSel_upk 7 hb_ rfl rfl rfl), Q_HO_5, Q_BK398, Q_HB, Q_HO401, Q_HO404, Q_HO407, fun _ => rfl⟩
     exact steps_nil
    rintro b a w21 hall ⟨v400, v403, v406, m11_, ha, Q_HO_5, Q_BK398, Q_HB, Q_HO401, Q_HO404, Q_HO407, Q_X11_⟩
    clear BK398 HB HO_5
    have hb1_ := hall 1 (by kernel_rfl)
    have hb3_ := hall 3 (by kernel_rfl)
    have hb4_ := hall 4 (by kernel_rfl)
    have hb5_ := hall 5 (by kernel_rfl)
    have hb8_ := hall 8 (by kernel_rfl)
    have hb9_ := hall 9 (by kernel_rfl)
    have hb10_ := hall 10 (by kernel_rfl)
    have hb11_ := hall 11 (by kernel_rfl)
    subst ha
    obtain rfl := Q_X11_ hb11_
    simp only [putSel, hb1_, hb3_, hb4_, hb5_, hb8_, hb9_, hb10_, hb11_, if_true, Act.put, List.setIfInBounds_toArray, List.set_cons_zero, List.set_cons_succ]
    have HO_5 := Aside0.mk Q_HO_5
    clear Q_HO_5
    have BK398 := Aside0.mk Q_BK398
    clear Q_BK398
    have HB := Aside0.mk Q_HB
    clear Q_HB
    have HO401 := Aside0.mk (Q_HO401 hb5_)
    clear Q_HO401
    have HO404 := Aside0.mk (Q_HO404 hb9_)
    clear Q_HO404
    have HO407 := Aside0.mk (Q_HO407 hb10_)
    clear Q_HO407
    clear hall hb1_ hb3_ hb4_ hb5_ hb8_ hb9_ hb10_ hb11_
    have hcz22 := cf4_ BK398
    try go_wp2_with (first | ((with_reducible refine gate_callee (f := 89) rfl ?_); refine gl_ 36 Try.func89 (spec_CloudSpans.calls k1 _ _ l1 ((rd_T53 l0 x6_1).f1) t408 _ (ck_ HR1 HB) HC1.out A9.out) ?_; rintro e w23 ⟨v409, rfl, ho0, hb⟩; refine ⟨_, rfl, sh7_ (Kd.R_below (ra_ HO_5) hb) (Kd.R_elder' (ra_ HO401) (Kd.R_base ho0) hb) (Kd.R_elder' (ra_ HO404) (Kd.R_base ho0) hb) (Kd.R_elder' (ra_ HO407) (Kd.R_base ho0) hb) (Kd.R_lower (Kd.R_new' (Kd.R_new' (Kd.R_new' ho0 (Kd.R_lt (ra_ HO401))) (Kd.R_lt (ra_ HO404))) (Kd.R_lt (ra_ HO407))) (below_size (bl1_ HB GE398))) (blk_below (bk_ BK398) hb) (below_step (bl1_ HB GE398) hb) ?_⟩; clear HO_5 HO401 HO404 HO407 BK398 HB hb ho0; intro HO_5 HO401 HO404 HO407 HO410 BK398 HB; obtain ⟨Ao24, co24, eo24⟩ := Kd.R_slice HO407.out; subst eo24; obtain ⟨Ao25, co25, eo25⟩ := Kd.R_slice HO410.out; subst eo25) | ((with_reducible refine gate_callee (f := 71) rfl ?_); refine gl_ 37 Try.func71 (spec_CutSpans.calls k1 _ _ t405 _ _ t408 t411 _ (cr_ HO407) (rl_ HO407) (cr_ HO410) (rl_ HO410) A10.out) ?_; rintro e w26 ⟨v412, rfl, ho0, hb⟩; refine ⟨_, rfl, sh8_ (Kd.R_below (ra_ HO_5) hb) (Kd.R_elder' (ra_ HO401) (Kd.R_base ho0) hb) (Kd.R_elder' (ra_ HO404) (Kd.R_base ho0) hb) (Kd.R_elder' (ra_ HO407) (Kd.R_base ho0) hb) (Kd.R_elder' (ra_ HO410) (Kd.R_base ho0) hb) (Kd.R_lower (Kd.R_new' (Kd.R_new' (Kd.R_new' (Kd.R_new' ho0 (Kd.R_lt (ra_ HO401))) (Kd.R_lt (ra_ HO404))) (Kd.R_lt (ra_ HO407))) (Kd.R_lt (ra_ HO410))) (below_size (bl1_ HB GE398))) (blk_below (bk_ BK398) hb) (below_step (bl1_ HB GE398) hb) ?_⟩; clear HO_5 HO401 HO404 HO407 HO410 BK398 HB hb ho0; intro HO_5 HO401 HO404 HO407 HO410 HO413 BK398 HB))
    go_loopg [5, 9] k1 (fun kq v5 v9 w' => ∃ (x5_2 : List (S53)) (x9_2 : Int), v9 = .int .i64 x9_2 ∧ Aside0 (spec_CutClouds.l1 kq l0 l1 x5_2 x6_1 t411 x9_2 ((rd_T53 l0 x6_1).f0) ((rd_T53 l0 x6_1).f1) ((rd_T53 l0 x6_1).f2) ((rd_T53 l0 x6_1).f3) = some r) ∧ Aside0 (kq ≤ k1) ∧ Aside0 (Kd.R k53 53 w' w.heap.size (fun k_ => k_ ≠ gb398) v5 x5_2) ∧ Aside0 (Kd.R k82 82 w' w.heap.size (fun _ => True) v412 t411) ∧ Aside0 (w'.heap[gb398]? = some (.cells #[.int .i64 ((rd_T53 l0 x6_1).f0), .int .i64 ((rd_T53 l0 x6_1).f1), .int .i64 ((rd_T53 l0 x6_1).f2), .int .i64 ((rd_T53 l0 x6_1).f3)] 53 (0, 0))) ∧ Aside0 (Below w.heap.size w w'))
    case atStart => exact ⟨(x5_1), (0), (by first | rfl | (simp; done) | (simp [*]; done)), H', ⟨Nat.le_refl _⟩, ⟨ra_ HO_5⟩, ⟨by (with_reducible repeat (first | apply Kd.R_alloc | apply Kd.R_drewN | apply Kd.R_drew)); exact Kd.R_mono HO413.out (fun _ hk => trivial)⟩, ⟨by (with_reducible repeat (first | refine blk_drewN ?_ _ | refine blk_drew ?_ | refine blk_alloc ?_ _)); exact BK398.out⟩, ⟨bl1_ HB GE398⟩⟩
    case round =>
     clear H'
     try clear c1
     try clear c2
     try clear p2
     try clear c3
     try clear p3
     try clear q3
     try clear hx3
     try clear c4
     try clear c5
     try clear c5b0
     try clear c6
     try clear c6b0
     try clear c7
     try clear c8
     try clear hcz12
     try clear hcz22
     try clear hx397_0
     try clear hx397_1
     try clear hx397_2
     try clear hx397_3
     try clear p2
     try clear p397
     try clear q397
     obtain ⟨x5_2, x9_2, rfl, HA, HK2, HO_5, HO_8, BK398, HB⟩ := hrel
     cases gk with
     | zero => exact absurd HA.out (by simp [spec_CutClouds.l1])
     | succ k2 =>
      have H := HA.out
      clear HA
      simp only [spec_CutClouds.l1] at H
      by_cases c27 : x9_2 < (t411.length : Int)
      ·rw [if_pos c27] at H
       have c27b0 := decide_eq_true c27
       clear c27
       replace H := ifn_ H
       obtain ⟨c28, H⟩ := H
       have c28b0 := decide_eq_true c28
       clear c28
       replace H := ifn_ H
       obtain ⟨c29, H⟩ := H
       have LMc29 := Aside0.mk c29
       clear c29
       replace H : ∃ y_ : List (S53), Aside0 (y_ = (x5_2 ++ [(⟨((rd_T53 l0 x6_1).f0), ((rd_T53 l0 x6_1).f1), (rd_T82 t411 x9_2).f0, (rd_T82 t411 x9_2).f1⟩ : S53)])) ∧ (spec_CutClouds.l1 k2 l0 l1 y_ x6_1 t411 (wrap64 (x9_2 + 1)) ((rd_T53 l0 x6_1).f0) ((rd_T53 l0 x6_1).f1) ((rd_T53 l0 x6_1).f2) ((rd_T53 l0 x6_1).f3)) = some r := ⟨_, ⟨rfl⟩, yh_ H⟩
       obtain ⟨y416, Ny416, H⟩ := H
       have H' := Aside0.mk H
       clear H
       obtain ⟨Ao30, co30, eo30⟩ := Kd.R_slice HO_8.out
       subst eo30
       try go_wp2
       refine sh4_ (Kd.R_drew HO_5.out) (Kd.R_drew HO_8.out) (blk_drew BK398.out) (below_drew1 HB.out) ?_
       clear HO_5 HO_8 BK398 HB
       intro HO_5 HO_8 BK398 HB
       have p414 : 0 ≤ (x9_2 : Int) := od_
       have q414 : x9_2 < (t411.length : Int) := od_
       obtain ⟨ad414, e414, hx414_0, hx414_1⟩ := at_T82 (Kd.R_reads' HO_8.out).2.2 x9_2 p414 q414
       cases e414
       replace p414 := eq_true p414
       replace q414 := eq_true q414
       have p415 : 0 ≤ (x9_2 : Int) := od_
       have q415 : x9_2 < (t411.length : Int) := od_
       obtain ⟨ad415, e415, hx415_0, hx415_1⟩ := at_T82 (Kd.R_reads' HO_8.out).2.2 x9_2 p415 q415
       obtain rfl : ad414 = ad415 := (by injection e415)
       replace p415 := eq_true p415
       replace q415 := eq_true q415
       refine start_ (n := 19) (S := fun w' => w'.cell? ⟨gb398, 0, none⟩ = some (.int .i64 ((rd_T53 l0 x6_1).f0)) ∧ w'.cell? ⟨gb398, 1, none⟩ = some (.int .i64 ((rd_T53 l0 x6_1).f1)) ∧ w'.cell? ⟨gb398, 2, none⟩ = some (.int .i64 ((rd_T53 l0 x6_1).f2)) ∧ w'.cell? ⟨gb398, 3, none⟩ = some (.int .i64 ((rd_T53 l0 x6_1).f3)) ∧ w'.cell? (ad414.add ((x9_2).toNat * 2)) = some (.int .i64 ((rd_T82 t411 x9_2).f0)) ∧ w'.cell? ⟨(ad414.add ((x9_2).toNat * 2)).block, (ad414.add ((x9_2).toNat * 2)).off + 1, none⟩ = some (.int .i64 ((rd_T82 t411 x9_2).f1)) ∧ w'.cell? (ad414.add ((x9_2).toNat * 2)) = some (.int .i64 ((rd_T82 t411 x9_2).f0)) ∧ w'.cell? ⟨(ad414.add ((x9_2).toNat * 2)).block, (ad414.add ((x9_2).toNat * 2)).off + 1, none⟩ = some (.int .i64 ((rd_T82 t411 x9_2).f1))) (ds := [16, 17]) #[false, false, false, false, false, false, false, false, false, false, false, false, false, false, false, false, false, false, false] (by kernel_rfl) rfl rfl ⟨(bc_ BK398 0 rfl), (bc_ BK398 1 rfl), (bc_ BK398 2 rfl), (bc_ BK398 3 rfl), hx414_0, hx414_1, hx415_0, hx415_1⟩ (fun hHeld => ?_); refine with_tabW spec_CutClouds.tab11 spec_CutClouds.bits11 (fun HT_ HW_ => ?_)
       generalize wr.drew = w31 at HO_5 HO_8 BK398 HB hx414_0 hx414_1 hx415_0 hx415_1 hHeld ⊢
       refine pur_ 0 #[true, false, false, false, false, false, false, false, false, false, false, false, false, false, false, false, false, false, false] (some 44) HT_ ?_
       refine pur_ 1 #[true, true, false, false, false, false, false, false, false, false, false, false, false, false, false, false, false, false, false] (some 45) HT_ ?_
       refine pur_ 3 #[true, true, false, true, false, false, false, false, false, false, false, false, false, false, false, false, false, false, false] (some 47) HT_ ?_
       refine pur_ 5 #[true, true, false, true, false, true, false, false, false, false, false, false, false, false, false, false, false, false, false] (some 49) HT_ ?_
       refine pur_ 6 #[true, true, false, true, false, true, true, false, false, false, false, false, false, false, false, false, false, false, false] (some 50) HT_ ?_
       refine pur_ 7 #[true, true, false, true, false, true, true, true, false, false, false, false, false, false, false, false, false, false, false] (some 51) HT_ ?_
       refine pur_ 8 #[true, true, false, true, false, true, true, true, true, false, false, false, false, false, false, false, false, false, false] (some 52) HT_ ?_
       refine pur_ 10 #[true, true, false, true, false, true, true, true, true, false, true, false, false, false, false, false, false, false, false] (some 54) HT_ ?_
       refine pur_ 11 #[true, true, false, true, false, true, true, true, true, false, true, true, false, false, false, false, false, false, false] (some 55) HT_ ?_
       refine pur_ 12 #[true, true, false, true, false, true, true, true, true, false, true, true, true, false, false, false, false, false, false] (some 56) HT_ ?_
       refine pur_ 13 #[true, true, false, true, false, true, true, true, true, false, true, true, true, true, false, false, false, false, false] (some 57) HT_ ?_
       refine tak_ 2 #[true, true, true, true, false, true, true, true, true, false, true, true, true, true, false, false, false, false, false] (some 46) HT_ HW_ hHeld ?_
       refine tak_ 4 #[true, true, true, true, true, true, true, true, true, false, true, true, true, true, false, false, false, false, false] (some 48) HT_ HW_ hHeld ?_
       refine tak_ 9 #[true, true, true, true, true, true, true, true, true, true, true, true, true, true, false, false, false, false, false] (some 53) HT_ HW_ hHeld ?_
       refine tak_ 14 #[true, true, true, true, true, true, true, true, true, true, true, true, true, true, true, false, false, false, false] (some 58) HT_ HW_ hHeld ?_
       refine pur_ 15 #[true, true, true, true, true, true, true, true, true, true, true, true, true, true, true, true, false, false, false] (some 59) HT_ ?_
       refine last_ (i := 16) (N := some 60) #[true, true, true, true, true, true, true, true, true, true, true, true, true, true, true, true, true, false, false] rfl rfl (one_of HT_.out (by kernel_rfl)) (by decide) (fun K hK => ?_)
       refine value_ (w1 := ?_) (v := ?_) (by rfl) rfl ?_ ?_
       rotate_left 2
       ·go_simp
        constructor
        ·rfl
        ·rfl
       refine hK.out _ _ ?_
       clear hK K
       refine norm_ (a' := ?_) ?_ ?_
       rotate_left
       ·show Act.put _ (some 60) _ = _
        simp only [Act.put, List.setIfInBounds_toArray, List.set_cons_zero, List.set_cons_succ, i64_w, i32_w]
        rfl
       refine last_ (i := 17) (N := some 61) #[true, true, true, true, true, true, true, true, true, true, true, true, true, true, true, true, true, true, false] rfl rfl (one_of HT_.out (by kernel_rfl)) (by decide) (fun K hK => ?_)
       refine Kd.R_append_step k53 (w0 := w) w.heap.size (by rfl) (.tmp 44) (.tmp 60) 50 53 (.agg #[(.int .i64 0), (.int .i64 0), (.int .i64 0), (.int .i64 0)]) 32 rfl Try.underlying50 info53 rfl (by decide) (by omega) u5 x5_2 (⟨((rd_T53 l0 x6_1).f0), ((rd_T53 l0 x6_1).f1), (rd_T82 t411 x9_2).f0, (rd_T82 t411 x9_2).f1⟩ : S53) [.int .i64 ((rd_T53 l0 x6_1).f0), .int .i64 ((rd_T53 l0 x6_1).f1), .int .i64 ((rd_T82 t411 x9_2).f0), .int .i64 ((rd_T82 t411 x9_2).f1)] (fun k_ => k_ ≠ gb398) (fun _ => False) rfl rfl ?aP (fun _ hk => hk.elim) ?aF ?aO ?aB ?aS ?aL ?_
       (case aP => exact k53_mkM _ _ _ (⟨((rd_T53 l0 x6_1).f0), ((rd_T53 l0 x6_1).f1), (rd_T82 t411 x9_2).f0, (rd_T82 t411 x9_2).f1⟩ : S53))
       (case aB => exact (bl1_ HB GE398))
       (case aF => exact (fun k_ hk => Kd.freshB (g := gb398) (o := .cells #[.int .i64 ((rd_T53 l0 x6_1).f0), .int .i64 ((rd_T53 l0 x6_1).f1), .int .i64 ((rd_T53 l0 x6_1).f2), .int .i64 ((rd_T53 l0 x6_1).f3)] 53 (0, 0)) (bk_ BK398) k_ hk))
       (case aO => exact (ra_ HO_5))
       (case aS => exact (below_size (bl1_ HB GE398)))
       (case aL => have := LMc29.out; omega)
       intro v417 w32 ho hb hg hat
       rw [← Ny416.out] at ho
       refine sh4_ (Kd.R_over' (ra_ HO_8) (Kd.R_typed (ra_ HO_5)) (by decide) hg) (blk_grown (g := gb398) (o := .cells #[.int .i64 ((rd_T53 l0 x6_1).f0), .int .i64 ((rd_T53 l0 x6_1).f1), .int .i64 ((rd_T53 l0 x6_1).f2), .int .i64 ((rd_T53 l0 x6_1).f3)] 53 (0, 0)) (bk_ BK398) hg (Kd.R_away HO_5.out (fun _ hk => hk))) hb ho ?_
       clear HO_8 BK398 HB HO_5 ho hb hg hat
       intro HO_8 BK398 HB HO418
       refine hK.out _ _ ?_
       clear hK K
       refine norm_ (a' := ?_) ?_ ?_
       rotate_left
       ·show Act.put _ (some 61) _ = _
        simp only [Act.put, List.setIfInBounds_toArray, List.set_cons_zero, List.set_cons_succ, i64_w, i32_w]
        rfl
       refine pur_ 18 #[true, true, true, true, true, true, true, true, true, true, true, true, true, true, true, true, true, true, true] (some 5) HT_ ?_
       refine done_ (done_of HT_.out (by kernel_rfl)) ?_
       try go_wp2
       go_roundg k2
       case measure => have := HK1.out; have := HK2.out; omega
       case rel => exact ⟨(y416), (wrap64 (x9_2 + 1)), (by first | rfl | (simp; done) | (simp [*]; done)), H', ⟨by have := HK1.out; have := HK2.out; omega⟩, ⟨ra_ HO418⟩, ⟨ra_ HO_8⟩, ⟨by (with_reducible repeat (first | refine blk_drewN ?_ _ | refine blk_drew ?_ | refine blk_alloc ?_ _)); exact BK398.out⟩, ⟨bl1_ HB GE398⟩⟩
      ·rw [if_neg c27] at H
       have c27b0 : decide (x9_2 < (t411.length : Int)) = false := decide_eq_false c27
       clear c27
       have H' := Aside0.mk H
       clear H
       obtain ⟨Ao33, co33, eo33⟩ := Kd.R_slice HO_8.out
       subst eo33
       go_wp2
       go_roundg k2
       case measure => have := HK1.out; have := HK2.out; omega
       case rel => exact ⟨(x5_2), (wrap64 (x6_1 + 1)), (by first | rfl | (simp; done) | (simp [*]; done)), H', ⟨by have := HK1.out; have := HK2.out; omega⟩, ⟨by (with_reducible repeat (first | apply Kd.R_alloc | apply Kd.R_drewN | apply Kd.R_drew)); exact Kd.R_mono HO_5.out (fun _ hk => trivial)⟩, ⟨bl1_ HB GE398⟩⟩
   ·rw [if_neg c5] at H
    have c5b0 : decide (x6_1 < (l0.length : Int)) = false := decide_eq_false c5
    clear c5
    obtain rfl := Option.some.inj H
    go_wp2
    go_ret
    exact ⟨_, by first | (rw [hRT_.out]; rfl) | exact er_, ra_ HO_5, bl_ HB⟩

/-! ### impl_InSpans: function 17 -/
def impl_InSpans.l0 : Nat → Int → List (S82) → Int → Int → Option (Bool)
 | 0, _, _, _, _ => none
 | k + 1, x1, x7, x8, x9 => if x9 < x8 then (if 0 ≤ x9 then (if x9 < (x7.length : Int) then ((impl_InSpan.f ((rd_T82 x7 x9).f0) ((rd_T82 x7 x9).f1) x1).bind fun t421 => (if t421 = true then (some true) else (impl_InSpans.l0 k x1 x7 x8 (wrap64 (x9 + 1))))) else (none)) else (none)) else (some false)
def impl_InSpans.f (k : Nat) (l0 : List (S82)) (a1 : Int) : Option (Bool) := impl_InSpans.l0 k a1 l0 (l0.length : Int) 0
theorem impl_InSpans.mono_l : ∀ k, (∀ y0 y1 y2 y3, LeO (impl_InSpans.l0 k y0 y1 y2 y3) (impl_InSpans.l0 (k + 1) y0 y1 y2 y3))
 | 0 => fun _ _ _ _ r h => by simp [impl_InSpans.l0] at h
 | k + 1 => by
  have ih0 := impl_InSpans.mono_l k
  ·intro y0 y1 y2 y3
   unfold impl_InSpans.l0
   repeat' first | (with_reducible first | exact ih0 _ _ _ _ | exact LeO.refl _ | exact LeO.none _ | refine LeO.ite ?_ ?_ | refine LeO.bind ?_ (fun _ => ?_)) | exact LeO.none _ | refine LeO.ite ?_ ?_ | refine LeO.bind ?_ (fun _ => ?_)
theorem impl_InSpans.mono : ∀ a0 a1 k, LeO (impl_InSpans.f k a0 a1) (impl_InSpans.f (k + 1) a0 a1) := by
 intro a0 a1 k
 have ih0 := impl_InSpans.mono_l k
 unfold impl_InSpans.f
 repeat' first | (with_reducible first | exact ih0 _ _ _ _ | exact LeO.refl _ | exact LeO.none _ | refine LeO.ite ?_ ?_ | refine LeO.bind ?_ (fun _ => ?_)) | exact LeO.none _ | refine LeO.ite ?_ ?_ | refine LeO.bind ?_ (fun _ => ?_)
set_option maxHeartbeats 8000000 in
set_option maxRecDepth 100000 in
theorem impl_InSpans.calls (k : Nat) (A0 : Option Addr) (c0 : Nat) (l0 : List (S82)) (a1 : Int) (r : Bool) (w : World) (hr0 : Kd.C k82 w A0 l0.length l0) (hc0 : l0.length ≤ c0) (h : impl_InSpans.f k l0 a1 = some r) :
  Calls Try.prog 17 #[.slice A0 l0.length c0, .int .i64 a1] w fun e w' => e = .returned (.bool r) ∧ Below w.heap.size w w' := by
 have hu82 := Try.underlying82
 have HR0 := Aside0.mk hr0
 have HC0 := Aside0.mk hc0
 clear hr0 hc0
 have HB := Aside0.mk (Below.refl w.heap.size w)
 have H := h
 clear h
 unfold impl_InSpans.f at H
 have H' := Aside0.mk H
 clear H
 go_enter Try.func17, Try.ntmps17
 go_wp2
 go_loopg [9] k (fun kq v9 w' => ∃ (x9_1 : Int), v9 = .int .i64 x9_1 ∧ Aside0 (impl_InSpans.l0 kq a1 l0 (l0.length : Int) x9_1 = some r) ∧ Aside0 (kq ≤ k) ∧ Aside0 (Below w.heap.size w w'))
 case atStart => exact ⟨(0), (by first | rfl | (simp; done) | (simp [*]; done)), H', ⟨Nat.le_refl _⟩, ⟨bl_ HB⟩⟩
 case round =>
  clear H'
  try clear c1
  try clear p2
  obtain ⟨x9_1, rfl, HA, HK1, HB⟩ := hrel
  cases gk with
  | zero => exact absurd HA.out (by simp [impl_InSpans.l0])
  | succ k1 =>
   have H := HA.out
   clear HA
   simp only [impl_InSpans.l0] at H
   by_cases c3 : x9_1 < (l0.length : Int)
   ·rw [if_pos c3] at H
    have c3b0 := decide_eq_true c3
    clear c3
    replace H := ifn_ H
    obtain ⟨c4, H⟩ := H
    have c4b0 := decide_eq_true c4
    clear c4
    replace H := ifn_ H
    obtain ⟨c5, H⟩ := H
    have c5b0 := decide_eq_true c5
    clear c5
    replace H := bs_ H
    obtain ⟨t421, A6, H⟩ := H
    by_cases c7 : t421 = true
    ·subst c7
     rw [if_pos rfl] at H
     obtain rfl := Option.some.inj H
     have p419 : 0 ≤ (x9_1 : Int) := od_
     have q419 : x9_1 < (l0.length : Int) := od_
     obtain ⟨ad419, e419, hx419_0, hx419_1⟩ := at_T82 HR0.out x9_1 p419 q419
     cases e419
     replace hx419_0 := hbc_ HB hx419_0
     replace hx419_1 := hbc_ HB hx419_1
     replace p419 := eq_true p419
     replace q419 := eq_true q419
     go_wp2_with (first | ((with_reducible refine gd_ 6 ?_); refine bx_ 6 82 #[.int .i64 0, .int .i64 0] ?_; intro gb420 hg w8 hbox hb; refine sh4_ (below_step (bl_ HB) hb) hbox (ge_ hg (bl_ HB)) (ge_ hg (bl_ HB)) ?_; clear HB hb hbox hg; intro HB BK420 GW420 GE420; have hcz9 := cf2_ BK420) | ((with_reducible refine gate_callee (f := 63) rfl ?_); refine gl_ 15 Try.func63 (impl_InSpan.calls ((rd_T82 l0 x9_1).f0) ((rd_T82 l0 x9_1).f1) a1 true _ A6.out) ?_; rintro e w10 ⟨rfl, hb⟩; refine ⟨_, rfl, sh2_ (blk_below (g := gb420) (o := .cells #[.int .i64 ((rd_T82 l0 x9_1).f0), .int .i64 ((rd_T82 l0 x9_1).f1)] 82 (0, 0)) (by (with_reducible repeat (first | refine blk_drewN ?_ _ | refine blk_drew ?_ | refine blk_alloc ?_ _)); refine blk_put (cs := #[.int .i64 ((rd_T82 l0 x9_1).f0), .int .i64 0]) ?_ 1 _ rfl; (with_reducible repeat (first | refine blk_drewN ?_ _ | refine blk_drew ?_ | refine blk_alloc ?_ _)); refine blk_put (cs := #[.int .i64 0, .int .i64 0]) ?_ 0 _ rfl; (with_reducible repeat (first | refine blk_drewN ?_ _ | refine blk_drew ?_ | refine blk_alloc ?_ _)); exact BK420.out) hb) (below_step (bl1_ HB GE420) hb) ?_⟩; clear BK420 HB hb; intro BK420 HB))
     go_ret
     exact ⟨by first | (rw [hRT_.out]; rfl) | exact er_, bl1_ HB GE420⟩
    ·replace c7 := Bool.eq_false_iff.mpr c7
     subst c7
     have H1 : (impl_InSpans.l0 k1 a1 l0 (l0.length : Int) (wrap64 (x9_1 + 1))) = some r := by rw [if_neg (show ¬ (false = true) by decide)] at H; exact H
     clear H
     have H := H1
     clear H1
     have H' := Aside0.mk H
     clear H
     have p419 : 0 ≤ (x9_1 : Int) := od_
     have q419 : x9_1 < (l0.length : Int) := od_
     obtain ⟨ad419, e419, hx419_0, hx419_1⟩ := at_T82 HR0.out x9_1 p419 q419
     cases e419
     replace hx419_0 := hbc_ HB hx419_0
     replace hx419_1 := hbc_ HB hx419_1
     replace p419 := eq_true p419
     replace q419 := eq_true q419
     go_wp2_with (first | ((with_reducible refine gd_ 6 ?_); refine bx_ 6 82 #[.int .i64 0, .int .i64 0] ?_; intro gb420 hg w11 hbox hb; refine sh4_ (below_step (bl_ HB) hb) hbox (ge_ hg (bl_ HB)) (ge_ hg (bl_ HB)) ?_; clear HB hb hbox hg; intro HB BK420 GW420 GE420; have hcz12 := cf2_ BK420) | ((with_reducible refine gate_callee (f := 63) rfl ?_); refine gl_ 15 Try.func63 (impl_InSpan.calls ((rd_T82 l0 x9_1).f0) ((rd_T82 l0 x9_1).f1) a1 false _ A6.out) ?_; rintro e w13 ⟨rfl, hb⟩; refine ⟨_, rfl, sh2_ (blk_below (g := gb420) (o := .cells #[.int .i64 ((rd_T82 l0 x9_1).f0), .int .i64 ((rd_T82 l0 x9_1).f1)] 82 (0, 0)) (by (with_reducible repeat (first | refine blk_drewN ?_ _ | refine blk_drew ?_ | refine blk_alloc ?_ _)); refine blk_put (cs := #[.int .i64 ((rd_T82 l0 x9_1).f0), .int .i64 0]) ?_ 1 _ rfl; (with_reducible repeat (first | refine blk_drewN ?_ _ | refine blk_drew ?_ | refine blk_alloc ?_ _)); refine blk_put (cs := #[.int .i64 0, .int .i64 0]) ?_ 0 _ rfl; (with_reducible repeat (first | refine blk_drewN ?_ _ | refine blk_drew ?_ | refine blk_alloc ?_ _)); exact BK420.out) hb) (below_step (bl1_ HB GE420) hb) ?_⟩; clear BK420 HB hb; intro BK420 HB))
     go_roundg k1
     case measure => have := HK1.out; omega
     case rel => exact ⟨(wrap64 (x9_1 + 1)), (by first | rfl | (simp; done) | (simp [*]; done)), H', ⟨by have := HK1.out; omega⟩, ⟨bl1_ HB GE420⟩⟩
   ·rw [if_neg c3] at H
    have c3b0 := decide_eq_false c3
    clear c3
    obtain rfl := Option.some.inj H
    go_wp2
    go_ret
    exact ⟨by first | (rw [hRT_.out]; rfl) | exact er_, bl_ HB⟩

/-! ### impl_IsCovered: function 46 -/
def impl_IsCovered.f (k : Nat) (l0 : List (S121)) (a1 : Int) (a2 : Int) : Option (Bool) := (impl_CloudSpans.f k l0 a1).bind fun t422 => ((impl_InSpans.f k t422 a2).bind fun t425 => (some t425))
theorem impl_IsCovered.mono : ∀ a0 a1 a2 k, LeO (impl_IsCovered.f k a0 a1 a2) (impl_IsCovered.f (k + 1) a0 a1 a2) := by
 intro a0 a1 a2 k
 unfold impl_IsCovered.f
 repeat' first | (with_reducible first | exact impl_CloudSpans.mono _ _ _ | exact impl_InSpans.mono _ _ _ | exact LeO.refl _ | exact LeO.none _ | refine LeO.ite ?_ ?_ | refine LeO.bind ?_ (fun _ => ?_)) | exact LeO.none _ | refine LeO.ite ?_ ?_ | refine LeO.bind ?_ (fun _ => ?_)
set_option maxHeartbeats 8000000 in
set_option maxRecDepth 100000 in
theorem impl_IsCovered.calls (k : Nat) (A0 : Option Addr) (c0 : Nat) (l0 : List (S121)) (a1 : Int) (a2 : Int) (r : Bool) (w : World) (hr0 : Kd.C k121 w A0 l0.length l0) (hc0 : l0.length ≤ c0) (h : impl_IsCovered.f k l0 a1 a2 = some r) :
  Calls Try.prog 46 #[.slice A0 l0.length c0, .int .i64 a1, .int .i64 a2] w fun e w' => e = .returned (.bool r) ∧ Below w.heap.size w w' := by
 have HR0 := Aside0.mk hr0
 have HC0 := Aside0.mk hc0
 clear hr0 hc0
 have HB := Aside0.mk (Below.refl w.heap.size w)
 have H := h
 clear h
 unfold impl_IsCovered.f at H
 replace H := bs_ H
 obtain ⟨t422, A4, H⟩ := H
 replace H := bs_ H
 obtain ⟨t425, A5, H⟩ := H
 obtain rfl := Option.some.inj H
 go_enter Try.func46, Try.ntmps46
 go_wp2_with (first | ((with_reducible refine gate_callee (f := 88) rfl ?_); refine gl_ 9 Try.func88 (impl_CloudSpans.calls k _ _ l0 a1 t422 _ (cq_ HR0) HC0.out A4.out) ?_; rintro e w6 ⟨v423, rfl, ho0, hb⟩; refine ⟨_, rfl, sh2_ (Kd.R_lower ho0 (below_size (bl_ HB))) (below_step (bl_ HB) hb) ?_⟩; clear HB hb ho0; intro HO424 HB; obtain ⟨Ao7, co7, eo7⟩ := Kd.R_slice HO424.out; subst eo7) | ((with_reducible refine gate_callee (f := 17) rfl ?_); refine gl_ 11 Try.func17 (impl_InSpans.calls k _ _ t422 a2 t425 _ (cr_ HO424) (rl_ HO424) A5.out) ?_; rintro e w8 ⟨rfl, hb⟩; refine ⟨_, rfl, sh2_ (Kd.R_below (ra_ HO424) hb) (below_step (bl_ HB) hb) ?_⟩; clear HO424 HB hb; intro HO424 HB))
 go_ret
 exact ⟨by first | (rw [hRT_.out]; rfl) | exact er_, bl_ HB⟩

end Go.Proofs.Ytopbkdcicidajaa.PFnWeather
