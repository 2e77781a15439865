-- Written by a program of this session for this claim (the kit's printer with changes).
import Derived.Shelf.Spec.SlicesGrow
import Derived.Test.YtopbkdcicidajaaQFnWeatherx0
import Derived.Test.YtopbkdcicidajaaQFnWeatherx1
import Derived.Test.YtopbkdcicidajaaQFnWeatherx2
namespace Go.Proofs.Ytopbkdcicidajaa.PFnWeather
open Go.RowKit Go.Proofs.YtopbkdcicidajaaW.PrintWords Go.Proofs.YtopbkdcicidajaaW.PrintLast Go.Proofs.YtopbkdcicidajaaW.PrintMore
attribute [local go_sem] max2_int min2_int max_two min_two max_three min_three max_four min_four   -- for this text's walks alone
set_option linter.unusedVariables false
set_option linter.unusedSimpArgs false

/-! ### spec_l12Clouds: function 87 -/
def spec_l12Clouds.l0 : Nat → List (S121) → Int → List Int → Int → Int → Option ((List (S121)) × Int × Int)
 | 0, _, _, _, _, _ => none
 | k + 1, x3, x4, x1000, x1001, x1002 => if x4 > 0 then ((spec_l4Any.f x1000 x1001 x1002).bind fun bt236 => ((spec_l1Below.f x1000 bt236.2.2.1 bt236.2.2.2 4).bind fun bt241 => (if x3.length < 5864062014805 then (spec_l12Clouds.l0 k (x3 ++ [(⟨bt241.1, bt236.1, bt236.2.1⟩ : S121)]) (wrap64 (x4 - 1)) x1000 bt241.2.1 bt241.2.2) else (none)))) else (some (x3, x1001, x1002))
def spec_l12Clouds.f (k : Nat) (s0_0 : List Int) (s0_1 : Int) (s0_2 : Int) : Option ((List (S121)) × Int × Int) := (spec_l1Below.f s0_0 s0_1 s0_2 4).bind fun bt233 => (spec_l12Clouds.l0 k (([] : List (S121))) bt233.1 s0_0 bt233.2.1 bt233.2.2)
theorem spec_l12Clouds.mono_l : ∀ k, (∀ y0 y1 y2 y3 y4, LeO (spec_l12Clouds.l0 k y0 y1 y2 y3 y4) (spec_l12Clouds.l0 (k + 1) y0 y1 y2 y3 y4))
 | 0 => fun _ _ _ _ _ r h => by simp [spec_l12Clouds.l0] at h
 | k + 1 => by
  have ih0 := spec_l12Clouds.mono_l k
  ·intro y0 y1 y2 y3 y4
   unfold spec_l12Clouds.l0
   repeat' first | (with_reducible first | exact ih0 _ _ _ _ _ | exact LeO.refl _ | exact LeO.none _ | refine LeO.ite ?_ ?_ | refine LeO.bind ?_ (fun _ => ?_)) | exact LeO.none _ | refine LeO.ite ?_ ?_ | refine LeO.bind ?_ (fun _ => ?_)
theorem spec_l12Clouds.mono : ∀ a0 a1 a2 k, LeO (spec_l12Clouds.f k a0 a1 a2) (spec_l12Clouds.f (k + 1) a0 a1 a2) := by
 intro a0 a1 a2 k
 have ih0 := spec_l12Clouds.mono_l k
 unfold spec_l12Clouds.f
 repeat' first | (with_reducible first | exact ih0 _ _ _ _ _ | exact LeO.refl _ | exact LeO.none _ | refine LeO.ite ?_ ?_ | refine LeO.bind ?_ (fun _ => ?_)) | exact LeO.none _ | refine LeO.ite ?_ ?_ | refine LeO.bind ?_ (fun _ => ?_)
def spec_l12Clouds.T6 : Bool × List (List Nat × List Nat) := (true, [([], []), ([], []), ([1], [1]), ([], []), ([3], [3]), ([], []), ([5], [5]), ([2, 4, 6], [2, 4, 6]), ([7], [7]), ([0, 8, 2], [0, 8]), ([9, 9, 0, 1, 2, 3, 4, 5, 6, 7, 8, 9], [0, 9])])
def spec_l12Clouds.B6 : List Nat := [0, 0, 2, 0, 8, 0, 32, 126, 254, 511, 1023]
theorem spec_l12Clouds.tab6 : rtab .any (opsOf Try.f87 6) = spec_l12Clouds.T6 := by kernel_rfl
theorem spec_l12Clouds.bits6 : waitsOk spec_l12Clouds.T6.2 spec_l12Clouds.B6 = true := by kernel_rfl
set_option maxHeartbeats 8000000 in
set_option maxRecDepth 100000 in
theorem spec_l12Clouds.calls (k : Nat) (g : Nat) (s0_0 : List Int) (s0_1 : Int) (s0_2 : Int) (r1 : List (S121)) (r2 : Int) (r3 : Int) (w0 w : World) (hI : IsS102 w0 w g s0_0 s0_1 s0_2) (hB : Below w0.heap.size w0 w) (h : spec_l12Clouds.f k s0_0 s0_1 s0_2 = some (r1, r2, r3)) :
  Calls Try.prog 87 #[.pointer (some ⟨g, 0, none⟩)] w fun e w' => ∃ v0_ : Value, e = .returned (v0_) ∧ Kd.R k121 121 w' w.heap.size (fun _ => True) v0_ r1 ∧ IsS102 w0 w' g s0_0 r2 r3 ∧ Below w0.heap.size w0 w' ∧ KeepBut w w' g none := by
 have hu82 := Try.underlying82
 have hu121 := Try.underlying121
 have HI0 := Aside0.mk hI
 have HK := Aside0.mk (KeepBut.refl w g none)
 have HL := Aside0.mk hB.size
 clear hI
 have HW0 := Aside0.mk hB.size
 have HB := Aside0.mk hB
 clear hB
 have H := h
 clear h
 unfold spec_l12Clouds.f at H
 replace H : ∃ y_ : List (S121), Aside0 (y_ = (([] : List (S121)))) ∧ ((spec_l1Below.f s0_0 s0_1 s0_2 4).bind fun bt233 => (spec_l12Clouds.l0 k y_ bt233.1 s0_0 bt233.2.1 bt233.2.2)) = some (r1, r2, r3) := ⟨_, ⟨rfl⟩, yh_ H⟩
 obtain ⟨y230, Ny230, H⟩ := H
 replace H := bs_ H
 obtain ⟨⟨t233, t234, t235⟩, A2, H⟩ := H
 dsimp only at H
 have H' := Aside0.mk H
 clear H
 go_enter Try.func87, Try.ntmps87
 go_wp2_with (first | ((with_reducible refine gate_dst (N := 6) rfl ?_); refine Kd.R_lit k121 _ 121 ?hg (N := 6) ?hd (xs := ([] : List (S121))) (inner := []) (ok := fun _ => True) (okp := fun _ => True) ?hr ?hp (fun _ hk => hk) trivial (Below.refl _ _) (Nat.le_refl _) (by simp) ?_; (case hd => rfl); (case hg => rfl); (case hr => first | (go_simp; done) | (go_simp; rfl)); (case hp => exact (Reps.none _ _)); intro v231 w3 ho4 hb hg_ hnew_; clear hg_ hnew_; (first | rw [← Ny230.out] at ho4 | (simp only [Int.reduceToNat] at ho4; rw [← Ny230.out] at ho4)); refine sh4_ (Kd.R_lower ho4 (keep_size (w := w) (g := g) (row := none) (by repeat (first | (with_reducible first | exact HK.out | apply KeepBut.set_ | apply keep_drewN | apply keep_drew | apply keep_alloc) | exact HK.out)))) (IsS102.below (by repeat (first | (with_reducible first | exact HI0.out | apply IsS102.alloc | apply IsS102.drewN | apply IsS102.drew | apply IsS102.set_1 | apply IsS102.set_2) | exact HI0.out)) hb) (KeepBut.trans (by repeat (first | (with_reducible first | exact HK.out | apply KeepBut.set_ | apply keep_drewN | apply keep_drew | apply keep_alloc) | exact HK.out)) (KeepBut.of_below hb g none) (.inl rfl)) (below_step (by repeat (first | (with_reducible first | exact HB.out | apply below_alloc | apply pw_below_drewN | apply below_drew1 | refine below_set ?_ (IsS102.ge HI0.out)) | exact HB.out)) hb) ?_; clear HI0 HK HB hb ho4; intro HO232 HI0 HK HB) | ((with_reducible refine gate_callee (f := 60) rfl ?_); refine goesL_ (some 8) rfl rfl Try.func60 (by kernel_rfl) rfl #[.pointer (some ⟨g, 0, none⟩), .int .i64 4] rfl mp_ ?_; (with_reducible refine (spec_l1Below.calls g s0_0 s0_1 s0_2 4 t233 t234 t235 w0 _ ?side1 ?side2 A2.out).mono ?_); (case side1 => repeat (first | (with_reducible first | exact HI0.out | apply IsS102.alloc | apply IsS102.drewN | apply IsS102.drew | apply IsS102.set_1 | apply IsS102.set_2) | exact HI0.out)); (case side2 => repeat (first | (with_reducible first | exact HB.out | apply below_alloc | apply pw_below_drewN | apply below_drew1 | refine below_set ?_ (IsS102.ge HI0.out)) | exact HB.out)); rintro e w5 ⟨rfl, hi, hb, hk⟩; refine ⟨_, rfl, sh4_ (Kd.R_mono (Kd.R_keep (IsS102.apart (show IsS102 w0 _ g s0_0 s0_1 s0_2 from by repeat (first | (with_reducible first | exact HI0.out | apply IsS102.alloc | apply IsS102.drewN | apply IsS102.drew | apply IsS102.set_1 | apply IsS102.set_2) | exact HI0.out)) (ra_ HO232) (by decide)) hk (fun _ h => h.2)) (fun _ h => h.1)) (KeepBut.trans (by repeat (first | (with_reducible first | exact HK.out | apply KeepBut.set_ | apply keep_drewN | apply keep_drew | apply keep_alloc) | exact HK.out)) hk (.inl rfl)) hb hi ?_⟩; clear HO232 HK HB HI0 hb hk hi; intro HO232 HK HB HI0))
 go_loopg [3, 4] k (fun kq v3 v4 w' => ∃ (x3_1 : List (S121)) (x4_1 : Int) (x1001_1 : Int) (x1002_1 : Int), v4 = .int .i64 x4_1 ∧ Aside0 (spec_l12Clouds.l0 kq x3_1 x4_1 s0_0 x1001_1 x1002_1 = some (r1, r2, r3)) ∧ Aside0 (kq ≤ k) ∧ Aside0 (Kd.R k121 121 w' w.heap.size (fun _ => True) v3 x3_1) ∧ Aside0 (IsS102 w0 w' g s0_0 x1001_1 x1002_1) ∧ Aside0 (KeepBut w w' g none) ∧ Aside0 (Below w0.heap.size w0 w'))
 case atStart => exact ⟨(y230), (t233), (t234), (t235), (by first | rfl | (simp; done) | (simp [*]; done)), H', ⟨Nat.le_refl _⟩, ⟨ra_ HO232⟩, ⟨by repeat (first | (with_reducible first | exact HI0.out | apply IsS102.alloc | apply IsS102.drewN | apply IsS102.drew | apply IsS102.set_1 | apply IsS102.set_2) | exact HI0.out)⟩, ⟨by repeat (first | (with_reducible first | exact HK.out | apply KeepBut.set_ | apply keep_drewN | apply keep_drew | apply keep_alloc) | exact HK.out)⟩, ⟨by repeat (first | (with_reducible first | exact HB.out | apply below_alloc | apply pw_below_drewN | apply below_drew1 | refine below_set ?_ (IsS102.ge HI0.out)) | exact HB.out)⟩⟩
 case round =>
  clear H'
  try clear p2
  obtain ⟨x3_1, x4_1, x1001_1, x1002_1, rfl, HA, HK1, HO_3, HI0, HK, HB⟩ := hrel
  cases gk with
  | zero => exact absurd HA.out (by simp [spec_l12Clouds.l0])
  | succ k1 =>
   have H := HA.out
   clear HA
   simp only [spec_l12Clouds.l0] at H
   by_cases c6 : x4_1 > 0
   ·rw [if_pos c6] at H
    have c6b0 : decide (0 < x4_1) = true := decide_eq_true c6
    clear c6
    replace H := bs_ H
    obtain ⟨⟨t236, t237, t238, t239⟩, A7, H⟩ := H
    dsimp only at H
    replace H := bs_ H
    obtain ⟨⟨t241, t242, t243⟩, A8, H⟩ := H
    dsimp only at H
    replace H := ifn_ H
    obtain ⟨c9, H⟩ := H
    have LMc9 := Aside0.mk c9
    clear c9
    replace H : ∃ y_ : List (S121), Aside0 (y_ = (x3_1 ++ [(⟨t241, t236, t237⟩ : S121)])) ∧ (spec_l12Clouds.l0 k1 y_ (wrap64 (x4_1 - 1)) s0_0 t242 t243) = some (r1, r2, r3) := ⟨_, ⟨rfl⟩, yh_ H⟩
    obtain ⟨y244, Ny244, H⟩ := H
    have H' := Aside0.mk H
    clear H
    try go_wp2_with (first | ((with_reducible refine gate_callee (f := 116) rfl ?_); refine goesL_ (some 14) rfl rfl Try.func116 (by kernel_rfl) rfl #[.pointer (some ⟨g, 0, none⟩)] rfl mp_ ?_; (with_reducible refine (spec_l4Any.calls g s0_0 x1001_1 x1002_1 t236 t237 t238 t239 w0 _ ?side1 ?side2 A7.out).mono ?_); (case side1 => repeat (first | (with_reducible first | exact HI0.out | apply IsS102.alloc | apply IsS102.drewN | apply IsS102.drew | apply IsS102.set_1 | apply IsS102.set_2) | exact HI0.out)); (case side2 => repeat (first | (with_reducible first | exact HB.out | apply below_alloc | apply pw_below_drewN | apply below_drew1 | refine below_set ?_ (IsS102.ge HI0.out)) | exact HB.out)); rintro e w10 ⟨rfl, hi, hb, hk⟩; refine ⟨_, rfl, sh4_ (Kd.R_mono (Kd.R_keep (IsS102.apart (show IsS102 w0 _ g s0_0 x1001_1 x1002_1 from by repeat (first | (with_reducible first | exact HI0.out | apply IsS102.alloc | apply IsS102.drewN | apply IsS102.drew | apply IsS102.set_1 | apply IsS102.set_2) | exact HI0.out)) (ra_ HO_3) (by decide)) hk (fun _ h => h.2)) (fun _ h => h.1)) (KeepBut.trans (by repeat (first | (with_reducible first | exact HK.out | apply KeepBut.set_ | apply keep_drewN | apply keep_drew | apply keep_alloc) | exact HK.out)) hk (.inl rfl)) hb hi ?_⟩; clear HO_3 HK HB HI0 hb hk hi; intro HO_3 HK HB HI0) | ((with_reducible refine gd_ 5 ?_); refine bx_ 5 82 #[.int .i64 0, .int .i64 0] ?_; intro gb240 hg w11 hbox hb; refine sh9_ (Kd.R_below (ra_ HO_3) hb) (IsS102.below (by repeat (first | (with_reducible first | exact HI0.out | apply IsS102.alloc | apply IsS102.drewN | apply IsS102.drew | apply IsS102.set_1 | apply IsS102.set_2) | exact HI0.out)) hb) (KeepBut.trans (by repeat (first | (with_reducible first | exact HK.out | apply KeepBut.set_ | apply keep_drewN | apply keep_drew | apply keep_alloc) | exact HK.out)) (KeepBut.of_below hb g none) (.inl rfl)) (below_step (by repeat (first | (with_reducible first | exact HB.out | apply below_alloc | apply pw_below_drewN | apply below_drew1 | refine below_set ?_ (IsS102.ge HI0.out)) | exact HB.out)) hb) hbox ((by rw [hg]; exact (keep_size (w := w) (g := g) (row := none) (by repeat (first | (with_reducible first | exact HK.out | apply KeepBut.set_ | apply keep_drewN | apply keep_drew | apply keep_alloc) | exact HK.out))) : w.heap.size ≤ gb240)) ((Nat.le_trans HW0.out (by rw [hg]; exact (keep_size (w := w) (g := g) (row := none) (by repeat (first | (with_reducible first | exact HK.out | apply KeepBut.set_ | apply keep_drewN | apply keep_drew | apply keep_alloc) | exact HK.out))) : w.heap.size ≤ gb240) : w0.heap.size ≤ gb240)) ((by rw [hg]; exact Nat.ne_of_lt (IsS102.lt (show IsS102 w0 _ g s0_0 t238 t239 from by repeat (first | (with_reducible first | exact HI0.out | apply IsS102.alloc | apply IsS102.drewN | apply IsS102.drew | apply IsS102.set_1 | apply IsS102.set_2) | exact HI0.out))) : g ≠ gb240)) ((by rw [hg]; exact Nat.ne_of_gt (IsS102.lt (show IsS102 w0 _ g s0_0 t238 t239 from by repeat (first | (with_reducible first | exact HI0.out | apply IsS102.alloc | apply IsS102.drewN | apply IsS102.drew | apply IsS102.set_1 | apply IsS102.set_2) | exact HI0.out))) : gb240 ≠ g)) ?_; clear HO_3 HI0 HK HB hb hbox hg; intro HO_3 HI0 HK HB BK240 GW240 GE240 NB0_240 NB240_0; have hnb12 := NB240_0.out; have hnc12 := NB0_240.out; have hcz13 := cf2_ BK240))
    have n0_ : Aside0 (Kd.R k121 121 ((w11.setCell ⟨gb240, 0, none⟩ (.int .i64 t236)).setCell ⟨gb240, 1, none⟩ (.int .i64 t237)) w.heap.size (fun _ => True) u3 x3_1) := ⟨by (with_reducible repeat (first | apply Kd.R_alloc | apply Kd.R_drewN | apply Kd.R_drew)); exact Kd.R_mono (Kd.R_far (p := ⟨gb240, 1, none⟩) (Kd.R_far (p := ⟨gb240, 0, none⟩) (Kd.R_types HO_3.out BK240.out (by decide)) (fun _ hk => hk.2) (.int .i64 t236)) (fun _ hk => hk.2) (.int .i64 t237)) (fun _ hk => trivial)⟩
    have n1_ : Aside0 (((w11.setCell ⟨gb240, 0, none⟩ (.int .i64 t236)).setCell ⟨gb240, 1, none⟩ (.int .i64 t237)).heap[gb240]? = some (.cells #[.int .i64 t236, .int .i64 t237] 82 (0, 0))) := ⟨by (with_reducible repeat (first | refine blk_drewN ?_ _ | refine blk_drew ?_ | refine blk_alloc ?_ _)); refine blk_put (cs := #[.int .i64 t236, .int .i64 0]) ?_ 1 _ rfl; (with_reducible repeat (first | refine blk_drewN ?_ _ | refine blk_drew ?_ | refine blk_alloc ?_ _)); refine blk_put (cs := #[.int .i64 0, .int .i64 0]) ?_ 0 _ rfl; (with_reducible repeat (first | refine blk_drewN ?_ _ | refine blk_drew ?_ | refine blk_alloc ?_ _)); exact BK240.out⟩
    have n2_ : Aside0 (IsS102 w0 ((w11.setCell ⟨gb240, 0, none⟩ (.int .i64 t236)).setCell ⟨gb240, 1, none⟩ (.int .i64 t237)) g s0_0 t238 t239) := ⟨by repeat (first | (with_reducible first | exact HI0.out | apply IsS102.alloc | apply IsS102.drewN | apply IsS102.drew | apply IsS102.set_1 | apply IsS102.set_2 | refine IsS102.far ?_ NB0_240.out _) | exact HI0.out)⟩
    have n3_ : Aside0 (KeepBut w ((w11.setCell ⟨gb240, 0, none⟩ (.int .i64 t236)).setCell ⟨gb240, 1, none⟩ (.int .i64 t237)) g none) := ⟨by repeat (first | (with_reducible first | exact HK.out | apply KeepBut.set_ | apply keep_drewN | apply keep_drew | apply keep_alloc | refine keep_far ?_ GW240.out _) | exact HK.out)⟩
    have n4_ : Aside0 (Below w0.heap.size w0 ((w11.setCell ⟨gb240, 0, none⟩ (.int .i64 t236)).setCell ⟨gb240, 1, none⟩ (.int .i64 t237))) := ⟨by repeat (first | (with_reducible first | exact HB.out | apply below_alloc | apply pw_below_drewN | apply below_drew1 | refine below_set ?_ (IsS102.ge HI0.out) | refine below_set ?_ GE240.out) | exact HB.out)⟩
    (try clear HO_3)
    (try clear BK240)
    (try clear HI0)
    (try clear HK)
    (try clear HB)
    generalize ((w11.setCell ⟨gb240, 0, none⟩ (.int .i64 t236)).setCell ⟨gb240, 1, none⟩ (.int .i64 t237)) = w14 at n0_ n1_ n2_ n3_ n4_ ⊢
    have HO_3 := n0_
    have BK240 := n1_
    have HI0 := n2_
    have HK := n3_
    have HB := n4_
    clear n0_ n1_ n2_ n3_ n4_
    refine sh5_ (Kd.R_drew HO_3.out) (blk_drew BK240.out) (IsS102.drew HI0.out) (keep_drew HK.out) (below_drew1 HB.out) ?_
    clear HO_3 BK240 HI0 HK HB
    intro HO_3 BK240 HI0 HK HB
    refine start_ (n := 11) (S := fun w' => w'.cell? ⟨gb240, 0, none⟩ = some (.int .i64 t236) ∧ w'.cell? ⟨gb240, 1, none⟩ = some (.int .i64 t237)) (ds := []) #[false, false, false, false, false, false, false, false, false, false, false] (by kernel_rfl) rfl rfl ⟨(bc_ BK240 0 rfl), (bc_ BK240 1 rfl)⟩ (fun hHeld => ?_); refine with_tabW spec_l12Clouds.tab6 spec_l12Clouds.bits6 (fun HT_ HW_ => ?_)
    generalize w14.drew = w15 at HO_3 BK240 HI0 HK HB hHeld ⊢
    refine pur_ 0 #[true, false, false, false, false, false, false, false, false, false, false] (some 15) HT_ ?_
    refine pur_ 1 #[true, true, false, false, false, false, false, false, false, false, false] (some 16) HT_ ?_
    refine pur_ 3 #[true, true, false, true, false, false, false, false, false, false, false] (some 18) HT_ ?_
    refine pur_ 5 #[true, true, false, true, false, true, false, false, false, false, false] (some 20) HT_ ?_
    refine tak_ 4 #[true, true, false, true, true, true, false, false, false, false, false] (some 19) HT_ HW_ hHeld ?_
    refine tak_ 6 #[true, true, false, true, true, true, true, false, false, false, false] (some 21) HT_ HW_ hHeld ?_
    refine one_ (i := 2) (N := some 17) #[true, true, true, true, true, true, true, false, false, false, false] rfl rfl (one_of HT_.out (by kernel_rfl)) (by decide) (fun K hK => ?_)
    refine goes_ Try.func60 (by kernel_rfl) rfl #[.pointer (some ⟨g, 0, none⟩), .int .i64 4] (by rfl) rfl rfl mp_ ?_
    with_reducible refine (spec_l1Below.calls g s0_0 t238 t239 4 t241 t242 t243 w0 _ ?side1 ?side2 A8.out).mono ?_
    (case side1 => repeat (first | (with_reducible first | exact HI0.out | apply IsS102.alloc | apply IsS102.drewN | apply IsS102.drew | apply IsS102.set_1 | apply IsS102.set_2 | refine IsS102.far ?_ NB0_240.out _) | exact HI0.out))
    (case side2 => repeat (first | (with_reducible first | exact HB.out | apply below_alloc | apply pw_below_drewN | apply below_drew1 | refine below_set ?_ (IsS102.ge HI0.out) | refine below_set ?_ GE240.out) | exact HB.out))
    rintro e w16 ⟨rfl, hi, hb, hk⟩
    refine ⟨_, rfl, sh5_ (Kd.R_mono (Kd.R_keep (IsS102.apart (show IsS102 w0 _ g s0_0 t238 t239 from by repeat (first | (with_reducible first | exact HI0.out | apply IsS102.alloc | apply IsS102.drewN | apply IsS102.drew | apply IsS102.set_1 | apply IsS102.set_2 | refine IsS102.far ?_ NB0_240.out _) | exact HI0.out)) (ra_ HO_3) (by decide)) hk (fun _ h => h.2)) (fun _ h => h.1)) (KeepBut.blk hk (g' := gb240) (o := .cells #[.int .i64 t236, .int .i64 t237] 82 (0, 0)) (bk_ BK240) NB240_0.out (by simp)) (KeepBut.trans (by repeat (first | (with_reducible first | exact HK.out | apply KeepBut.set_ | apply keep_drewN | apply keep_drew | apply keep_alloc | refine keep_far ?_ GW240.out _) | exact HK.out)) hk (.inl rfl)) hb hi ?_⟩
    clear HO_3 BK240 HK HB HI0 hb hk hi
    intro HO_3 BK240 HK HB HI0
    refine hK.out _ _ ⟨(bc_ BK240 0 rfl), (bc_ BK240 1 rfl)⟩ (fun hHeld => ?_)
    clear hK K
    refine norm_ (a' := ?_) ?_ ?_
    rotate_left
    ·show Act.put _ (some 17) _ = _
     simp only [Act.put, List.setIfInBounds_toArray, List.set_cons_zero, List.set_cons_succ, i64_w, i32_w]
     rfl
    refine pur_ 7 #[true, true, true, true, true, true, true, true, false, false, false] (some 22) HT_ ?_
    refine one_ (i := 8) (N := some 23) #[true, true, true, true, true, true, true, true, true, false, false] rfl rfl (one_of HT_.out (by kernel_rfl)) (by decide) (fun K hK => ?_)
    refine value_ (w1 := ?_) (v := ?_) (by rfl) rfl ?_ ?_
    rotate_left 2
    ·go_simp
     constructor
     ·rfl
     ·rfl
    refine hK.out _ _ ⟨(blk_cell (blk_alloc BK240.out _) 0).trans rfl, (blk_cell (blk_alloc BK240.out _) 1).trans rfl⟩ (fun hHeld => ?_)
    clear hK K
    refine norm_ (a' := ?_) ?_ ?_
    rotate_left
    ·show Act.put _ (some 23) _ = _
     simp only [Act.put, List.setIfInBounds_toArray, List.set_cons_zero, List.set_cons_succ, i64_w, i32_w]
     rfl
    refine one_ (i := 9) (N := some 24) #[true, true, true, true, true, true, true, true, true, true, false] rfl rfl (one_of HT_.out (by kernel_rfl)) (by decide) (fun K hK => ?_)
    refine Kd.R_append_step k121 w.heap.size (by rfl) (.tmp 15) (.tmp 23) 60 121 (.agg #[(.int .i64 0), (.int .i64 0), (.int .i64 0)]) 24 rfl Try.underlying60 info121 rfl (by decide) (by omega) u3 x3_1 (⟨t241, t236, t237⟩ : S121) [.int .i64 t241, .int .i64 t236, .int .i64 t237] (fun _ => True) (fun _ => False) rfl rfl ?aP (fun _ hk => hk.elim) ?aF ?aO (Below.refl _ _) ?aS ?aL ?_
    (case aP => exact k121_mkM _ _ _ (⟨t241, t236, t237⟩ : S121))
    (case aF => exact (fun _ _ => trivial))
    (case aO => exact (ra_ HO_3))
    (case aS => exact (keep_size (w := w) (g := g) (row := none) (by repeat (first | (with_reducible first | exact HK.out | apply KeepBut.set_ | apply keep_drewN | apply keep_drew | apply keep_alloc | refine keep_far ?_ GW240.out _) | exact HK.out))))
    (case aL => have := LMc9.out; omega)
    intro v245 w17 ho hb hg hat
    rw [← Ny244.out] at ho
    refine sh5_ (IsS102.grown (by repeat (first | (with_reducible first | exact HI0.out | apply IsS102.alloc | apply IsS102.drewN | apply IsS102.drew | apply IsS102.set_1 | apply IsS102.set_2 | refine IsS102.far ?_ NB0_240.out _) | exact HI0.out)) hg (IsS102.own_ne HI0.out HO_3.out (by decide))) (blk_grown (g := gb240) (o := .cells #[.int .i64 t236, .int .i64 t237] 82 (0, 0)) (bk_ BK240) hg (Kd.R_ne HO_3.out BK240.out (by decide))) (below_weaken (by repeat (first | (with_reducible first | exact HB.out | apply below_alloc | apply pw_below_drewN | apply below_drew1 | refine below_set ?_ (IsS102.ge HI0.out) | refine below_set ?_ GE240.out) | exact HB.out)) HL.out hb) (KeepBut.trans (by repeat (first | (with_reducible first | exact HK.out | apply KeepBut.set_ | apply keep_drewN | apply keep_drew | apply keep_alloc | refine keep_far ?_ GW240.out _) | exact HK.out)) (KeepBut.of_grown hg g) (Kd.R_base2 HO_3.out)) ho ?_
    clear HI0 BK240 HB HK HO_3 ho hb hg hat
    intro HI0 BK240 HB HK HO246
    refine hK.out _ _ ⟨(bc_ BK240 0 rfl), (bc_ BK240 1 rfl)⟩ (fun hHeld => ?_)
    clear hK K
    refine norm_ (a' := ?_) ?_ ?_
    rotate_left
    ·show Act.put _ (some 24) _ = _
     simp only [Act.put, List.setIfInBounds_toArray, List.set_cons_zero, List.set_cons_succ, i64_w, i32_w]
     rfl
    refine pur_ 10 #[true, true, true, true, true, true, true, true, true, true, true] (some 3) HT_ ?_
    refine done_ (done_of HT_.out (by kernel_rfl)) ?_
    try go_wp2
    go_roundg k1
    case measure => have := HK1.out; omega
    case rel => exact ⟨(y244), (wrap64 (x4_1 - 1)), (t242), (t243), (by first | rfl | (simp; done) | (simp [*]; done)), H', ⟨by have := HK1.out; omega⟩, ⟨ra_ HO246⟩, ⟨by repeat (first | (with_reducible first | exact HI0.out | apply IsS102.alloc | apply IsS102.drewN | apply IsS102.drew | apply IsS102.set_1 | apply IsS102.set_2 | refine IsS102.far ?_ NB0_240.out _) | exact HI0.out)⟩, ⟨by repeat (first | (with_reducible first | exact HK.out | apply KeepBut.set_ | apply keep_drewN | apply keep_drew | apply keep_alloc | refine keep_far ?_ GW240.out _) | exact HK.out)⟩, ⟨by repeat (first | (with_reducible first | exact HB.out | apply below_alloc | apply pw_below_drewN | apply below_drew1 | refine below_set ?_ (IsS102.ge HI0.out) | refine below_set ?_ GE240.out) | exact HB.out)⟩⟩
   ·rw [if_neg c6] at H
    have c6b0 : decide (0 < x4_1) = false := decide_eq_false c6
    clear c6
    simp only [Option.some.injEq, Prod.mk.injEq] at H
    obtain ⟨rfl, rfl, rfl⟩ := H
    go_wp2
    go_ret
    exact ⟨_, by first | (rw [hRT_.out]; rfl) | exact er_, ra_ HO_3, by repeat (first | (with_reducible first | exact HI0.out | apply IsS102.alloc | apply IsS102.drewN | apply IsS102.drew | apply IsS102.set_1 | apply IsS102.set_2) | exact HI0.out), by repeat (first | (with_reducible first | exact HB.out | apply below_alloc | apply pw_below_drewN | apply below_drew1 | refine below_set ?_ (IsS102.ge HI0.out)) | exact HB.out), by repeat (first | (with_reducible first | exact HK.out | apply KeepBut.set_ | apply keep_drewN | apply keep_drew | apply keep_alloc) | exact HK.out)⟩

/-! ### spec_DrawCutClouds: function 43 -/
def spec_DrawCutClouds.f (k : Nat) (l0 : List Int) : Option ((List (S53)) × (List (S121))) := (spec_l1New.f k l0).bind fun bt247 => ((spec_l11Any.f k bt247.1 bt247.2.1 bt247.2.2).bind fun bt251 => ((spec_l12Clouds.f k bt247.1 bt251.2.1 bt251.2.2).bind fun bt256 => (some (bt251.1, bt256.1))))
theorem spec_DrawCutClouds.mono : ∀ a0 k, LeO (spec_DrawCutClouds.f k a0) (spec_DrawCutClouds.f (k + 1) a0) := by
 intro a0 k
 unfold spec_DrawCutClouds.f
 repeat' first | (with_reducible first | exact spec_l11Any.mono _ _ _ _ | exact spec_l12Clouds.mono _ _ _ _ | exact spec_l1New.mono _ _ | exact LeO.refl _ | exact LeO.none _ | refine LeO.ite ?_ ?_ | refine LeO.bind ?_ (fun _ => ?_)) | exact LeO.none _ | refine LeO.ite ?_ ?_ | refine LeO.bind ?_ (fun _ => ?_)
set_option maxHeartbeats 8000000 in
set_option maxRecDepth 100000 in
theorem spec_DrawCutClouds.calls (k : Nat) (A0 : Option Addr) (c0 : Nat) (l0 : List Int) (r1 : List (S53)) (r2 : List (S121)) (w : World) (hr0 : Kd.C (Kd.int .u8) w A0 l0.length l0) (hc0 : l0.length ≤ c0) (h : spec_DrawCutClouds.f k l0 = some (r1, r2)) :
  Calls Try.prog 43 #[.slice A0 l0.length c0] w fun e w' => ∃ v0_ v1_ : Value, e = .returned (.tuple #[v0_, v1_]) ∧ Kd.R k53 53 w' w.heap.size (fun _ => True) v0_ r1 ∧ Kd.R k121 121 w' w.heap.size (fun _ => True) v1_ r2 ∧ Below w.heap.size w w' := by
 have HR0 := Aside0.mk hr0
 have HC0 := Aside0.mk hc0
 clear hr0 hc0
 have HB := Aside0.mk (Below.refl w.heap.size w)
 have H := h
 clear h
 unfold spec_DrawCutClouds.f at H
 replace H := bs_ H
 obtain ⟨⟨t247, t248, t249⟩, A2, H⟩ := H
 dsimp only at H
 replace H := bs_ H
 obtain ⟨⟨t251, t254, t255⟩, A3, H⟩ := H
 dsimp only at H
 replace H := bs_ H
 obtain ⟨⟨t256, t259, t260⟩, A4, H⟩ := H
 dsimp only at H
 simp only [Option.some.injEq, Prod.mk.injEq] at H
 obtain ⟨rfl, rfl⟩ := H
 go_enter Try.func43, Try.ntmps43
 go_wp2_with (first | ((with_reducible refine gate_callee (f := 49) rfl ?_); refine goesL_ (some 7) rfl rfl Try.func49 (by kernel_rfl) rfl #[.slice A0 l0.length c0] rfl mp_ ?_; (with_reducible refine (spec_l1New.calls k _ _ l0 t247 t248 t249 w _ ?side1 ?side2 ?side3 A2.out).mono ?_); (case side1 => repeat (first | (with_reducible first | exact HB.out | apply below_alloc | apply pw_below_drewN | apply below_drew1) | exact HB.out)); (case side2 => exact HR0.out); (case side3 => exact HC0.out); rintro e w5 ⟨g250, rfl, hi, hb, hb2⟩; refine ⟨_, rfl, sh2_ hb hi ?_⟩; clear HB hb hb2 hi; intro HB HI250) | ((with_reducible refine gate_callee (f := 82) rfl ?_); refine goesL_ (some 9) rfl rfl Try.func82 (by kernel_rfl) rfl #[.pointer (some ⟨g250, 0, none⟩)] rfl mp_ ?_; (with_reducible refine (spec_l11Any.calls k g250 t247 t248 t249 t251 t254 t255 w _ ?side1 ?side2 A3.out).mono ?_); (case side1 => repeat (first | (with_reducible first | exact HI250.out | apply IsS102.alloc | apply IsS102.drewN | apply IsS102.drew | apply IsS102.set_1 | apply IsS102.set_2) | exact HI250.out)); (case side2 => repeat (first | (with_reducible first | exact HB.out | apply below_alloc | apply pw_below_drewN | apply below_drew1 | refine below_set ?_ (IsS102.ge HI250.out)) | exact HB.out)); rintro e w6 ⟨v252, rfl, ho0, hi, hb, hk⟩; refine ⟨_, rfl, sh3_ (Kd.R_lower ho0 (below_size (by repeat (first | (with_reducible first | exact HB.out | apply below_alloc | apply pw_below_drewN | apply below_drew1 | refine below_set ?_ (IsS102.ge HI250.out)) | exact HB.out)))) hb hi ?_⟩; clear HB HI250 hb hk hi ho0; intro HO253 HB HI250) | ((with_reducible refine gate_callee (f := 87) rfl ?_); refine goesL_ (some 12) rfl rfl Try.func87 (by kernel_rfl) rfl #[.pointer (some ⟨g250, 0, none⟩)] rfl mp_ ?_; (with_reducible refine (spec_l12Clouds.calls k g250 t247 t254 t255 t256 t259 t260 w _ ?side1 ?side2 A4.out).mono ?_); (case side1 => repeat (first | (with_reducible first | exact HI250.out | apply IsS102.alloc | apply IsS102.drewN | apply IsS102.drew | apply IsS102.set_1 | apply IsS102.set_2) | exact HI250.out)); (case side2 => repeat (first | (with_reducible first | exact HB.out | apply below_alloc | apply pw_below_drewN | apply below_drew1 | refine below_set ?_ (IsS102.ge HI250.out)) | exact HB.out)); rintro e w7 ⟨v257, rfl, ho0, hi, hb, hk⟩; refine ⟨_, rfl, sh4_ (Kd.R_mono (Kd.R_keep (IsS102.apart (show IsS102 w _ g250 t247 t254 t255 from by repeat (first | (with_reducible first | exact HI250.out | apply IsS102.alloc | apply IsS102.drewN | apply IsS102.drew | apply IsS102.set_1 | apply IsS102.set_2) | exact HI250.out)) (ra_ HO253) (by decide)) hk (fun _ h => h.2)) (fun _ h => h.1)) (Kd.R_lower ho0 (below_size (by repeat (first | (with_reducible first | exact HB.out | apply below_alloc | apply pw_below_drewN | apply below_drew1 | refine below_set ?_ (IsS102.ge HI250.out)) | exact HB.out)))) hb hi ?_⟩; clear HO253 HB HI250 hb hk hi ho0; intro HO253 HO258 HB HI250))
 go_ret2
 exact ⟨_, _, by first | (rw [hRT_.out]; rfl) | exact er_, ra_ HO253, ra_ HO258, by repeat (first | (with_reducible first | exact HB.out | apply below_alloc | apply pw_below_drewN | apply below_drew1 | refine below_set ?_ (IsS102.ge HI250.out)) | exact HB.out)⟩

section
variable {P : Program} {ops : Array Oper} {Q : Exit → Act → World → Prop}
theorem gate_fnval {rest : List Oper} {o : Oper} {a : Act} {W : World} {s : Tmp} {az : Array Operand} {ts : Array TypeId} (_ho : o.op = .call { callee := .value (.tmp s), args := az, argTypes := ts }) (h : wpList P ops Q (o :: rest) a W) : wpList P ops Q (o :: rest) a W := h
theorem goesF_ {rest : List Oper} {oi : Oper} {a : Act} {w : World} (N : Option Tmp) (hd : oi.dst = N) (hg : oi.guard = none) {f : FuncId} {lb : Array Value} {s : Tmp} {az : Array Operand} {ts : Array TypeId} (eg : ∀ args w, (callFunc f args).run P w = .ok (.enter f args) w) (args : Array Value)
  (hop : oi.op = .call { callee := .value (.tmp s), args := az, argTypes := ts }) (hs : a.eval (.tmp s) = .func (.func f) #[] lb) (hargs : az.map a.eval = args)
  (h : Calls P f (args ++ lb) w fun e w' => ∃ v, e = .returned v ∧ wpList P ops Q rest (a.put N v) w') : wpList P ops Q (oi :: rest) a w := by
 refine wpList_plain hg fun K hK => ?_
 have he := eg (args ++ lb) w
 have hrun : (execOp a.eval oi).run P w = .ok (.enter f (args ++ lb)) w := by
  unfold execOp
  simp [hop, resolve, Deferred.ofValue, invoke, hs, hargs, he]
 unfold Oper.wp
 rw [hrun, Oper.upon_enter]
 refine h.mono fun e w'' hh => ?_
 obtain ⟨v, rfl, hk⟩ := hh
 subst hd
 exact hK _ _ hk
end
/-! ### spansWhere, at any function value: function 61 -/
def sw.l0 (q : Nat → Int → Option Bool) : Nat → Int → List (S82) → Int → Option ((List (S82)))
 | 0, _, _, _ => none
 | k + 1, x1, x7, x8 => if x8 < (mn x1 1000) then ((q k x8).bind fun t264 => (if t264 = true then (if (wrap64 ((x7.length : Int) - 1)) ≥ 0 then (if 0 ≤ (wrap64 ((x7.length : Int) - 1)) then (if (wrap64 ((x7.length : Int) - 1)) < (x7.length : Int) then (if ((rd_T82 x7 (wrap64 ((x7.length : Int) - 1))).f1) = x8 then (sw.l0 q k x1 (x7.set ((wrap64 ((x7.length : Int) - 1)) : Int).toNat (⟨(rd_T82 x7 (wrap64 ((x7.length : Int) - 1))).f0, wrap64 (((rd_T82 x7 (wrap64 ((x7.length : Int) - 1))).f1) + 1)⟩ : S82)) (wrap64 (x8 + 1))) else (if x7.length < 8796093022208 then (sw.l0 q k x1 (x7 ++ [(⟨x8, wrap64 (x8 + 1)⟩ : S82)]) (wrap64 (x8 + 1))) else (none))) else (none)) else (none)) else (if x7.length < 8796093022208 then (sw.l0 q k x1 (x7 ++ [(⟨x8, wrap64 (x8 + 1)⟩ : S82)]) (wrap64 (x8 + 1))) else (none))) else (sw.l0 q k x1 x7 (wrap64 (x8 + 1))))) else (some x7)
def sw.f (q : Nat → Int → Option Bool) (k : Nat) (a0 : Int) (a1 : Int) : Option ((List (S82))) := sw.l0 q k a1 (([] : List (S82))) (mx a0 0)
theorem sw.mono_l (q : Nat → Int → Option Bool) (hm : ∀ t k, LeO (q k t) (q (k + 1) t)) : ∀ k, (∀ y0 y1 y2, LeO (sw.l0 q k y0 y1 y2) (sw.l0 q (k + 1) y0 y1 y2))
 | 0 => fun _ _ _ r h => by simp [sw.l0] at h
 | k + 1 => by
  have ih0 := sw.mono_l q hm k
  ·intro y0 y1 y2
   unfold sw.l0
   repeat' first | (with_reducible first | exact ih0 _ _ _ | exact hm _ _ | exact LeO.refl _ | exact LeO.none _ | refine LeO.ite ?_ ?_ | refine LeO.bind ?_ (fun _ => ?_)) | exact LeO.none _ | refine LeO.ite ?_ ?_ | refine LeO.bind ?_ (fun _ => ?_)
theorem sw.mono (q : Nat → Int → Option Bool) (hm : ∀ t k, LeO (q k t) (q (k + 1) t)) : ∀ a0 a1 k, LeO (sw.f q k a0 a1) (sw.f q (k + 1) a0 a1) := by
 intro a0 a1 k
 have ih0 := sw.mono_l q hm k
 unfold sw.f
 repeat' first | (with_reducible first | exact ih0 _ _ _ | exact hm _ _ | exact LeO.refl _ | exact LeO.none _ | refine LeO.ite ?_ ?_ | refine LeO.bind ?_ (fun _ => ?_)) | exact LeO.none _ | refine LeO.ite ?_ ?_ | refine LeO.bind ?_ (fun _ => ?_)
set_option maxHeartbeats 8000000 in
set_option maxRecDepth 100000 in
theorem sw.calls (q : Nat → Int → Option Bool) (k : Nat) (a0 : Int) (a1 : Int) (r : List (S82)) (w : World) (gF : FuncId) (lb : Array Value) (eg : ∀ args w, (callFunc gF args).run Try.prog w = .ok (.enter gF args) w) (hq : ∀ (k' : Nat) (t : Int) (b : Bool) (W : World), q k' t = some b → Below w.heap.size w W → Calls Try.prog gF (#[.int .i64 t] ++ lb) W fun e w' => e = .returned (.bool b) ∧ Below W.heap.size W w') (h : sw.f q k a0 a1 = some r) :
  Calls Try.prog 61 #[.int .i64 a0, .int .i64 a1, .func (.func gF) #[] lb] w fun e w' => ∃ v0_ : Value, e = .returned (v0_) ∧ Kd.R k82 82 w' w.heap.size (fun _ => True) v0_ r ∧ Below w.heap.size w w' := by
 have hu82 := Try.underlying82
 have HB := Aside0.mk (Below.refl w.heap.size w)
 have H := h
 clear h
 unfold sw.f at H
 replace H : ∃ y_ : List (S82), Aside0 (y_ = (([] : List (S82)))) ∧ (sw.l0 q k a1 y_ (mx a0 0)) = some r := ⟨_, ⟨rfl⟩, yh_ H⟩
 obtain ⟨y261, Ny261, H⟩ := H
 obtain ⟨ji4, hji4⟩ : ∃ j_ : Int, (mx a0 0) = j_ := ⟨_, rfl⟩
 replace H : (sw.l0 q k a1 y261 ji4) = some r := by first | (rw [hji4] at H; exact H) | (simp only [hji4] at H ⊢; exact H)
 (try (have hji4l : 0 ≤ ji4 := by (rw [← hji4]; unfold mx; (repeat' split) <;> omega)))
 (try (have hji4m : 0 ≤ ji4 := by omega))
 have hji4_ : (if a0 < 0 then 0 else a0) = ji4 := hji4
 have H' := Aside0.mk H
 clear H
 go_enter Try.func61, Try.ntmps61
 go_wp2_with (first | ((with_reducible refine gate_dst (N := 10) rfl ?_); refine Kd.R_lit k82 _ 82 ?hg (N := 10) ?hd (xs := ([] : List (S82))) (inner := []) (ok := fun _ => True) (okp := fun _ => True) ?hr ?hp (fun _ hk => hk) trivial (Below.refl _ _) (Nat.le_refl _) (by simp) ?_; (case hd => rfl); (case hg => rfl); (case hr => first | (go_simp; done) | (go_simp; rfl)); (case hp => exact (Reps.none _ _)); intro v262 w5 ho6 hb hg_ hnew_; clear hg_ hnew_; (first | rw [← Ny261.out] at ho6 | (simp only [Int.reduceToNat] at ho6; rw [← Ny261.out] at ho6)); refine sh2_ (Kd.R_lower ho6 (below_size (bl_ HB))) (below_step (bl_ HB) hb) ?_; clear HB hb ho6; intro HO263 HB))
 go_loopg [7, 8] k (fun kq v7 v8 w' => ∃ (x7_1 : List (S82)) (x8_1 : Int), v8 = .int .i64 x8_1 ∧ Aside0 (sw.l0 q kq a1 x7_1 x8_1 = some r) ∧ Aside0 (kq ≤ k) ∧ Aside0 (Kd.R k82 82 w' w.heap.size (fun _ => True) v7 x7_1) ∧ Aside0 (Below w.heap.size w w'))
 case atStart => exact ⟨(y261), (ji4), (by first | rfl | (simp; done) | (simp only [← hji4] <;> (first | rfl | simp)) | (simp [*]; done)), H', ⟨Nat.le_refl _⟩, ⟨ra_ HO263⟩, ⟨bl_ HB⟩⟩
 case round =>
  clear H'
  try clear p2
  try clear c6
  obtain ⟨x7_1, x8_1, rfl, HA, HK1, HO_7, HB⟩ := hrel
  cases gk with
  | zero => exact absurd HA.out (by simp [sw.l0])
  | succ k1 =>
   have H := HA.out
   clear HA
   simp only [sw.l0] at H
   obtain ⟨ji7, hji7⟩ : ∃ j_ : Int, (mn a1 1000) = j_ := ⟨_, rfl⟩
   replace H : (if x8_1 < (ji7) then ((q k1 x8_1).bind fun t264 => (if t264 = true then (if (wrap64 ((x7_1.length : Int) - 1)) ≥ 0 then (if 0 ≤ (wrap64 ((x7_1.length : Int) - 1)) then (if (wrap64 ((x7_1.length : Int) - 1)) < (x7_1.length : Int) then (if ((rd_T82 x7_1 (wrap64 ((x7_1.length : Int) - 1))).f1) = x8_1 then (sw.l0 q k1 a1 (x7_1.set ((wrap64 ((x7_1.length : Int) - 1)) : Int).toNat (⟨(rd_T82 x7_1 (wrap64 ((x7_1.length : Int) - 1))).f0, wrap64 (((rd_T82 x7_1 (wrap64 ((x7_1.length : Int) - 1))).f1) + 1)⟩ : S82)) (wrap64 (x8_1 + 1))) else (if x7_1.length < 8796093022208 then (sw.l0 q k1 a1 (x7_1 ++ [(⟨x8_1, wrap64 (x8_1 + 1)⟩ : S82)]) (wrap64 (x8_1 + 1))) else (none))) else (none)) else (none)) else (if x7_1.length < 8796093022208 then (sw.l0 q k1 a1 (x7_1 ++ [(⟨x8_1, wrap64 (x8_1 + 1)⟩ : S82)]) (wrap64 (x8_1 + 1))) else (none))) else (sw.l0 q k1 a1 x7_1 (wrap64 (x8_1 + 1))))) else (some x7_1)) = some r := by first | (rw [hji7] at H; exact H) | (simp only [hji7] at H ⊢; exact H)
   have hji7_ : (if 1000 < a1 then 1000 else a1) = ji7 := hji7
   by_cases c8 : x8_1 < (ji7)
   ·rw [if_pos c8] at H
    have c8b0 := decide_eq_true c8
    clear c8
    replace H := bs_ H
    obtain ⟨t264, A9, H⟩ := H
    by_cases c10 : t264 = true
    ·subst c10
     rw [if_pos rfl] at H
     by_cases c11 : (wrap64 ((x7_1.length : Int) - 1)) ≥ 0
     ·rw [if_pos c11] at H
      have c11b0 : decide (0 ≤ (wrap64 ((x7_1.length : Int) - 1))) = true := decide_eq_true c11
      clear c11
      obtain ⟨ji12, hji12⟩ : ∃ j_ : Int, (wrap64 ((x7_1.length : Int) - 1)) = j_ := ⟨_, rfl⟩
      replace H : (if 0 ≤ (ji12) then (if (ji12) < (x7_1.length : Int) then (if ((rd_T82 x7_1 (ji12)).f1) = x8_1 then (sw.l0 q k1 a1 (x7_1.set ((ji12) : Int).toNat (⟨(rd_T82 x7_1 (ji12)).f0, wrap64 (((rd_T82 x7_1 (ji12)).f1) + 1)⟩ : S82)) (wrap64 (x8_1 + 1))) else (if x7_1.length < 8796093022208 then (sw.l0 q k1 a1 (x7_1 ++ [(⟨x8_1, wrap64 (x8_1 + 1)⟩ : S82)]) (wrap64 (x8_1 + 1))) else (none))) else (none)) else (none)) = some r := by first | (rw [hji12] at H; exact H) | (simp only [hji12] at H ⊢; exact H)
      (try rw [hji12] at c11b0)
      (try rw [hji12] at A9)
      have hji12w : (IntKind.i64.wrap ((x7_1.length : Int) - 1)) = ji12 := (i64_w _).trans hji12
      replace H := ifn_ H
      obtain ⟨c13, H⟩ := H
      have c13b0 := decide_eq_true c13
      clear c13
      replace H := ifn_ H
      obtain ⟨c14, H⟩ := H
      have c14b0 := decide_eq_true c14
      clear c14
      by_cases c15 : ((rd_T82 x7_1 (ji12)).f1) = x8_1
      ·rw [if_pos c15] at H
       obtain ⟨c15b0, c15b1⟩ := bt_ c15
       clear c15
       replace H : ∃ y_ : List (S82), Aside0 (y_ = (x7_1.set ((ji12) : Int).toNat (⟨(rd_T82 x7_1 (ji12)).f0, wrap64 (((rd_T82 x7_1 (ji12)).f1) + 1)⟩ : S82))) ∧ (sw.l0 q k1 a1 y_ (wrap64 (x8_1 + 1))) = some r := ⟨_, ⟨rfl⟩, yh_ H⟩
       obtain ⟨y267, Ny267, H⟩ := H
       have H' := Aside0.mk H
       clear H
       go_wp2_with (first | ((with_reducible refine gate_fnval (s := 19) rfl ?_); refine goesF_ (some 21) rfl rfl eg #[.int .i64 x8_1] rfl rfl mp_ ?_; (refine (hq k1 x8_1 true _ A9.out (bl_ HB)).mono ?_); rintro e w17 ⟨rfl, hb⟩; refine ⟨_, rfl, sh2_ (Kd.R_below (ra_ HO_7) hb) (below_step (bl_ HB) hb) ?_⟩; clear HO_7 HB hb; intro HO_7 HB; obtain ⟨Ao18, co18, eo18⟩ := Kd.R_slice HO_7.out; subst eo18; have p265 : 0 ≤ ((ji12) : Int) := od_; have q265 : (ji12) < (x7_1.length : Int) := od_; obtain ⟨ad265, e265, hx265_0, hx265_1⟩ := at_T82 (Kd.R_reads' HO_7.out).2.2 (ji12) p265 q265; cases e265; replace p265 := eq_true p265; replace q265 := eq_true q265; have p266 : 0 ≤ ((ji12) : Int) := od_; have q266 : (ji12) < (x7_1.length : Int) := od_; obtain ⟨ad266, e266, hx266_0, hx266_1⟩ := at_T82 (Kd.R_reads' HO_7.out).2.2 (ji12) p266 q266; obtain rfl : ad265 = ad266 := (by injection e266); replace p266 := eq_true p266; replace q266 := eq_true q266; have p16 : 0 ≤ ((ji12) : Int) := od_; have q16 : ((ji12) : Int) < ((x7_1.length : Int) : Int) := od_; obtain ⟨go16, co16, eo16, gb16, gl16, cl16, HG16⟩ := Kd.R_form HO_7.out (by omega); (first | cases eo16 | (injection eo16 with ea_ en_ ec_; (first | subst ea_ | (injection ea_ with ea_; subst ea_)); subst ec_; clear en_)); have GB16 := Aside0.mk gb16; have GG16 := Aside0.mk HG16; clear gb16 gl16 HG16; (first | simp only [add_plain] at hx265_0 | skip); (first | simp only [add_plain] at hx265_1 | skip); (first | simp only [add_plain] at hx266_0 | skip); (first | simp only [add_plain] at hx266_1 | skip); obtain ⟨ce16, hcl16, hM16, hcc16, hfr16⟩ := Kd.R_elem HO_7.out z82 ((ji12) : Int) p16 q16; obtain rfl := k82_openM hM16; have hx16_0 : w17.cell? ⟨go16, ((ji12) : Int).toNat * 2, none⟩ = some (.int .i64 ((rd_T82 x7_1 (ji12)).f0)) := hcc16 0 _ rfl; have hx16_1 : w17.cell? ⟨go16, ((ji12) : Int).toNat * 2 + 1, none⟩ = some (.int .i64 ((rd_T82 x7_1 (ji12)).f1)) := hcc16 1 _ rfl; have hf16_0 : w17.frozen? ⟨go16, ((ji12) : Int).toNat * 2, none⟩ = false := hfr16 0; have hf16_1 : w17.frozen? ⟨go16, ((ji12) : Int).toNat * 2 + 1, none⟩ = false := hfr16 1; clear hcl16 hcc16 hfr16 hM16; replace p16 := eq_true p16; replace q16 := eq_true q16; have HX19 := Aside0.mk (show Kd.R k82 82 w17 w.heap.size (fun _ => True) (.slice (some ⟨go16, 0, none⟩) x7_1.length co18) x7_1 from (ra_ HO_7)); obtain ⟨ce19, hcl19, hM19, hcc19, hfr19⟩ := Kd.R_elem HX19.out z82 ((ji12) : Int) od_ (by have h_ : ((ji12) : Int) < ((x7_1.length : Int) : Int) := od_; first | exact h_ | (have e_ := (Kd.R_reads' HO_7.out).1; omega) | simpa using h_); obtain rfl := k82_openM hM19; have HP19 := Kd.R_seg HX19.out ((ji12) : Int) od_ (by have h_ : ((ji12) : Int) < ((x7_1.length : Int) : Int) := od_; first | exact h_ | (have e_ := (Kd.R_reads' HO_7.out).1; omega) | simpa using h_) (seg := [.int .i64 (wrap64 (((rd_T82 x7_1 (ji12)).f1) + 1))]) (j := 1) hcl19 hcc19 (show 2 ≤ 2 from by decide) (x' := (⟨(rd_T82 x7_1 (ji12)).f0, wrap64 (((rd_T82 x7_1 (ji12)).f1) + 1)⟩ : S82)) (k82_mkM _ _ _ (⟨(rd_T82 x7_1 (ji12)).f0, wrap64 (((rd_T82 x7_1 (ji12)).f1) + 1)⟩ : S82) ) (fun _ hk => hk); have hx19_1 := hcc19 1 _ rfl; (try simp only [show (k82).sz = 2 from rfl, Nat.mul_one, Nat.add_zero] at hx19_1); have hf19_1 := hfr19 1; (try simp only [show (k82).sz = 2 from rfl, Nat.mul_one, Nat.add_zero] at hf19_1); clear hcl19 hcc19 hfr19 hM19) | ((with_reducible refine gate_store (t := 3) (p := 44) rfl ?_); refine store_event (t := 3) (p := 44) (v := ?vo_w20) (w1 := (w17.setCell ⟨go16, ((ji12) : Int).toNat * 2 + 1, none⟩ (.int .i64 (wrap64 (((rd_T82 x7_1 (ji12)).f1) + 1))))) ?hg ?ho ?hn ?hr ?_; (case ho => rfl); (case hg => rfl); (case hn => rfl); (case hr => first | (go_simp; done) | (go_simp; rfl)); intro w20 hw; have hg : w17.grownBy w20 (some go16) := (by rw [hw]; exact HP19.2); have hp_ : Kd.R k82 82 w20 w.heap.size (fun _ => True) (.slice (some ⟨go16, 0, none⟩) x7_1.length co18) y267 := (by rw [hw, Ny267.out]; exact HP19.1); clear HP19; refine sh2_ hp_ ((by rw [hw]; exact below_set (HB.out) GB16.out : Below w.heap.size w w20)) ?_; clear HO_7 HB; intro HO_7 HB; clear hg hw hp_))
       go_roundg k1
       case measure => have := HK1.out; omega
       case rel => exact ⟨(y267), (wrap64 (x8_1 + 1)), (by first | rfl | (simp; done) | (simp [*]; done)), H', ⟨by have := HK1.out; omega⟩, ⟨ra_ HO_7⟩, ⟨bl_ HB⟩⟩
      ·rw [if_neg c15] at H
       obtain ⟨c15b0, c15b1⟩ := bn_ c15
       replace H := ifn_ H
       obtain ⟨c21, H⟩ := H
       have LMc21 := Aside0.mk c21
       clear c21
       replace H : ∃ y_ : List (S82), Aside0 (y_ = (x7_1 ++ [(⟨x8_1, wrap64 (x8_1 + 1)⟩ : S82)])) ∧ (sw.l0 q k1 a1 y_ (wrap64 (x8_1 + 1))) = some r := ⟨_, ⟨rfl⟩, yh_ H⟩
       obtain ⟨y268, Ny268, H⟩ := H
       have H' := Aside0.mk H
       clear H
       go_wp2_with (first | ((with_reducible refine gate_fnval (s := 19) rfl ?_); refine goesF_ (some 21) rfl rfl eg #[.int .i64 x8_1] rfl rfl mp_ ?_; (refine (hq k1 x8_1 true _ A9.out (bl_ HB)).mono ?_); rintro e w22 ⟨rfl, hb⟩; refine ⟨_, rfl, sh2_ (Kd.R_below (ra_ HO_7) hb) (below_step (bl_ HB) hb) ?_⟩; clear HO_7 HB hb; intro HO_7 HB; obtain ⟨Ao23, co23, eo23⟩ := Kd.R_slice HO_7.out; subst eo23; have p265 : 0 ≤ ((ji12) : Int) := od_; have q265 : (ji12) < (x7_1.length : Int) := od_; obtain ⟨ad265, e265, hx265_0, hx265_1⟩ := at_T82 (Kd.R_reads' HO_7.out).2.2 (ji12) p265 q265; cases e265; replace p265 := eq_true p265; replace q265 := eq_true q265) | ((with_reducible refine gate_builtin (b := .append) (xs := #[.tmp 45, .tmp 50]) rfl ?_); at_builtin; refine Kd.R_append k82 (w0 := w) w.heap.size rfl (.tmp 45) (.tmp 50) 40 82 (.agg #[(.int .i64 0), (.int .i64 0)]) 16 rfl Try.underlying40 info82 rfl (by decide) (by omega) (.slice (some ad265) x7_1.length co23) x7_1 (⟨x8_1, wrap64 (x8_1 + 1)⟩ : S82) [.int .i64 x8_1, .int .i64 (wrap64 (x8_1 + 1))] (fun _ => True) (fun _ => False) rfl rfl ?aP (fun _ hk => hk.elim) ?aF ?aO ?aB ?aS ?aL ?_; (case aP => exact k82_mkM _ _ _ (⟨x8_1, wrap64 (x8_1 + 1)⟩ : S82)); (case aB => exact (bl_ HB)); (case aF => exact (fun _ _ => trivial)); (case aO => exact (ra_ HO_7)); (case aS => exact (below_size (bl_ HB))); (case aL => have := LMc21.out; omega); intro v269 w24 ho hb hg hat; rw [← Ny268.out] at ho; refine sh2_ hb ho ?_; clear HB HO_7 ho hb hg hat; intro HB HO270))
       go_roundg k1
       case measure => have := HK1.out; omega
       case rel => exact ⟨(y268), (wrap64 (x8_1 + 1)), (by first | rfl | (simp; done) | (simp [*]; done)), H', ⟨by have := HK1.out; omega⟩, ⟨ra_ HO270⟩, ⟨bl_ HB⟩⟩
     ·rw [if_neg c11] at H
      have c11b0 : decide (0 ≤ (wrap64 ((x7_1.length : Int) - 1))) = false := decide_eq_false c11
      clear c11
      replace H := ifn_ H
      obtain ⟨c25, H⟩ := H
      have LMc25 := Aside0.mk c25
      clear c25
      replace H : ∃ y_ : List (S82), Aside0 (y_ = (x7_1 ++ [(⟨x8_1, wrap64 (x8_1 + 1)⟩ : S82)])) ∧ (sw.l0 q k1 a1 y_ (wrap64 (x8_1 + 1))) = some r := ⟨_, ⟨rfl⟩, yh_ H⟩
      obtain ⟨y271, Ny271, H⟩ := H
      have H' := Aside0.mk H
      clear H
      go_wp2_with (first | ((with_reducible refine gate_fnval (s := 19) rfl ?_); refine goesF_ (some 21) rfl rfl eg #[.int .i64 x8_1] rfl rfl mp_ ?_; (refine (hq k1 x8_1 true _ A9.out (bl_ HB)).mono ?_); rintro e w26 ⟨rfl, hb⟩; refine ⟨_, rfl, sh2_ (Kd.R_below (ra_ HO_7) hb) (below_step (bl_ HB) hb) ?_⟩; clear HO_7 HB hb; intro HO_7 HB; obtain ⟨Ao27, co27, eo27⟩ := Kd.R_slice HO_7.out; subst eo27) | ((with_reducible refine gate_builtin (b := .append) (xs := #[.tmp 45, .tmp 50]) rfl ?_); at_builtin; refine Kd.R_append k82 (w0 := w) w.heap.size rfl (.tmp 45) (.tmp 50) 40 82 (.agg #[(.int .i64 0), (.int .i64 0)]) 16 rfl Try.underlying40 info82 rfl (by decide) (by omega) (.slice Ao27 x7_1.length co27) x7_1 (⟨x8_1, wrap64 (x8_1 + 1)⟩ : S82) [.int .i64 x8_1, .int .i64 (wrap64 (x8_1 + 1))] (fun _ => True) (fun _ => False) rfl rfl ?aP (fun _ hk => hk.elim) ?aF ?aO ?aB ?aS ?aL ?_; (case aP => exact k82_mkM _ _ _ (⟨x8_1, wrap64 (x8_1 + 1)⟩ : S82)); (case aB => exact (bl_ HB)); (case aF => exact (fun _ _ => trivial)); (case aO => exact (ra_ HO_7)); (case aS => exact (below_size (bl_ HB))); (case aL => have := LMc25.out; omega); intro v272 w28 ho hb hg hat; rw [← Ny271.out] at ho; refine sh2_ hb ho ?_; clear HB HO_7 ho hb hg hat; intro HB HO273))
      go_roundg k1
      case measure => have := HK1.out; omega
      case rel => exact ⟨(y271), (wrap64 (x8_1 + 1)), (by first | rfl | (simp; done) | (simp [*]; done)), H', ⟨by have := HK1.out; omega⟩, ⟨ra_ HO273⟩, ⟨bl_ HB⟩⟩
    ·replace c10 := Bool.eq_false_iff.mpr c10
     subst c10
     have H1 : (sw.l0 q k1 a1 x7_1 (wrap64 (x8_1 + 1))) = some r := by rw [if_neg (show ¬ (false = true) by decide)] at H; exact H
     clear H
     have H := H1
     clear H1
     have H' := Aside0.mk H
     clear H
     go_wp2_with (first | ((with_reducible refine gate_fnval (s := 19) rfl ?_); refine goesF_ (some 21) rfl rfl eg #[.int .i64 x8_1] rfl rfl mp_ ?_; (refine (hq k1 x8_1 false _ A9.out (bl_ HB)).mono ?_); rintro e w29 ⟨rfl, hb⟩; refine ⟨_, rfl, sh2_ (Kd.R_below (ra_ HO_7) hb) (below_step (bl_ HB) hb) ?_⟩; clear HO_7 HB hb; intro HO_7 HB))
     go_roundg k1
     case measure => have := HK1.out; omega
     case rel => exact ⟨(x7_1), (wrap64 (x8_1 + 1)), (by first | rfl | (simp; done) | (simp [*]; done)), H', ⟨by have := HK1.out; omega⟩, ⟨ra_ HO_7⟩, ⟨bl_ HB⟩⟩
   ·rw [if_neg c8] at H
    have c8b0 : decide (x8_1 < (ji7)) = false := decide_eq_false c8
    clear c8
    obtain rfl := Option.some.inj H
    go_wp2
    go_ret
    exact ⟨_, by first | rfl | (rw [hRT_.out]; rfl) | (simp [errW_none, errW_some] <;> rfl) | (simp only [← hji4, ← hji7]; first | rfl | (simp [errW_none, errW_some] <;> rfl)) | (simp [*, errW_none, errW_some] <;> rfl), ra_ HO_7, bl_ HB⟩

/-! ### impl_ticks: function 100 -/
mutual
def impl_ticks.l0 : Nat → List Bool → List (S82) → Int → Int → Option (List Bool)
 | 0, _, _, _, _ => none
 | k + 1, x3, x8, x9, x10 => if x10 < x9 then (if 0 ≤ x10 then (if x10 < (x8.length : Int) then ((impl_IsSpan.f ((rd_T82 x8 x10).f0) ((rd_T82 x8 x10).f1)).bind fun t279 => (if t279 = true then (impl_ticks.l1 k x3 ((rd_T82 x8 x10).f0) x8 x9 x10 ((rd_T82 x8 x10).f0) ((rd_T82 x8 x10).f1)) else (impl_ticks.l0 k x3 x8 x9 (wrap64 (x10 + 1))))) else (none)) else (none)) else (some x3)
def impl_ticks.l1 : Nat → List Bool → Int → List (S82) → Int → Int → Int → Int → Option (List Bool)
 | 0, _, _, _, _, _, _, _ => none
 | k + 1, x3, x6, x8, x9, x10, x279000, x279001 => if x6 < x279001 then (if 0 ≤ x6 then (if x6 < (x3.length : Int) then (impl_ticks.l1 k (x3.set (x6 : Int).toNat true) (wrap64 (x6 + 1)) x8 x9 x10 x279000 x279001) else (none)) else (none)) else (impl_ticks.l0 k x3 x8 x9 (wrap64 (x10 + 1)))
end
def impl_ticks.f (k : Nat) (l0 : List (S82)) : Option (List Bool) := if 1000 ≤ 281474976710656 then (impl_ticks.l0 k (List.replicate 1000 false) l0 (l0.length : Int) 0) else (none)
theorem impl_ticks.mono_l : ∀ k, (∀ y0 y1 y2 y3, LeO (impl_ticks.l0 k y0 y1 y2 y3) (impl_ticks.l0 (k + 1) y0 y1 y2 y3)) ∧ (∀ y0 y1 y2 y3 y4 y5 y6, LeO (impl_ticks.l1 k y0 y1 y2 y3 y4 y5 y6) (impl_ticks.l1 (k + 1) y0 y1 y2 y3 y4 y5 y6))
 | 0 => ⟨fun _ _ _ _ r h => by simp [impl_ticks.l0] at h, fun _ _ _ _ _ _ _ r h => by simp [impl_ticks.l1] at h⟩
 | k + 1 => by
  obtain ⟨ih0, ih1⟩ := impl_ticks.mono_l k
  refine ⟨?_, ?_⟩
  ·intro y0 y1 y2 y3
   unfold impl_ticks.l0
   repeat' first | (with_reducible first | exact ih0 _ _ _ _ | exact ih1 _ _ _ _ _ _ _ | exact LeO.refl _ | exact LeO.none _ | refine LeO.ite ?_ ?_ | refine LeO.bind ?_ (fun _ => ?_)) | exact LeO.none _ | refine LeO.ite ?_ ?_ | refine LeO.bind ?_ (fun _ => ?_)
  ·intro y0 y1 y2 y3 y4 y5 y6
   unfold impl_ticks.l1
   repeat' first | (with_reducible first | exact ih0 _ _ _ _ | exact ih1 _ _ _ _ _ _ _ | exact LeO.refl _ | exact LeO.none _ | refine LeO.ite ?_ ?_ | refine LeO.bind ?_ (fun _ => ?_)) | exact LeO.none _ | refine LeO.ite ?_ ?_ | refine LeO.bind ?_ (fun _ => ?_)
theorem impl_ticks.mono : ∀ a0 k, LeO (impl_ticks.f k a0) (impl_ticks.f (k + 1) a0) := by
 intro a0 k
 obtain ⟨ih0, ih1⟩ := impl_ticks.mono_l k
 unfold impl_ticks.f
 repeat' first | (with_reducible first | exact ih0 _ _ _ _ | exact ih1 _ _ _ _ _ _ _ | exact LeO.refl _ | exact LeO.none _ | refine LeO.ite ?_ ?_ | refine LeO.bind ?_ (fun _ => ?_)) | exact LeO.none _ | refine LeO.ite ?_ ?_ | refine LeO.bind ?_ (fun _ => ?_)
set_option maxHeartbeats 8000000 in
set_option maxRecDepth 100000 in
theorem impl_ticks.calls (k : Nat) (A0 : Option Addr) (c0 : Nat) (l0 : List (S82)) (r : List Bool) (w : World) (hr0 : Kd.C k82 w A0 l0.length l0) (hc0 : l0.length ≤ c0) (h : impl_ticks.f k l0 = some r) :
  Calls Try.prog 100 #[.slice A0 l0.length c0] w fun e w' => ∃ v0_ : Value, e = .returned (v0_) ∧ Kd.R Kd.bool 4 w' w.heap.size (fun _ => True) v0_ r ∧ Below w.heap.size w w' := by
 have hu82 := Try.underlying82
 have HR0 := Aside0.mk hr0
 have HC0 := Aside0.mk hc0
 clear hr0 hc0
 have HB := Aside0.mk (Below.refl w.heap.size w)
 have H := h
 clear h
 unfold impl_ticks.f at H
 replace H := ifn_ H
 obtain ⟨c2, H⟩ := H
 have c2b0 := eq_true c2
 have c2b1 := decide_eq_true c2
 clear c2
 replace H : ∃ y_ : List Bool, Aside0 (y_ = (List.replicate 1000 false)) ∧ (impl_ticks.l0 k y_ l0 (l0.length : Int) 0) = some r := ⟨_, ⟨rfl⟩, yh_ H⟩
 obtain ⟨y274, Ny274, H⟩ := H
 have H' := Aside0.mk H
 clear H
 go_enter Try.func100, Try.ntmps100
 go_wp2_with (first | ((with_reducible refine gate_dst (N := 7) rfl ?_); refine Kd.R_make Kd.bool _ 4 rfl (N := 7) rfl 109 _ _ rfl 1000 rfl rfl Try.underlying109 (.bool false) 1 info4 rfl (by decide) (by omega) false (ok := fun _ => True) (okp := fun _ => True) rfl (fun _ hk => hk) trivial (by omega) (by omega) (Below.refl _ _) (Nat.le_refl _) ?_; intro v275 w3 ho4 hb hg_ hnew_; clear hg_ hnew_; (first | rw [← Ny274.out] at ho4 | (simp only [Int.reduceToNat] at ho4; rw [← Ny274.out] at ho4)); refine sh2_ (Kd.R_lower ho4 (below_size (bl_ HB))) (below_step (bl_ HB) hb) ?_; clear HB hb ho4; intro HO276 HB))
 go_loopg [10] k (fun kq v10 w' => ∃ (x3_1 : List Bool) (x10_1 : Int), v10 = .int .i64 x10_1 ∧ Aside0 (impl_ticks.l0 kq x3_1 l0 (l0.length : Int) x10_1 = some r) ∧ Aside0 (kq ≤ k) ∧ Aside0 (Kd.R Kd.bool 4 w' w.heap.size (fun _ => True) v275 x3_1) ∧ Aside0 (Below w.heap.size w w'))
 case atStart => exact ⟨(y274), (0), (by first | rfl | (simp; done) | (simp [*]; done)), H', ⟨Nat.le_refl _⟩, ⟨ra_ HO276⟩, ⟨bl_ HB⟩⟩
 case round =>
  clear H'
  try clear c1
  try clear c2
  try clear c2b0
  try clear c2b1
  try clear p2
  obtain ⟨x3_1, x10_1, rfl, HA, HK1, HO_3, HB⟩ := hrel
  cases gk with
  | zero => exact absurd HA.out (by simp [impl_ticks.l0])
  | succ k1 =>
   have H := HA.out
   clear HA
   simp only [impl_ticks.l0] at H
   by_cases c5 : x10_1 < (l0.length : Int)
   ·rw [if_pos c5] at H
    have c5b0 := decide_eq_true c5
    clear c5
    replace H := ifn_ H
    obtain ⟨c6, H⟩ := H
    have c6b0 := decide_eq_true c6
    clear c6
    replace H := ifn_ H
    obtain ⟨c7, H⟩ := H
    have c7b0 := decide_eq_true c7
    clear c7
    replace H := bs_ H
    obtain ⟨t279, A8, H⟩ := H
    by_cases c9 : t279 = true
    ·subst c9
     rw [if_pos rfl] at H
     have H' := Aside0.mk H
     clear H
     have p277 : 0 ≤ (x10_1 : Int) := od_
     have q277 : x10_1 < (l0.length : Int) := od_
     obtain ⟨ad277, e277, hx277_0, hx277_1⟩ := at_T82 HR0.out x10_1 p277 q277
     cases e277
     replace hx277_0 := hbc_ HB hx277_0
     replace hx277_1 := hbc_ HB hx277_1
     replace p277 := eq_true p277
     replace q277 := eq_true q277
     go_wp2_with (first | ((with_reducible refine gd_ 5 ?_); refine bx_ 5 82 #[.int .i64 0, .int .i64 0] ?_; intro gb278 hg w10 hbox hb; refine sh5_ (Kd.R_below (ra_ HO_3) hb) (below_step (bl_ HB) hb) hbox (ge_ hg (bl_ HB)) (ge_ hg (bl_ HB)) ?_; clear HO_3 HB hb hbox hg; intro HO_3 HB BK278 GW278 GE278; have hcz11 := cf2_ BK278) | ((with_reducible refine gate_callee (f := 99) rfl ?_); refine gl_ 15 Try.func99 (impl_IsSpan.calls ((rd_T82 l0 x10_1).f0) ((rd_T82 l0 x10_1).f1) true _ A8.out) ?_; rintro e w12 ⟨rfl, hb⟩; refine ⟨_, rfl, sh3_ (Kd.R_below (by (with_reducible repeat (first | apply Kd.R_alloc | apply Kd.R_drewN | apply Kd.R_drew)); exact (Kd.R_mono (Kd.R_far (p := ⟨gb278, 1, none⟩) (Kd.R_far (p := ⟨gb278, 0, none⟩) (Kd.R_types HO_3.out BK278.out (by decide)) (fun _ hk => hk.2) (.int .i64 ((rd_T82 l0 x10_1).f0))) (fun _ hk => hk.2) (.int .i64 ((rd_T82 l0 x10_1).f1))) (fun _ h_ => h_.1))) hb) (blk_below (g := gb278) (o := .cells #[.int .i64 ((rd_T82 l0 x10_1).f0), .int .i64 ((rd_T82 l0 x10_1).f1)] 82 (0, 0)) (by (with_reducible repeat (first | refine blk_drewN ?_ _ | refine blk_drew ?_ | refine blk_alloc ?_ _)); refine blk_put (cs := #[.int .i64 ((rd_T82 l0 x10_1).f0), .int .i64 0]) ?_ 1 _ rfl; (with_reducible repeat (first | refine blk_drewN ?_ _ | refine blk_drew ?_ | refine blk_alloc ?_ _)); refine blk_put (cs := #[.int .i64 0, .int .i64 0]) ?_ 0 _ rfl; (with_reducible repeat (first | refine blk_drewN ?_ _ | refine blk_drew ?_ | refine blk_alloc ?_ _)); exact BK278.out) hb) (below_step (bl1_ HB GE278) hb) ?_⟩; clear HO_3 BK278 HB hb; intro HO_3 BK278 HB; have hcz13 := cf2_ BK278))
     go_loopg [6] k1 (fun kq v6 w' => ∃ (x3_2 : List Bool) (x6_2 : Int), v6 = .int .i64 x6_2 ∧ Aside0 (impl_ticks.l1 kq x3_2 x6_2 l0 (l0.length : Int) x10_1 ((rd_T82 l0 x10_1).f0) ((rd_T82 l0 x10_1).f1) = some r) ∧ Aside0 (kq ≤ k1) ∧ Aside0 (Kd.R Kd.bool 4 w' w.heap.size (fun _ => True) v275 x3_2) ∧ Aside0 (w'.heap[gb278]? = some (.cells #[.int .i64 ((rd_T82 l0 x10_1).f0), .int .i64 ((rd_T82 l0 x10_1).f1)] 82 (0, 0))) ∧ Aside0 (Below w.heap.size w w'))
     case atStart => exact ⟨(x3_1), ((rd_T82 l0 x10_1).f0), (by first | rfl | (simp; done) | (simp [*]; done)), H', ⟨Nat.le_refl _⟩, ⟨ra_ HO_3⟩, ⟨by (with_reducible repeat (first | refine blk_drewN ?_ _ | refine blk_drew ?_ | refine blk_alloc ?_ _)); exact BK278.out⟩, ⟨bl1_ HB GE278⟩⟩
     case round =>
      clear H'
      try clear c1
      try clear c2
      try clear c2b0
      try clear c2b1
      try clear p2
      try clear q2
      try clear hx2
      try clear c5
      try clear c5b0
      try clear c6
      try clear c6b0
      try clear c7
      try clear c7b0
      try clear c9
      try clear c10
      try clear hcz11
      try clear hcz13
      try clear hx277_0
      try clear hx277_1
      try clear p2
      try clear p277
      try clear q277
      obtain ⟨x3_2, x6_2, rfl, HA, HK2, HO_3, BK278, HB⟩ := hrel
      cases gk with
      | zero => exact absurd HA.out (by simp [impl_ticks.l1])
      | succ k2 =>
       have H := HA.out
       clear HA
       simp only [impl_ticks.l1] at H
       by_cases c14 : x6_2 < ((rd_T82 l0 x10_1).f1)
       ·rw [if_pos c14] at H
        have c14b0 := decide_eq_true c14
        clear c14
        replace H := ifn_ H
        obtain ⟨c15, H⟩ := H
        have c15b0 := decide_eq_true c15
        clear c15
        replace H := ifn_ H
        obtain ⟨c16, H⟩ := H
        have c16b0 := decide_eq_true c16
        clear c16
        replace H : ∃ y_ : List Bool, Aside0 (y_ = (x3_2.set (x6_2 : Int).toNat true)) ∧ (impl_ticks.l1 k2 y_ (wrap64 (x6_2 + 1)) l0 (l0.length : Int) x10_1 ((rd_T82 l0 x10_1).f0) ((rd_T82 l0 x10_1).f1)) = some r := ⟨_, ⟨rfl⟩, yh_ H⟩
        obtain ⟨y280, Ny280, H⟩ := H
        have H' := Aside0.mk H
        clear H
        have hcz18 := cf2_ BK278
        have p17 : 0 ≤ (x6_2 : Int) := od_
        have q17 : (x6_2 : Int) < ((x3_2.length : Int) : Int) := od_
        obtain ⟨go17, co17, eo17, gb17, gl17, cl17, HG17⟩ := Kd.R_form HO_3.out (by omega)
        (first | cases eo17 | (injection eo17 with ea_ en_ ec_; (first | subst ea_ | (injection ea_ with ea_; subst ea_)); subst ec_; clear en_))
        have GB17 := Aside0.mk gb17
        have GG17 := Aside0.mk HG17
        clear gb17 gl17 HG17
        obtain ⟨hx17_0, hf17_0⟩ := Kd.R_celln false HO_3.out (x6_2 : Int) p17 q17
        replace p17 := eq_true p17
        replace q17 := eq_true q17
        have HP19 := Kd.R_putg HO_3.out (x6_2 : Int) true
        go_wp2_with (first | ((with_reducible refine gate_store (t := 4) (p := 26) rfl ?_); refine store_event (t := 4) (p := 26) (v := ?vo_w20) (w1 := (wr.setCell ⟨go17, (x6_2 : Int).toNat, none⟩ (.bool true))) ?hg ?ho ?hn ?hr ?_; (case ho => rfl); (case hg => rfl); (case hn => rfl); (case hr => first | (go_simp; done) | (go_simp; rfl)); intro w20 hw; have hg : wr.grownBy w20 (some go17) := (by rw [hw]; exact HP19.2); have hp_ : Kd.R Kd.bool 4 w20 w.heap.size (fun _ => True) (.slice (some ⟨go17, 0, none⟩) x3_2.length co17) y280 := (by rw [hw, Ny280.out]; exact HP19.1); clear HP19; refine sh3_ hp_ (blk_grown (g := gb278) (o := .cells #[.int .i64 ((rd_T82 l0 x10_1).f0), .int .i64 ((rd_T82 l0 x10_1).f1)] 82 (0, 0)) (bk_ BK278) hg (Kd.R_ne HO_3.out BK278.out (by decide))) ((by rw [hw]; exact below_set (HB.out) GB17.out : Below w.heap.size w w20)) ?_; clear HO_3 BK278 HB; intro HO_3 BK278 HB; clear hg hw hp_))
        go_roundg k2
        case measure => have := HK1.out; have := HK2.out; omega
        case rel => exact ⟨(y280), (wrap64 (x6_2 + 1)), (by first | rfl | (simp; done) | (simp [*]; done)), H', ⟨by have := HK1.out; have := HK2.out; omega⟩, ⟨ra_ HO_3⟩, ⟨by (with_reducible repeat (first | refine blk_drewN ?_ _ | refine blk_drew ?_ | refine blk_alloc ?_ _)); exact BK278.out⟩, ⟨bl1_ HB GE278⟩⟩
       ·rw [if_neg c14] at H
        have c14b0 := decide_eq_false c14
        clear c14
        have H' := Aside0.mk H
        clear H
        have hcz21 := cf2_ BK278
        go_wp2
        go_roundg k2
        case measure => have := HK1.out; have := HK2.out; omega
        case rel => exact ⟨(x3_2), (wrap64 (x10_1 + 1)), (by first | rfl | (simp; done) | (simp [*]; done)), H', ⟨by have := HK1.out; have := HK2.out; omega⟩, ⟨ra_ HO_3⟩, ⟨bl1_ HB GE278⟩⟩
    ·replace c9 := Bool.eq_false_iff.mpr c9
     subst c9
     have H1 : (impl_ticks.l0 k1 x3_1 l0 (l0.length : Int) (wrap64 (x10_1 + 1))) = some r := by rw [if_neg (show ¬ (false = true) by decide)] at H; exact H
     clear H
     have H := H1
     clear H1
     have H' := Aside0.mk H
     clear H
     have p277 : 0 ≤ (x10_1 : Int) := od_
     have q277 : x10_1 < (l0.length : Int) := od_
     obtain ⟨ad277, e277, hx277_0, hx277_1⟩ := at_T82 HR0.out x10_1 p277 q277
     cases e277
     replace hx277_0 := hbc_ HB hx277_0
     replace hx277_1 := hbc_ HB hx277_1
     replace p277 := eq_true p277
     replace q277 := eq_true q277
     go_wp2_with (first | ((with_reducible refine gd_ 5 ?_); refine bx_ 5 82 #[.int .i64 0, .int .i64 0] ?_; intro gb278 hg w22 hbox hb; refine sh5_ (Kd.R_below (ra_ HO_3) hb) (below_step (bl_ HB) hb) hbox (ge_ hg (bl_ HB)) (ge_ hg (bl_ HB)) ?_; clear HO_3 HB hb hbox hg; intro HO_3 HB BK278 GW278 GE278; have hcz23 := cf2_ BK278) | ((with_reducible refine gate_callee (f := 99) rfl ?_); refine gl_ 15 Try.func99 (impl_IsSpan.calls ((rd_T82 l0 x10_1).f0) ((rd_T82 l0 x10_1).f1) false _ A8.out) ?_; rintro e w24 ⟨rfl, hb⟩; refine ⟨_, rfl, sh3_ (Kd.R_below (by (with_reducible repeat (first | apply Kd.R_alloc | apply Kd.R_drewN | apply Kd.R_drew)); exact (Kd.R_mono (Kd.R_far (p := ⟨gb278, 1, none⟩) (Kd.R_far (p := ⟨gb278, 0, none⟩) (Kd.R_types HO_3.out BK278.out (by decide)) (fun _ hk => hk.2) (.int .i64 ((rd_T82 l0 x10_1).f0))) (fun _ hk => hk.2) (.int .i64 ((rd_T82 l0 x10_1).f1))) (fun _ h_ => h_.1))) hb) (blk_below (g := gb278) (o := .cells #[.int .i64 ((rd_T82 l0 x10_1).f0), .int .i64 ((rd_T82 l0 x10_1).f1)] 82 (0, 0)) (by (with_reducible repeat (first | refine blk_drewN ?_ _ | refine blk_drew ?_ | refine blk_alloc ?_ _)); refine blk_put (cs := #[.int .i64 ((rd_T82 l0 x10_1).f0), .int .i64 0]) ?_ 1 _ rfl; (with_reducible repeat (first | refine blk_drewN ?_ _ | refine blk_drew ?_ | refine blk_alloc ?_ _)); refine blk_put (cs := #[.int .i64 0, .int .i64 0]) ?_ 0 _ rfl; (with_reducible repeat (first | refine blk_drewN ?_ _ | refine blk_drew ?_ | refine blk_alloc ?_ _)); exact BK278.out) hb) (below_step (bl1_ HB GE278) hb) ?_⟩; clear HO_3 BK278 HB hb; intro HO_3 BK278 HB))
     go_roundg k1
     case measure => have := HK1.out; omega
     case rel => exact ⟨(x3_1), (wrap64 (x10_1 + 1)), (by first | rfl | (simp; done) | (simp [*]; done)), H', ⟨by have := HK1.out; omega⟩, ⟨ra_ HO_3⟩, ⟨bl1_ HB GE278⟩⟩
   ·rw [if_neg c5] at H
    have c5b0 : decide (x10_1 < (l0.length : Int)) = false := decide_eq_false c5
    clear c5
    obtain rfl := Option.some.inj H
    go_wp2
    go_ret
    exact ⟨_, by first | (rw [hRT_.out]; rfl) | exact er_, ra_ HO_3, bl_ HB⟩

/-! ### impl_CutSpans_1: function 102 -/
def impl_CutSpans_1.f (a0 : Int) (l1 : List Bool) (l2 : List Bool) : Option (Bool) := if 0 ≤ a0 then (if a0 < (l1.length : Int) then (if rdOf false l1 a0 = true then (if a0 < (l2.length : Int) then (some (!(rdOf false l2 a0))) else (none)) else (some false)) else (none)) else (none)
set_option maxHeartbeats 8000000 in
set_option maxRecDepth 100000 in
theorem impl_CutSpans_1.calls (a0 : Int) (A1 : Option Addr) (c1 : Nat) (l1 : List Bool) (A2 : Option Addr) (c2 : Nat) (l2 : List Bool) (r : Bool) (w : World) (B0 : Nat) (hB0 : w.heap[B0]? = some (.cells #[.slice A1 l1.length c1] 109 (0, 0))) (B1 : Nat) (hB1 : w.heap[B1]? = some (.cells #[.slice A2 l2.length c2] 109 (0, 0))) (hr1 : Kd.C Kd.bool w A1 l1.length l1) (hc1 : l1.length ≤ c1) (hr2 : Kd.C Kd.bool w A2 l2.length l2) (hc2 : l2.length ≤ c2) (h : impl_CutSpans_1.f a0 l1 l2 = some r) :
  Calls Try.prog 102 #[.int .i64 a0, .pointer (some ⟨B0, 0, none⟩), .pointer (some ⟨B1, 0, none⟩)] w fun e w' => e = .returned (.bool r) ∧ Drawn0 w w' := by
 have hcB0_0 : w.cell? ⟨B0, 0, none⟩ = some (.slice A1 l1.length c1) := (blk_cell hB0 0).trans rfl
 have hcB1_0 : w.cell? ⟨B1, 0, none⟩ = some (.slice A2 l2.length c2) := (blk_cell hB1 0).trans rfl
 have HR1 := Aside0.mk hr1
 have HC1 := Aside0.mk hc1
 clear hr1 hc1
 have HR2 := Aside0.mk hr2
 have HC2 := Aside0.mk hc2
 clear hr2 hc2
 have H := h
 clear h
 unfold impl_CutSpans_1.f at H
 replace H := ifn_ H
 obtain ⟨c4, H⟩ := H
 have c4b0 := decide_eq_true c4
 clear c4
 replace H := ifn_ H
 obtain ⟨c5, H⟩ := H
 have c5b0 := decide_eq_true c5
 clear c5
 obtain ⟨bq6, hbq6⟩ : ∃ b_ : Bool, b_ = (rdOf false l1 a0) := ⟨_, rfl⟩
 replace H : (if bq6 = true then (if a0 < (l2.length : Int) then (some (!(rdOf false l2 a0))) else (none)) else (some false)) = some r := by rw [← hbq6] at H; exact H
 have Nbq6 := Aside0.mk hbq6
 clear hbq6
 by_cases c7 : bq6 = true
 ·subst c7
  rw [if_pos rfl] at H
  replace H := ifn_ H
  obtain ⟨c8, H⟩ := H
  have c8b0 := decide_eq_true c8
  clear c8
  obtain rfl := Option.some.inj H
  have p281 : 0 ≤ (a0 : Int) := od_
  have q281 : a0 < (l1.length : Int) := od_
  obtain ⟨ad281, e281, hx281_0⟩ := Kd.at_bool HR1.out a0 p281 q281
  (try rw [← Nbq6.out] at hx281_0)
  cases e281
  replace p281 := eq_true p281
  replace q281 := eq_true q281
  have p282 : 0 ≤ (a0 : Int) := od_
  have q282 : a0 < (l2.length : Int) := od_
  obtain ⟨ad282, e282, hx282_0⟩ := Kd.at_bool HR2.out a0 p282 q282
  (try rw [← Nbq6.out] at hx282_0)
  cases e282
  replace p282 := eq_true p282
  replace q282 := eq_true q282
  go_enter Try.func102, Try.ntmps102
  go_wp2
  go_ret
  exact ⟨by first | rfl | (simp; done) | (simp [*]; done), by repeat (first | exact Drawn0.refl _ | apply Drawn0.step)⟩
 ·replace c7 := Bool.eq_false_iff.mpr c7
  subst c7
  have H1 : (some false) = some r := by rw [if_neg (show ¬ (false = true) by decide)] at H; exact H
  clear H
  have H := H1
  clear H1
  obtain rfl := Option.some.inj H
  have p281 : 0 ≤ (a0 : Int) := od_
  have q281 : a0 < (l1.length : Int) := od_
  obtain ⟨ad281, e281, hx281_0⟩ := Kd.at_bool HR1.out a0 p281 q281
  (try rw [← Nbq6.out] at hx281_0)
  cases e281
  replace p281 := eq_true p281
  replace q281 := eq_true q281
  go_enter Try.func102, Try.ntmps102
  go_wp2
  go_ret
  exact ⟨by first | rfl | (simp; done) | (simp [*]; done), by repeat (first | exact Drawn0.refl _ | apply Drawn0.step)⟩


def where_impl_CutSpans_1.f (k : Nat) (y0 y1 : Int) (l1 : List Bool) (l2 : List Bool) : Option (List (S82)) := sw.f (fun k' t' => impl_CutSpans_1.f t' l1 l2) k y0 y1
theorem where_impl_CutSpans_1.mono : ∀ y0 y1 l1 l2 k, LeO (where_impl_CutSpans_1.f k y0 y1 l1 l2) (where_impl_CutSpans_1.f (k + 1) y0 y1 l1 l2) := fun y0 y1 l1 l2 k => sw.mono _ (fun _ _ => LeO.refl _) y0 y1 k
theorem where_impl_CutSpans_1.calls (k : Nat) (y0 y1 : Int) (A1 : Option Addr) (c1 : Nat) (l1 : List Bool) (A2 : Option Addr) (c2 : Nat) (l2 : List Bool) (r : List (S82)) (w : World) (B0 : Nat) (hB0 : w.heap[B0]? = some (.cells #[.slice A1 l1.length c1] 109 (0, 0))) (B1 : Nat) (hB1 : w.heap[B1]? = some (.cells #[.slice A2 l2.length c2] 109 (0, 0))) (hr1 : Kd.C Kd.bool w A1 l1.length l1) (hc1 : l1.length ≤ c1) (hr2 : Kd.C Kd.bool w A2 l2.length l2) (hc2 : l2.length ≤ c2) (h : where_impl_CutSpans_1.f k y0 y1 l1 l2 = some r) :
  Calls Try.prog 61 #[.int .i64 y0, .int .i64 y1, .func (.func 102) #[] #[.pointer (some ⟨B0, 0, none⟩), .pointer (some ⟨B1, 0, none⟩)]] w fun e w' => ∃ v0_ : Value, e = .returned (v0_) ∧ Kd.R k82 82 w' w.heap.size (fun _ => True) v0_ r ∧ Below w.heap.size w w' := by
 refine sw.calls (fun k' t' => impl_CutSpans_1.f t' l1 l2) k y0 y1 r w 102 _ (fun args w => enters_ Try.func102 (by kernel_rfl) rfl args w) (fun k' t b W hq hb => ?_) h
 have hB0' := blk_below hB0 hb
 have hB1' := blk_below hB1 hb
 have hh := impl_CutSpans_1.calls t A1 c1 l1 A2 c2 l2 b W B0 hB0' B1 hB1' (Kd.C_below hr1 hb) hc1 (Kd.C_below hr2 hb) hc2 hq
 exact hh.mono (fun e w' hx => ⟨hx.1, by obtain ⟨n, rfl⟩ := hx.2.out; exact pw_below_drewN (Below.refl _ _) n⟩)

/-! ### impl_CutSpans: function 69 -/
def impl_CutSpans.f (k : Nat) (l0 : List (S82)) (l1 : List (S82)) : Option ((List (S82))) := (impl_ticks.f k l0).bind fun t283 => ((impl_ticks.f k l1).bind fun t286 => ((where_impl_CutSpans_1.f k 0 1000 t283 t286).bind fun t289 => (some t289)))
theorem impl_CutSpans.mono : ∀ a0 a1 k, LeO (impl_CutSpans.f k a0 a1) (impl_CutSpans.f (k + 1) a0 a1) := by
 intro a0 a1 k
 unfold impl_CutSpans.f
 repeat' first | (with_reducible first | exact impl_ticks.mono _ _ | exact where_impl_CutSpans_1.mono _ _ _ _ _ | exact LeO.refl _ | exact LeO.none _ | refine LeO.ite ?_ ?_ | refine LeO.bind ?_ (fun _ => ?_)) | exact LeO.none _ | refine LeO.ite ?_ ?_ | refine LeO.bind ?_ (fun _ => ?_)
set_option maxHeartbeats 8000000 in
set_option maxRecDepth 100000 in
theorem impl_CutSpans.calls (k : Nat) (A0 : Option Addr) (c0 : Nat) (l0 : List (S82)) (A1 : Option Addr) (c1 : Nat) (l1 : List (S82)) (r : List (S82)) (w : World) (hr0 : Kd.C k82 w A0 l0.length l0) (hc0 : l0.length ≤ c0) (hr1 : Kd.C k82 w A1 l1.length l1) (hc1 : l1.length ≤ c1) (h : impl_CutSpans.f k l0 l1 = some r) :
  Calls Try.prog 69 #[.slice A0 l0.length c0, .slice A1 l1.length c1] w fun e w' => ∃ v0_ : Value, e = .returned (v0_) ∧ Kd.R k82 82 w' w.heap.size (fun _ => True) v0_ r ∧ Below w.heap.size w w' := by
 have HR0 := Aside0.mk hr0
 have HC0 := Aside0.mk hc0
 clear hr0 hc0
 have HR1 := Aside0.mk hr1
 have HC1 := Aside0.mk hc1
 clear hr1 hc1
 have HB := Aside0.mk (Below.refl w.heap.size w)
 have H := h
 clear h
 unfold impl_CutSpans.f at H
 replace H := bs_ H
 obtain ⟨t283, A3, H⟩ := H
 replace H := bs_ H
 obtain ⟨t286, A4, H⟩ := H
 replace H := bs_ H
 obtain ⟨t289, A5, H⟩ := H
 obtain rfl := Option.some.inj H
 go_enter Try.func69, Try.ntmps69
 go_wp2_with (first | ((with_reducible refine gate_callee (f := 100) rfl ?_); refine gl_ 8 Try.func100 (impl_ticks.calls k _ _ l0 t283 _ (cq_ HR0) HC0.out A3.out) ?_; rintro e w6 ⟨v284, rfl, ho0, hb⟩; refine ⟨_, rfl, sh2_ (Kd.R_lower ho0 (below_size (bl_ HB))) (below_step (bl_ HB) hb) ?_⟩; clear HB hb ho0; intro HO285 HB) | ((with_reducible refine gate_callee (f := 100) rfl ?_); refine gl_ 10 Try.func100 (impl_ticks.calls k _ _ l1 t286 _ (ck_ HR1 HB) HC1.out A4.out) ?_; rintro e w7 ⟨v287, rfl, ho0, hb⟩; refine ⟨_, rfl, sh3_ (Kd.R_elder' (ra_ HO285) (Kd.R_base ho0) hb) (Kd.R_lower (Kd.R_new' ho0 (Kd.R_lt (ra_ HO285))) (below_size (bl_ HB))) (below_step (bl_ HB) hb) ?_⟩; clear HO285 HB hb ho0; intro HO285 HO288 HB; obtain ⟨Ao8, co8, eo8⟩ := Kd.R_slice HO285.out; subst eo8; obtain ⟨Ao9, co9, eo9⟩ := Kd.R_slice HO288.out; subst eo9) | ((with_reducible refine gd_ 5 ?_); refine bx_ 5 109 #[.slice none 0 0] ?_; intro gx5 hg wx5 hbox hb; have hHBy_ := Aside0.mk hb; have GE5_ := Aside0.mk ((by rw [hg]; exact Nat.le_refl _ : w7.heap.size ≤ gx5)); have HBx_ := hHBy_; clear hHBy_; have BK5_ := Aside0.mk hbox; clear hb hg hbox; have hcz5_ := bc_ BK5_ 0 rfl; have hfz5_ := bf_ BK5_ 0) | ((with_reducible refine gd_ 6 ?_); refine bx_ 6 109 #[.slice none 0 0] ?_; intro gx6 hg wx6 hbox hb; have hHBy_ := Aside0.mk (below_step (HBx_.out) hb); have GE6_ := Aside0.mk ((by rw [hg]; exact below_size (HBx_.out) : w7.heap.size ≤ gx6)); have NE5_6 := Aside0.mk ((by rw [hg]; exact Nat.ne_of_lt (blk_lt (BK5_.out)) : gx5 ≠ gx6)); have BKn5_ := Aside0.mk (blk_below (BK5_.out) hb); clear BK5_; have BK5_ := BKn5_; clear HBx_; have HBx_ := hHBy_; clear hHBy_; have BK6_ := Aside0.mk hbox; clear hb hg hbox; have hcz6_ := bc_ BK6_ 0 rfl; have hfz6_ := bf_ BK6_ 0; have NE6_5 := Aside0.mk (NE5_6.out.symm); have hnb5_6 := NE5_6.out; have hnc5_6 := NE6_5.out; have hczz5_6 := bc_ BK5_ 0 rfl; have hfzz5_6 := bf_ BK5_ 0) | ((with_reducible refine gate_callee (f := 61) rfl ?_); refine goesL_ (some 12) rfl rfl Try.func61 (by kernel_rfl) rfl #[.int .i64 0, .int .i64 1000, .func (.func 102) #[] #[.pointer (some ⟨gx5, 0, none⟩), .pointer (some ⟨gx6, 0, none⟩)]] rfl (by (try simp only [List.map_toArray, List.map_cons, List.map_nil]); first | done | rfl) ?_; have HBz_ := below_set (j := 0) (v := .slice Ao9 t286.length co9) (below_set (j := 0) (v := .slice Ao8 t283.length co8) (HBx_.out) GE5_.out) GE6_.out; (refine (where_impl_CutSpans_1.calls k 0 1000 Ao8 co8 t283 Ao9 co9 t286 t289 _ gx5 (blk_far (blk_put (cs := #[.slice none 0 0]) (BK5_.out) 0 (.slice Ao8 t283.length co8) rfl) NE5_6.out _) gx6 (blk_put (cs := #[.slice none 0 0]) (blk_far (BK6_.out) NE6_5.out _) 0 (.slice Ao9 t286.length co9) rfl) (Kd.C_below (Kd.R_reads' HO285.out).2.2 HBz_) (Kd.R_reads' HO285.out).2.1 (Kd.C_below (Kd.R_reads' HO288.out).2.2 HBz_) (Kd.R_reads' HO288.out).2.1 A5.out).mono ?_); rintro e wz ⟨vz, rfl, ho0, hb⟩; refine ⟨_, rfl, ?_⟩; have n0_ := Aside0.mk (below_then HB.out (below_size HB.out) HBz_); have HO291 := Aside0.mk (Kd.R_lower ho0 (below_size n0_.out)); have n2_ := Aside0.mk (below_step n0_.out hb); clear HB; have HB := n2_; clear n0_ n2_ hb ho0))
 go_ret
 exact ⟨_, by first | (rw [hRT_.out]; rfl) | exact er_, ra_ HO291, bl_ HB⟩

-- NOT PRINTED: function 103 (impl_Span_103)

/-! ### grow103: slices.Grow(nil, n), by the kit's contract -/
def grow103.f (n : Int) : Option (List S82) := if 0 ≤ n ∧ n * 16 ≤ 140737488355328 then some [] else none
open Go.Shelf in
def growL103_ren : Go.Shelf.Ren := ⟨fun | 4 => 103 | n => n, fun | 22 => 40 | 25 => 82 | 3 => 3 | 4 => 4 | 9 => 9 | 20 => 20 | 0 => 0 | 2 => 3 | n => n, fun | n => n⟩
theorem growL103 : Go.Proofs.Lays8.n4 Try.prog growL103_ren := {
 mixed := by kernel_rfl
 f4 := ⟨Try.f103.name, by decide, Try.func103.trans (congrArg some (by kernel_rfl))⟩
 t0 := Try.underlying0
 a0 := Try.isAgg0
 z0 := Try.sizeOf0
 v0 := Try.zeroValue0
 t3 := Try.underlying3
 a3 := Try.isAgg3
 z3 := Try.sizeOf3
 v3 := Try.zeroValue3
 t4 := Try.underlying4
 a4 := Try.isAgg4
 z4 := Try.sizeOf4
 v4 := Try.zeroValue4
 t9 := Try.underlying9
 a9 := Try.isAgg9
 z9 := Try.sizeOf9
 v9 := Try.zeroValue9
 t20 := Try.underlying20
 a20 := Try.isAgg20
 z20 := Try.sizeOf20
 v20 := Try.zeroValue20
 t22 := Try.underlying40
 a22 := Try.isAgg40
 z22 := Try.sizeOf40
 v22 := Try.zeroValue40 }
theorem grow103.calls (n : Int) (r : List S82) (w : World) (h : grow103.f n = some r) :
  Calls Try.prog 103 #[.slice none 0 0, .int .i64 n] w fun e w' => ∃ v0_ : Value, e = .returned (v0_) ∧ Kd.R k82 82 w' w.heap.size (fun _ => True) v0_ r ∧ Below w.heap.size w w' := by
 unfold grow103.f at h
 by_cases c : 0 ≤ n ∧ n * 16 ≤ 140737488355328
 ·rw [if_pos c] at h
  obtain rfl := Option.some.inj h
  obtain ⟨m, rfl⟩ := Int.eq_ofNat_of_zero_le c.1
  by_cases hm : m = 0
  ·subst hm
   refine (Any8.slices_Grow_room growL103 none 0 0 0 w (by omega) (by omega) (by omega) (by omega)).mono ?_
   rintro e w' ⟨rfl, rfl⟩
   exact ⟨_, rfl, Kd.R_nil _ _ _ _ _, Below.refl _ _⟩
  ·have hinfo : (Try.prog.info? 82).map (fun i => (i.zero, i.size, i.bytes)) = some (some (.agg #[(.int .i64 0), (.int .i64 0)]), 2, 16) := by kernel_rfl
   obtain ⟨i0, hi0, hi1⟩ := Option.map_eq_some_iff.1 hinfo
   have hz0 := congrArg Prod.fst hi1
   have hs0 := congrArg (fun p => p.2.1) hi1
   have hb0 := congrArg (fun p => p.2.2) hi1
   dsimp only at hz0 hs0 hb0
   refine (Any8.slices_Grow_grow growL103 i0 _ hi0 hz0 (by omega) none 0 0 m [] w (by omega) (by omega) (by rw [hb0]; omega) (by omega) (by simp) (fun _ => rfl) (fun a ha => by cases ha)).mono ?_
   rintro e w' ⟨rfl, rfl⟩
   have hle : grownCap w (0 + m) 0 82 ≤ maxLen := grownCap_le_maxLen w (0 + m) 0 82 (by unfold maxLen; omega)
   have hge : 0 + m ≤ grownCap w (0 + m) 0 82 := grownCap_ge w _ _ _
   refine ⟨_, rfl, ⟨fun _ _ => trivial, [], ?_, Reps.none _ _⟩, ?_⟩
   ·refine World.ownsRow_made (base := w.heap.size) (e := 82) (size := 2) w.drew _ _ (Nat.le_refl _) hle ?_
    have hzs : (.agg #[(.int .i64 0), (.int .i64 0)] : Value).cells.size = 2 := rfl
    rw [Array.size_append, Array.size_append, size_zeroCells, size_zeroCells, hzs]
    simp only [List.size_toArray, List.length_nil]
    show 0 + (0 + m - 0) * 2 + (grownCap w (0 + m) 0 82 - (0 + m)) * 2 = grownCap w (0 + m) 0 82 * 2
    omega
   ·exact below_alloc (below_drew1 (Below.refl _ _)) _
 ·rw [if_neg c] at h
  exact absurd h (by simp)

/-! ### impl_Span_70: function 70 -/
mutual
def impl_Span_70.l0 : Nat → List (List (S82)) → Int → List (List (S82)) → Int → Int → Option ((List (S82)))
 | 0, _, _, _, _, _ => none
 | k + 1, x0, x3, x9, x10, x11 => if x11 < x10 then (if 0 ≤ x11 then (if x11 < (x9.length : Int) then (if (wrap64 (x3 + ((rd_L6 x9 x11).length : Int))) < 0 then (none) else (impl_Span_70.l0 k x0 (wrap64 (x3 + ((rd_L6 x9 x11).length : Int))) x9 x10 (wrap64 (x11 + 1)))) else (none)) else (none)) else ((grow103.f x3).bind fun t293 => (impl_Span_70.l1 k t293 x0 (x0.length : Int) 0))
def impl_Span_70.l1 : Nat → List (S82) → List (List (S82)) → Int → Int → Option ((List (S82)))
 | 0, _, _, _, _ => none
 | k + 1, x6, x25, x26, x27 => if x27 < x26 then (if 0 ≤ x27 then (if x27 < (x25.length : Int) then (if x6.length + (rd_L6 x25 x27).length < 8796093022208 then (impl_Span_70.l1 k (x6 ++ (rd_L6 x25 x27)) x25 x26 (wrap64 (x27 + 1))) else (none)) else (none)) else (none)) else (some x6)
end
def impl_Span_70.f (k : Nat) (l0 : List (List (S82))) : Option ((List (S82))) := impl_Span_70.l0 k l0 0 l0 (l0.length : Int) 0
theorem impl_Span_70.mono_l : ∀ k, (∀ y0 y1 y2 y3 y4, LeO (impl_Span_70.l0 k y0 y1 y2 y3 y4) (impl_Span_70.l0 (k + 1) y0 y1 y2 y3 y4)) ∧ (∀ y0 y1 y2 y3, LeO (impl_Span_70.l1 k y0 y1 y2 y3) (impl_Span_70.l1 (k + 1) y0 y1 y2 y3))
 | 0 => ⟨fun _ _ _ _ _ r h => by simp [impl_Span_70.l0] at h, fun _ _ _ _ r h => by simp [impl_Span_70.l1] at h⟩
 | k + 1 => by
  obtain ⟨ih0, ih1⟩ := impl_Span_70.mono_l k
  refine ⟨?_, ?_⟩
  ·intro y0 y1 y2 y3 y4
   unfold impl_Span_70.l0
   repeat' first | (with_reducible first | exact ih0 _ _ _ _ _ | exact ih1 _ _ _ _ | exact LeO.refl _ | exact LeO.none _ | refine LeO.ite ?_ ?_ | refine LeO.bind ?_ (fun _ => ?_)) | exact LeO.none _ | refine LeO.ite ?_ ?_ | refine LeO.bind ?_ (fun _ => ?_)
  ·intro y0 y1 y2 y3
   unfold impl_Span_70.l1
   repeat' first | (with_reducible first | exact ih0 _ _ _ _ _ | exact ih1 _ _ _ _ | exact LeO.refl _ | exact LeO.none _ | refine LeO.ite ?_ ?_ | refine LeO.bind ?_ (fun _ => ?_)) | exact LeO.none _ | refine LeO.ite ?_ ?_ | refine LeO.bind ?_ (fun _ => ?_)
theorem impl_Span_70.mono : ∀ a0 k, LeO (impl_Span_70.f k a0) (impl_Span_70.f (k + 1) a0) := by
 intro a0 k
 obtain ⟨ih0, ih1⟩ := impl_Span_70.mono_l k
 unfold impl_Span_70.f
 repeat' first | (with_reducible first | exact ih0 _ _ _ _ _ | exact ih1 _ _ _ _ | exact LeO.refl _ | exact LeO.none _ | refine LeO.ite ?_ ?_ | refine LeO.bind ?_ (fun _ => ?_)) | exact LeO.none _ | refine LeO.ite ?_ ?_ | refine LeO.bind ?_ (fun _ => ?_)
set_option maxHeartbeats 8000000 in
set_option maxRecDepth 100000 in
theorem impl_Span_70.calls (k : Nat) (A0 : Option Addr) (c0 : Nat) (l0 : List (List (S82))) (r : List (S82)) (w : World) (hr0 : Kd.C (Kd.slice 82 k82) w A0 l0.length l0) (hc0 : l0.length ≤ c0) (h : impl_Span_70.f k l0 = some r) :
  Calls Try.prog 70 #[.slice A0 l0.length c0] w fun e w' => ∃ v0_ : Value, e = .returned (v0_) ∧ Kd.R k82 82 w' w.heap.size (fun _ => True) v0_ r ∧ Below w.heap.size w w' := by
 have HR0 := Aside0.mk hr0
 have HC0 := Aside0.mk hc0
 clear hr0 hc0
 have HB := Aside0.mk (Below.refl w.heap.size w)
 have H := h
 clear h
 unfold impl_Span_70.f at H
 have H' := Aside0.mk H
 clear H
 go_enter Try.func70, Try.ntmps70
 go_wp2
 go_loopg [3, 11] k (fun kq v3 v11 w' => ∃ (x3_1 : Int) (x11_1 : Int), v3 = .int .i64 x3_1 ∧ v11 = .int .i64 x11_1 ∧ Aside0 (impl_Span_70.l0 kq l0 x3_1 l0 (l0.length : Int) x11_1 = some r) ∧ Aside0 (kq ≤ k) ∧ Aside0 (Below w.heap.size w w'))
 case atStart => exact ⟨(0), (0), (by first | rfl | (simp; done) | (simp [*]; done)), (by first | rfl | (simp; done) | (simp [*]; done)), H', ⟨Nat.le_refl _⟩, ⟨bl_ HB⟩⟩
 case round =>
  clear H'
  obtain ⟨x3_1, x11_1, rfl, rfl, HA, HK1, HB⟩ := hrel
  cases gk with
  | zero => exact absurd HA.out (by simp [impl_Span_70.l0])
  | succ k1 =>
   have H := HA.out
   clear HA
   simp only [impl_Span_70.l0] at H
   by_cases c2 : x11_1 < (l0.length : Int)
   ·rw [if_pos c2] at H
    have c2b0 := decide_eq_true c2
    clear c2
    replace H := ifn_ H
    obtain ⟨c3, H⟩ := H
    have c3b0 := decide_eq_true c3
    clear c3
    replace H := ifn_ H
    obtain ⟨c4, H⟩ := H
    have c4b0 := decide_eq_true c4
    clear c4
    by_cases c5 : (wrap64 (x3_1 + ((rd_L6 l0 x11_1).length : Int))) < 0
    ·rw [if_pos c5] at H
     exact absurd H (by simp)
    ·rw [if_neg c5] at H
     have c5b0 := decide_eq_false c5
     clear c5
     have H' := Aside0.mk H
     clear H
     have p292 : 0 ≤ (x11_1 : Int) := od_
     have q292 : x11_1 < (l0.length : Int) := od_
     obtain ⟨ad292, A292_0, c292_0, e292, hx292_0, hl292_0, hi292_0⟩ := at_L6 HR0.out x11_1 p292 q292
     cases e292
     replace hx292_0 := hbc_ HB hx292_0
     have HR292_0 := Aside0.mk hi292_0
     have HC292_0 := Aside0.mk hl292_0
     clear hi292_0 hl292_0
     replace p292 := eq_true p292
     replace q292 := eq_true q292
     go_wp2
     go_roundg k1
     case measure => have := HK1.out; omega
     case rel => exact ⟨(wrap64 (x3_1 + ((rd_L6 l0 x11_1).length : Int))), (wrap64 (x11_1 + 1)), (by first | rfl | (simp; done) | (simp [*]; done)), (by first | rfl | (simp; done) | (simp [*]; done)), H', ⟨by have := HK1.out; omega⟩, ⟨bl_ HB⟩⟩
   ·rw [if_neg c2] at H
    have c2b0 := decide_eq_false c2
    clear c2
    replace H := bs_ H
    obtain ⟨t293, A6, H⟩ := H
    have H' := Aside0.mk H
    clear H
    go_wp2_with (first | ((with_reducible refine gate_callee (f := 103) rfl ?_); refine gl_ 24 Try.func103 (grow103.calls x3_1 t293 _ A6.out) ?_; rintro e w7 ⟨v294, rfl, ho0, hb⟩; refine ⟨_, rfl, sh2_ (Kd.R_lower ho0 (below_size (bl_ HB))) (below_step (bl_ HB) hb) ?_⟩; clear HB hb ho0; intro HO295 HB))
    go_loopg [6, 27] k1 (fun kq v6 v27 w' => ∃ (x6_2 : List (S82)) (x27_2 : Int), v27 = .int .i64 x27_2 ∧ Aside0 (impl_Span_70.l1 kq x6_2 l0 (l0.length : Int) x27_2 = some r) ∧ Aside0 (kq ≤ k1) ∧ Aside0 (Kd.R k82 82 w' w.heap.size (fun _ => True) v6 x6_2) ∧ Aside0 (Below w.heap.size w w'))
    case atStart => exact ⟨(t293), (0), (by first | rfl | (simp; done) | (simp [*]; done)), H', ⟨Nat.le_refl _⟩, ⟨ra_ HO295⟩, ⟨bl_ HB⟩⟩
    case round =>
     clear H'
     try clear c2
     try clear c2b0
     try clear p2
     try clear q2
     try clear hx2
     try clear c3
     try clear c3b0
     try clear c4
     try clear c4b0
     try clear c5
     try clear c5b0
     try clear p6
     try clear c7
     try clear hx292_0
     try clear p292
     try clear q292
     obtain ⟨x6_2, x27_2, rfl, HA, HK2, HO_6, HB⟩ := hrel
     cases gk with
     | zero => exact absurd HA.out (by simp [impl_Span_70.l1])
     | succ k2 =>
      have H := HA.out
      clear HA
      simp only [impl_Span_70.l1] at H
      by_cases c8 : x27_2 < (l0.length : Int)
      ·rw [if_pos c8] at H
       have c8b0 := decide_eq_true c8
       clear c8
       replace H := ifn_ H
       obtain ⟨c9, H⟩ := H
       have c9b0 := decide_eq_true c9
       clear c9
       replace H := ifn_ H
       obtain ⟨c10, H⟩ := H
       have c10b0 := decide_eq_true c10
       clear c10
       replace H := ifn_ H
       obtain ⟨c11, H⟩ := H
       have LMc11 := Aside0.mk c11
       clear c11
       replace H : ∃ y_ : List (S82), Aside0 (y_ = (x6_2 ++ (rd_L6 l0 x27_2))) ∧ (impl_Span_70.l1 k2 y_ l0 (l0.length : Int) (wrap64 (x27_2 + 1))) = some r := ⟨_, ⟨rfl⟩, yh_ H⟩
       obtain ⟨y297, Ny297, H⟩ := H
       have H' := Aside0.mk H
       clear H
       have p296 : 0 ≤ (x27_2 : Int) := od_
       have q296 : x27_2 < (l0.length : Int) := od_
       obtain ⟨ad296, A296_0, c296_0, e296, hx296_0, hl296_0, hi296_0⟩ := at_L6 HR0.out x27_2 p296 q296
       cases e296
       replace hx296_0 := hbc_ HB hx296_0
       have HR296_0 := Aside0.mk hi296_0
       have HC296_0 := Aside0.mk hl296_0
       clear hi296_0 hl296_0
       replace p296 := eq_true p296
       replace q296 := eq_true q296
       go_wp2_with (first | ((with_reducible refine gate_builtin (b := .append) (xs := #[.tmp 31, .tmp 32]) rfl ?_); at_builtin; refine Kd.R_append_rows k82 (w0 := w) w.heap.size rfl (.tmp 31) (.tmp 32) 40 82 (.agg #[(.int .i64 0), (.int .i64 0)]) 16 rfl Try.underlying40 info82 rfl (by decide) (by omega) u6 x6_2 (rd_L6 l0 x27_2) _ _ _ (fun _ => True) (fun _ => False) rfl rfl ?aO ?aR (fun _ _ h => h) (fun _ h => h.elim) ?aF ?aB ?aS ?aL ?_; (case aR => exact ck_ HR296_0 HB); (case aB => exact (bl_ HB)); (case aF => exact (fun _ _ => trivial)); (case aO => exact (ra_ HO_6)); (case aS => exact (below_size (bl_ HB))); (case aL => have := LMc11.out; omega); intro v298 w12 ho hb hg hat; rw [← Ny297.out] at ho; refine sh2_ hb ho ?_; clear HB HO_6 ho hb hg hat; intro HB HO299))
       go_roundg k2
       case measure => have := HK1.out; have := HK2.out; omega
       case rel => exact ⟨(y297), (wrap64 (x27_2 + 1)), (by first | rfl | (simp; done) | (simp [*]; done)), H', ⟨by have := HK1.out; have := HK2.out; omega⟩, ⟨ra_ HO299⟩, ⟨bl_ HB⟩⟩
      ·rw [if_neg c8] at H
       have c8b0 := decide_eq_false c8
       clear c8
       obtain rfl := Option.some.inj H
       go_wp2
       go_ret
       exact ⟨_, by first | (rw [hRT_.out]; rfl) | exact er_, ra_ HO_6, bl_ HB⟩

/-! ### impl_JoinSpans_1: function 101 -/
def impl_JoinSpans_1.f (a0 : Int) (l1 : List Bool) : Option (Bool) := if 0 ≤ a0 then (if a0 < (l1.length : Int) then (some (rdOf false l1 a0)) else (none)) else (none)
set_option maxHeartbeats 8000000 in
set_option maxRecDepth 100000 in
theorem impl_JoinSpans_1.calls (a0 : Int) (A1 : Option Addr) (c1 : Nat) (l1 : List Bool) (r : Bool) (w : World) (B0 : Nat) (hB0 : w.heap[B0]? = some (.cells #[.slice A1 l1.length c1] 109 (0, 0))) (hr1 : Kd.C Kd.bool w A1 l1.length l1) (hc1 : l1.length ≤ c1) (h : impl_JoinSpans_1.f a0 l1 = some r) :
  Calls Try.prog 101 #[.int .i64 a0, .pointer (some ⟨B0, 0, none⟩)] w fun e w' => e = .returned (.bool r) ∧ Drawn0 w w' := by
 have hcB0_0 : w.cell? ⟨B0, 0, none⟩ = some (.slice A1 l1.length c1) := (blk_cell hB0 0).trans rfl
 have HR1 := Aside0.mk hr1
 have HC1 := Aside0.mk hc1
 clear hr1 hc1
 have H := h
 clear h
 unfold impl_JoinSpans_1.f at H
 replace H := ifn_ H
 obtain ⟨c3, H⟩ := H
 have c3b0 := decide_eq_true c3
 clear c3
 replace H := ifn_ H
 obtain ⟨c4, H⟩ := H
 have c4b0 := decide_eq_true c4
 clear c4
 obtain rfl := Option.some.inj H
 have p300 : 0 ≤ (a0 : Int) := od_
 have q300 : a0 < (l1.length : Int) := od_
 obtain ⟨ad300, e300, hx300_0⟩ := Kd.at_bool HR1.out a0 p300 q300
 cases e300
 replace p300 := eq_true p300
 replace q300 := eq_true q300
 go_enter Try.func101, Try.ntmps101
 go_wp2
 go_ret
 exact ⟨by first | rfl | (simp; done) | (simp [*]; done), by repeat (first | exact Drawn0.refl _ | apply Drawn0.step)⟩


def where_impl_JoinSpans_1.f (k : Nat) (y0 y1 : Int) (l1 : List Bool) : Option (List (S82)) := sw.f (fun k' t' => impl_JoinSpans_1.f t' l1) k y0 y1
theorem where_impl_JoinSpans_1.mono : ∀ y0 y1 l1 k, LeO (where_impl_JoinSpans_1.f k y0 y1 l1) (where_impl_JoinSpans_1.f (k + 1) y0 y1 l1) := fun y0 y1 l1 k => sw.mono _ (fun _ _ => LeO.refl _) y0 y1 k
theorem where_impl_JoinSpans_1.calls (k : Nat) (y0 y1 : Int) (A1 : Option Addr) (c1 : Nat) (l1 : List Bool) (r : List (S82)) (w : World) (B0 : Nat) (hB0 : w.heap[B0]? = some (.cells #[.slice A1 l1.length c1] 109 (0, 0))) (hr1 : Kd.C Kd.bool w A1 l1.length l1) (hc1 : l1.length ≤ c1) (h : where_impl_JoinSpans_1.f k y0 y1 l1 = some r) :
  Calls Try.prog 61 #[.int .i64 y0, .int .i64 y1, .func (.func 101) #[] #[.pointer (some ⟨B0, 0, none⟩)]] w fun e w' => ∃ v0_ : Value, e = .returned (v0_) ∧ Kd.R k82 82 w' w.heap.size (fun _ => True) v0_ r ∧ Below w.heap.size w w' := by
 refine sw.calls (fun k' t' => impl_JoinSpans_1.f t' l1) k y0 y1 r w 101 _ (fun args w => enters_ Try.func101 (by kernel_rfl) rfl args w) (fun k' t b W hq hb => ?_) h
 have hB0' := blk_below hB0 hb
 have hh := impl_JoinSpans_1.calls t A1 c1 l1 b W B0 hB0' (Kd.C_below hr1 hb) hc1 hq
 exact hh.mono (fun e w' hx => ⟨hx.1, by obtain ⟨n, rfl⟩ := hx.2.out; exact pw_below_drewN (Below.refl _ _) n⟩)

/-! ### impl_JoinSpans: function 67 -/
def impl_JoinSpans.f (k : Nat) (l0 : List (S82)) : Option ((List (S82))) := (impl_ticks.f k l0).bind fun t301 => ((where_impl_JoinSpans_1.f k 0 1000 t301).bind fun t304 => (some t304))
theorem impl_JoinSpans.mono : ∀ a0 k, LeO (impl_JoinSpans.f k a0) (impl_JoinSpans.f (k + 1) a0) := by
 intro a0 k
 unfold impl_JoinSpans.f
 repeat' first | (with_reducible first | exact impl_ticks.mono _ _ | exact where_impl_JoinSpans_1.mono _ _ _ _ | exact LeO.refl _ | exact LeO.none _ | refine LeO.ite ?_ ?_ | refine LeO.bind ?_ (fun _ => ?_)) | exact LeO.none _ | refine LeO.ite ?_ ?_ | refine LeO.bind ?_ (fun _ => ?_)
set_option maxHeartbeats 8000000 in
set_option maxRecDepth 100000 in
theorem impl_JoinSpans.calls (k : Nat) (A0 : Option Addr) (c0 : Nat) (l0 : List (S82)) (r : List (S82)) (w : World) (hr0 : Kd.C k82 w A0 l0.length l0) (hc0 : l0.length ≤ c0) (h : impl_JoinSpans.f k l0 = some r) :
  Calls Try.prog 67 #[.slice A0 l0.length c0] w fun e w' => ∃ v0_ : Value, e = .returned (v0_) ∧ Kd.R k82 82 w' w.heap.size (fun _ => True) v0_ r ∧ Below w.heap.size w w' := by
 have HR0 := Aside0.mk hr0
 have HC0 := Aside0.mk hc0
 clear hr0 hc0
 have HB := Aside0.mk (Below.refl w.heap.size w)
 have H := h
 clear h
 unfold impl_JoinSpans.f at H
 replace H := bs_ H
 obtain ⟨t301, A2, H⟩ := H
 replace H := bs_ H
 obtain ⟨t304, A3, H⟩ := H
 obtain rfl := Option.some.inj H
 go_enter Try.func67, Try.ntmps67
 go_wp2_with (first | ((with_reducible refine gate_callee (f := 100) rfl ?_); refine gl_ 5 Try.func100 (impl_ticks.calls k _ _ l0 t301 _ (cq_ HR0) HC0.out A2.out) ?_; rintro e w4 ⟨v302, rfl, ho0, hb⟩; refine ⟨_, rfl, sh2_ (Kd.R_lower ho0 (below_size (bl_ HB))) (below_step (bl_ HB) hb) ?_⟩; clear HB hb ho0; intro HO303 HB; obtain ⟨Ao5, co5, eo5⟩ := Kd.R_slice HO303.out; subst eo5) | ((with_reducible refine gd_ 3 ?_); refine bx_ 3 109 #[.slice none 0 0] ?_; intro gx3 hg wx3 hbox hb; have hHBy_ := Aside0.mk hb; have GE3_ := Aside0.mk ((by rw [hg]; exact Nat.le_refl _ : w4.heap.size ≤ gx3)); have HBx_ := hHBy_; clear hHBy_; have BK3_ := Aside0.mk hbox; clear hb hg hbox; have hcz3_ := bc_ BK3_ 0 rfl; have hfz3_ := bf_ BK3_ 0) | ((with_reducible refine gate_callee (f := 61) rfl ?_); refine goesL_ (some 7) rfl rfl Try.func61 (by kernel_rfl) rfl #[.int .i64 0, .int .i64 1000, .func (.func 101) #[] #[.pointer (some ⟨gx3, 0, none⟩)]] rfl (by (try simp only [List.map_toArray, List.map_cons, List.map_nil]); first | done | rfl) ?_; have HBz_ := below_set (j := 0) (v := .slice Ao5 t301.length co5) (HBx_.out) GE3_.out; (refine (where_impl_JoinSpans_1.calls k 0 1000 Ao5 co5 t301 t304 _ gx3 (blk_put (cs := #[.slice none 0 0]) (BK3_.out) 0 (.slice Ao5 t301.length co5) rfl) (Kd.C_below (Kd.R_reads' HO303.out).2.2 HBz_) (Kd.R_reads' HO303.out).2.1 A3.out).mono ?_); rintro e wz ⟨vz, rfl, ho0, hb⟩; refine ⟨_, rfl, ?_⟩; have n0_ := Aside0.mk (below_then HB.out (below_size HB.out) HBz_); have HO306 := Aside0.mk (Kd.R_lower ho0 (below_size n0_.out)); have n2_ := Aside0.mk (below_step n0_.out hb); clear HB; have HB := n2_; clear n0_ n2_ hb ho0))
 go_ret
 exact ⟨_, by first | (rw [hRT_.out]; rfl) | exact er_, ra_ HO306, bl_ HB⟩

/-! ### impl_CloudSpans: function 88 -/
def impl_CloudSpans.l0 : Nat → Int → List (S82) → List (S121) → Int → Int → Option ((List (S82)))
 | 0, _, _, _, _, _ => none
 | k + 1, x1, x5, x9, x10, x11 => if x11 < x10 then (if 0 ≤ x11 then (if x11 < (x9.length : Int) then (if ((rd_T121 x9 x11).f0) = x1 then (if x5.length < 8796093022208 then (impl_CloudSpans.l0 k x1 (x5 ++ [(⟨(rd_T121 x9 x11).f1, (rd_T121 x9 x11).f2⟩ : S82)]) x9 x10 (wrap64 (x11 + 1))) else (none)) else (impl_CloudSpans.l0 k x1 x5 x9 x10 (wrap64 (x11 + 1)))) else (none)) else (none)) else ((impl_JoinSpans.f k x5).bind fun t315 => (some t315))
def impl_CloudSpans.f (k : Nat) (l0 : List (S121)) (a1 : Int) : Option ((List (S82))) := impl_CloudSpans.l0 k a1 (([] : List (S82))) l0 (l0.length : Int) 0
theorem impl_CloudSpans.mono_l : ∀ k, (∀ y0 y1 y2 y3 y4, LeO (impl_CloudSpans.l0 k y0 y1 y2 y3 y4) (impl_CloudSpans.l0 (k + 1) y0 y1 y2 y3 y4))
 | 0 => fun _ _ _ _ _ r h => by simp [impl_CloudSpans.l0] at h
 | k + 1 => by
  have ih0 := impl_CloudSpans.mono_l k
  ·intro y0 y1 y2 y3 y4
   unfold impl_CloudSpans.l0
   repeat' first | (with_reducible first | exact ih0 _ _ _ _ _ | exact impl_JoinSpans.mono _ _ | exact LeO.refl _ | exact LeO.none _ | refine LeO.ite ?_ ?_ | refine LeO.bind ?_ (fun _ => ?_)) | exact LeO.none _ | refine LeO.ite ?_ ?_ | refine LeO.bind ?_ (fun _ => ?_)
theorem impl_CloudSpans.mono : ∀ a0 a1 k, LeO (impl_CloudSpans.f k a0 a1) (impl_CloudSpans.f (k + 1) a0 a1) := by
 intro a0 a1 k
 have ih0 := impl_CloudSpans.mono_l k
 unfold impl_CloudSpans.f
 repeat' first | (with_reducible first | exact ih0 _ _ _ _ _ | exact impl_JoinSpans.mono _ _ | exact LeO.refl _ | exact LeO.none _ | refine LeO.ite ?_ ?_ | refine LeO.bind ?_ (fun _ => ?_)) | exact LeO.none _ | refine LeO.ite ?_ ?_ | refine LeO.bind ?_ (fun _ => ?_)
set_option maxHeartbeats 8000000 in
set_option maxRecDepth 100000 in
theorem impl_CloudSpans.calls (k : Nat) (A0 : Option Addr) (c0 : Nat) (l0 : List (S121)) (a1 : Int) (r : List (S82)) (w : World) (hr0 : Kd.C k121 w A0 l0.length l0) (hc0 : l0.length ≤ c0) (h : impl_CloudSpans.f k l0 a1 = some r) :
  Calls Try.prog 88 #[.slice A0 l0.length c0, .int .i64 a1] w fun e w' => ∃ v0_ : Value, e = .returned (v0_) ∧ Kd.R k82 82 w' w.heap.size (fun _ => True) v0_ r ∧ Below w.heap.size w w' := by
 have hu121 := Try.underlying121
 have hu82 := Try.underlying82
 have HR0 := Aside0.mk hr0
 have HC0 := Aside0.mk hc0
 clear hr0 hc0
 have HB := Aside0.mk (Below.refl w.heap.size w)
 have H := h
 clear h
 unfold impl_CloudSpans.f at H
 replace H : ∃ y_ : List (S82), Aside0 (y_ = (([] : List (S82)))) ∧ (impl_CloudSpans.l0 k a1 y_ l0 (l0.length : Int) 0) = some r := ⟨_, ⟨rfl⟩, yh_ H⟩
 obtain ⟨y307, Ny307, H⟩ := H
 have H' := Aside0.mk H
 clear H
 go_enter Try.func88, Try.ntmps88
 go_wp2_with (first | ((with_reducible refine gate_dst (N := 8) rfl ?_); refine Kd.R_lit k82 _ 82 ?hg (N := 8) ?hd (xs := ([] : List (S82))) (inner := []) (ok := fun _ => True) (okp := fun _ => True) ?hr ?hp (fun _ hk => hk) trivial (Below.refl _ _) (Nat.le_refl _) (by simp) ?_; (case hd => rfl); (case hg => rfl); (case hr => first | (go_simp; done) | (go_simp; rfl)); (case hp => exact (Reps.none _ _)); intro v308 w3 ho4 hb hg_ hnew_; clear hg_ hnew_; (first | rw [← Ny307.out] at ho4 | (simp only [Int.reduceToNat] at ho4; rw [← Ny307.out] at ho4)); refine sh2_ (Kd.R_lower ho4 (below_size (bl_ HB))) (below_step (bl_ HB) hb) ?_; clear HB hb ho4; intro HO309 HB))
 go_loopg [5, 11] k (fun kq v5 v11 w' => ∃ (x5_1 : List (S82)) (x11_1 : Int), v11 = .int .i64 x11_1 ∧ Aside0 (impl_CloudSpans.l0 kq a1 x5_1 l0 (l0.length : Int) x11_1 = some r) ∧ Aside0 (kq ≤ k) ∧ Aside0 (Kd.R k82 82 w' w.heap.size (fun _ => True) v5 x5_1) ∧ Aside0 (Below w.heap.size w w'))
 case atStart => exact ⟨(y307), (0), (by first | rfl | (simp; done) | (simp [*]; done)), H', ⟨Nat.le_refl _⟩, ⟨ra_ HO309⟩, ⟨bl_ HB⟩⟩
 case round =>
  clear H'
  try clear p2
  obtain ⟨x5_1, x11_1, rfl, HA, HK1, HO_5, HB⟩ := hrel
  cases gk with
  | zero => exact absurd HA.out (by simp [impl_CloudSpans.l0])
  | succ k1 =>
   have H := HA.out
   clear HA
   simp only [impl_CloudSpans.l0] at H
   by_cases c5 : x11_1 < (l0.length : Int)
   ·rw [if_pos c5] at H
    have c5b0 := decide_eq_true c5
    clear c5
    replace H := ifn_ H
    obtain ⟨c6, H⟩ := H
    have c6b0 := decide_eq_true c6
    clear c6
    replace H := ifn_ H
    obtain ⟨c7, H⟩ := H
    have c7b0 := decide_eq_true c7
    clear c7
    by_cases c8 : ((rd_T121 l0 x11_1).f0) = a1
    ·rw [if_pos c8] at H
     obtain ⟨c8b0, c8b1⟩ := bt_ c8
     clear c8
     replace H := ifn_ H
     obtain ⟨c9, H⟩ := H
     have LMc9 := Aside0.mk c9
     clear c9
     replace H : ∃ y_ : List (S82), Aside0 (y_ = (x5_1 ++ [(⟨(rd_T121 l0 x11_1).f1, (rd_T121 l0 x11_1).f2⟩ : S82)])) ∧ (impl_CloudSpans.l0 k1 a1 y_ l0 (l0.length : Int) (wrap64 (x11_1 + 1))) = some r := ⟨_, ⟨rfl⟩, yh_ H⟩
     obtain ⟨y312, Ny312, H⟩ := H
     have H' := Aside0.mk H
     clear H
     have p310 : 0 ≤ (x11_1 : Int) := od_
     have q310 : x11_1 < (l0.length : Int) := od_
     obtain ⟨ad310, e310, hx310_0, hx310_1, hx310_2⟩ := at_T121 HR0.out x11_1 p310 q310
     cases e310
     replace hx310_0 := hbc_ HB hx310_0
     replace hx310_1 := hbc_ HB hx310_1
     replace hx310_2 := hbc_ HB hx310_2
     replace p310 := eq_true p310
     replace q310 := eq_true q310
     go_wp2_with (first | ((with_reducible refine gd_ 7 ?_); refine bx_ 7 121 #[.int .i64 0, .int .i64 0, .int .i64 0] ?_; intro gb311 hg w10 hbox hb; refine sh5_ (Kd.R_below (ra_ HO_5) hb) (below_step (bl_ HB) hb) hbox (ge_ hg (bl_ HB)) (ge_ hg (bl_ HB)) ?_; clear HO_5 HB hb hbox hg; intro HO_5 HB BK311 GW311 GE311; have hcz11 := cf3_ BK311) | ((with_reducible refine gate_builtin (b := .append) (xs := #[.tmp 19, .tmp 25]) rfl ?_); at_builtin; refine Kd.R_append k82 (w0 := w) w.heap.size rfl (.tmp 19) (.tmp 25) 40 82 (.agg #[(.int .i64 0), (.int .i64 0)]) 16 rfl Try.underlying40 info82 rfl (by decide) (by omega) u5 x5_1 (⟨(rd_T121 l0 x11_1).f1, (rd_T121 l0 x11_1).f2⟩ : S82) [.int .i64 ((rd_T121 l0 x11_1).f1), .int .i64 ((rd_T121 l0 x11_1).f2)] (fun _ => True) (fun _ => False) rfl (by first | (go_simp; done) | (go_simp; rfl)) ?aP (fun _ hk => hk.elim) ?aF ?aO ?aB ?aS ?aL ?_; (case aP => exact k82_mkM _ _ _ (⟨(rd_T121 l0 x11_1).f1, (rd_T121 l0 x11_1).f2⟩ : S82)); (case aB => exact (bl1_ HB GE311)); (case aF => exact (fun _ _ => trivial)); (case aO => exact (by (with_reducible repeat (first | apply Kd.R_alloc | apply Kd.R_drewN | apply Kd.R_drew)); exact Kd.R_mono (Kd.R_far (p := ⟨gb311, 2, none⟩) (Kd.R_far (p := ⟨gb311, 1, none⟩) (Kd.R_far (p := ⟨gb311, 0, none⟩) (Kd.R_types HO_5.out BK311.out (by decide)) (fun _ hk => hk.2) (.int .i64 ((rd_T121 l0 x11_1).f0))) (fun _ hk => hk.2) (.int .i64 ((rd_T121 l0 x11_1).f1))) (fun _ hk => hk.2) (.int .i64 ((rd_T121 l0 x11_1).f2))) (fun _ hk => trivial))); (case aS => exact (below_size (bl1_ HB GE311))); (case aL => have := LMc9.out; omega); intro v313 w12 ho hb hg hat; rw [← Ny312.out] at ho; refine sh3_ (blk_grown (g := gb311) (o := .cells #[.int .i64 ((rd_T121 l0 x11_1).f0), .int .i64 ((rd_T121 l0 x11_1).f1), .int .i64 ((rd_T121 l0 x11_1).f2)] 121 (0, 0)) (by (with_reducible repeat (first | refine blk_drewN ?_ _ | refine blk_drew ?_ | refine blk_alloc ?_ _)); refine blk_put (cs := #[.int .i64 ((rd_T121 l0 x11_1).f0), .int .i64 ((rd_T121 l0 x11_1).f1), .int .i64 0]) ?_ 2 _ rfl; (with_reducible repeat (first | refine blk_drewN ?_ _ | refine blk_drew ?_ | refine blk_alloc ?_ _)); refine blk_put (cs := #[.int .i64 ((rd_T121 l0 x11_1).f0), .int .i64 0, .int .i64 0]) ?_ 1 _ rfl; (with_reducible repeat (first | refine blk_drewN ?_ _ | refine blk_drew ?_ | refine blk_alloc ?_ _)); refine blk_put (cs := #[.int .i64 0, .int .i64 0, .int .i64 0]) ?_ 0 _ rfl; (with_reducible repeat (first | refine blk_drewN ?_ _ | refine blk_drew ?_ | refine blk_alloc ?_ _)); exact BK311.out) hg (Kd.R_ne HO_5.out BK311.out (by decide))) hb ho ?_; clear BK311 HB HO_5 ho hb hg hat; intro BK311 HB HO314))
     go_roundg k1
     case measure => have := HK1.out; omega
     case rel => exact ⟨(y312), (wrap64 (x11_1 + 1)), (by first | rfl | (simp; done) | (simp [*]; done)), H', ⟨by have := HK1.out; omega⟩, ⟨ra_ HO314⟩, ⟨bl1_ HB GE311⟩⟩
    ·rw [if_neg c8] at H
     obtain ⟨c8b0, c8b1⟩ := bn_ c8
     have H' := Aside0.mk H
     clear H
     have p310 : 0 ≤ (x11_1 : Int) := od_
     have q310 : x11_1 < (l0.length : Int) := od_
     obtain ⟨ad310, e310, hx310_0, hx310_1, hx310_2⟩ := at_T121 HR0.out x11_1 p310 q310
     cases e310
     replace hx310_0 := hbc_ HB hx310_0
     replace hx310_1 := hbc_ HB hx310_1
     replace hx310_2 := hbc_ HB hx310_2
     replace p310 := eq_true p310
     replace q310 := eq_true q310
     go_wp2_with (first | ((with_reducible refine gd_ 7 ?_); refine bx_ 7 121 #[.int .i64 0, .int .i64 0, .int .i64 0] ?_; intro gb311 hg w13 hbox hb; refine sh5_ (Kd.R_below (ra_ HO_5) hb) (below_step (bl_ HB) hb) hbox (ge_ hg (bl_ HB)) (ge_ hg (bl_ HB)) ?_; clear HO_5 HB hb hbox hg; intro HO_5 HB BK311 GW311 GE311; have hcz14 := cf3_ BK311))
     go_roundg k1
     case measure => have := HK1.out; omega
     case rel => exact ⟨(x5_1), (wrap64 (x11_1 + 1)), (by first | rfl | (simp; done) | (simp [*]; done)), H', ⟨by have := HK1.out; omega⟩, ⟨by (with_reducible repeat (first | apply Kd.R_alloc | apply Kd.R_drewN | apply Kd.R_drew)); exact Kd.R_mono (Kd.R_far (p := ⟨gb311, 2, none⟩) (Kd.R_far (p := ⟨gb311, 1, none⟩) (Kd.R_far (p := ⟨gb311, 0, none⟩) (Kd.R_types HO_5.out BK311.out (by decide)) (fun _ hk => hk.2) (.int .i64 ((rd_T121 l0 x11_1).f0))) (fun _ hk => hk.2) (.int .i64 ((rd_T121 l0 x11_1).f1))) (fun _ hk => hk.2) (.int .i64 ((rd_T121 l0 x11_1).f2))) (fun _ hk => trivial)⟩, ⟨bl1_ HB GE311⟩⟩
   ·rw [if_neg c5] at H
    have c5b0 : decide (x11_1 < (l0.length : Int)) = false := decide_eq_false c5
    clear c5
    replace H := bs_ H
    obtain ⟨t315, A15, H⟩ := H
    obtain rfl := Option.some.inj H
    obtain ⟨Ao16, co16, eo16⟩ := Kd.R_slice HO_5.out
    subst eo16
    go_wp2_with (first | ((with_reducible refine gate_callee (f := 67) rfl ?_); refine gl_ 29 Try.func67 (impl_JoinSpans.calls k1 _ _ x5_1 t315 _ (cr_ HO_5) (rl_ HO_5) A15.out) ?_; rintro e w17 ⟨v316, rfl, ho0, hb⟩; refine ⟨_, rfl, sh3_ (Kd.R_elder' (ra_ HO_5) (Kd.R_base ho0) hb) (Kd.R_lower (Kd.R_new' ho0 (Kd.R_lt (ra_ HO_5))) (below_size (bl_ HB))) (below_step (bl_ HB) hb) ?_⟩; clear HO_5 HB hb ho0; intro HO_5 HO317 HB))
    go_ret
    exact ⟨_, by first | (rw [hRT_.out]; rfl) | exact er_, by (with_reducible repeat (first | apply Kd.R_alloc | apply Kd.R_drewN | apply Kd.R_drew)); exact Kd.R_mono HO317.out (fun _ hk => trivial), bl_ HB⟩

end Go.Proofs.Ytopbkdcicidajaa.PFnWeather
