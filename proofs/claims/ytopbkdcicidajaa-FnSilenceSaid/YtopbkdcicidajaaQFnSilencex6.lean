-- Written by a program of this session for this claim (the kit's printer with changes).
import Derived.Test.YtopbkdcicidajaaQFnSilencex0
import Derived.Test.YtopbkdcicidajaaQFnSilencex2
import Derived.Test.YtopbkdcicidajaaQFnSilencex5
namespace Go.Proofs.Ytopbkdcicidajaa.PFnSilence
open Go.RowKit Go.Proofs.YtopbkdcicidajaaW.PrintWords Go.Proofs.YtopbkdcicidajaaW.PrintLast Go.Proofs.YtopbkdcicidajaaW.PrintMore
attribute [local go_sem] max2_int min2_int max_two min_two max_three min_three max_four min_four   -- for this text's walks alone
set_option linter.unusedVariables false
set_option maxHeartbeats 8000000
set_option maxRecDepth 100000
set_option linter.unusedSimpArgs false

/-! ### spec_l10Sky: function 76 -/
def spec_l10Sky.l0 : Nat → Int → List Int → Int → Int → Int → List S72 → List S74 → Int → Int → Int → Int → Int → List S88 → Int → Option (Int × List S72 × List S74 × Int × Int × Int × Int × Int × List S88 × Int × Int × Int)
 | 0, _, _, _, _, _, _, _, _, _, _, _, _, _, _ => none
 | k + 1, O, j, x, y, z, B, D, E, G, I, J, L, u, M => if O > 0 then ((spec_l1Below.f j x y 2).bind fun l => ((spec_l1Below.f j l.2.1 l.2.2 36).bind fun m => ((spec_l1Below.f j m.2.1 m.2.2 8).bind fun s => (if u.length < 5864062014805 then (spec_l10Sky.l0 k (wrap64 (O - 1)) j s.2.1 s.2.2 z B D E G I J L (u ++ [(⟨l.1, (⟨wrap64 (10 * m.1), wrap64 (10 * s.1)⟩ : S35)⟩ : S88)]) M) else (none))))) else (some (z, B, D, E, G, I, J, L, u, M, x, y))
def spec_l10Sky.f (k : Nat) (m : List Int) (s u : Int) : Option (Int × List S72 × List S74 × Int × Int × Int × Int × Int × List S88 × Int × Int × Int) := (spec_l7Sky.f k m s u).bind fun j => ((spec_l1Below.f m j.2.2.2.2.2.2.2.2.2.2.1 j.2.2.2.2.2.2.2.2.2.2.2 3).bind fun l => (spec_l10Sky.l0 k l.1 m l.2.1 l.2.2 j.1 j.2.1 j.2.2.1 j.2.2.2.1 j.2.2.2.2.1 j.2.2.2.2.2.1 j.2.2.2.2.2.2.1 j.2.2.2.2.2.2.2.1 (([] : List S88)) j.2.2.2.2.2.2.2.2.2.1))
def spec_l10Sky.T6 : Bool × List (List Nat × List Nat) := (true, [([], []), ([0], [0]), ([], []), ([2], [2]), ([], []), ([4, 3], [4]), ([5], [5]), ([], []), ([7, 5], [7]), ([8], [8]), ([6, 9], [6, 9]), ([3, 10], [3, 10]), ([11], [11]), ([1, 12, 8], [1, 12]), ([0, 1, 2, 3, 4, 5, 6, 7, 8, 9, 10, 11, 12, 13], []), ([14, 13, 13, 0, 1, 2, 3, 4, 5, 6, 7, 8, 9, 10, 11, 12, 13], [13, 14])])
def spec_l10Sky.B6 : List Nat := [0, 1, 0, 4, 0, 28, 60, 0, 188, 444, 1020, 2044, 4092, 8191, 16383, 32767]
theorem spec_l10Sky.tab6 : rtab .any (opsOf Try.f76 6) = spec_l10Sky.T6 := by kernel_rfl
theorem spec_l10Sky.bits6 : waitsOk spec_l10Sky.T6.2 spec_l10Sky.B6 = true := by kernel_rfl
theorem spec_l10Sky.calls (k g : Nat) (y : List Int) (e8 e9 r1 : Int) (r2 : List S72) (r3 : List S74) (r4 r5 r6 r7 r8 : Int) (r9 : List S88) (d7 d8 d9 : Int) (x w : World) (hI : IsS102 x w g y e8 e9) (hB : Below x.heap.size x w) (h : spec_l10Sky.f k y e8 e9 = some (r1, r2, r3, r4, r5, r6, r7, r8, r9, d7, d8, d9)) :
  Calls Try.prog 76 #[.pointer (some ⟨g, 0, none⟩)] w fun e w' => ∃ i0 i1 i2 : Value, e = .returned (.agg #[iv_ r1, i0, i1, iv_ r4, iv_ r5, iv_ r6, iv_ r7, iv_ r8, i2, iv_ d7]) ∧ Kd.R k72 72 w' w.heap.size (fun _ => True) i0 r2 ∧ Kd.R k74 74 w' w.heap.size (fun _ => True) i1 r3 ∧ Kd.R k88 88 w' w.heap.size (fun _ => True) i2 r9 ∧ IsS102 x w' g y d8 d9 ∧ Below x.heap.size x w' ∧ KeepBut w w' g none := by
 have m1 := Try.underlying28
 have m2 := Try.underlying35
 have m3 := Try.underlying88
 have j := Aside0.mk hI
 have HK := Aside0.mk (KeepBut.refl w g none)
 have HL := Aside0.mk hB.size
 clear hI
 have g9 := Aside0.mk hB.size
 have HB := Aside0.mk hB
 clear hB
 have H := h
 clear h
 unfold spec_l10Sky.f at H
 replace H := bs_ H
 obtain ⟨⟨I, D, E, J, L, M, O, T, b5, U, b0, b1⟩, A2, H⟩ := H
 dsimp only at H
 replace H : ∃ y_ : List S88, Aside0 (y_ = (([] : List S88))) ∧ ((spec_l1Below.f y b0 b1 3).bind fun g4 => (spec_l10Sky.l0 k g4.1 y g4.2.1 g4.2.2 I D E J L M O T y_ U)) = some (r1, r2, r3, r4, r5, r6, r7, r8, r9, d7, d8, d9) := ⟨_, ⟨rfl⟩, yh_ H⟩
 obtain ⟨b8, h0, H⟩ := H
 replace H := bs_ H
 obtain ⟨⟨h7, h8, h9⟩, A3, H⟩ := H
 dsimp only at H
 have H' := Aside0.mk H
 clear H
 go_enter Try.func76, Try.ntmps76
 go_wp2_with (first | ((with_reducible refine gd_ 2 ?_); refine bx_ 2 28 #[iv_ 0, .slice none 0 0, .slice none 0 0, iv_ 0, iv_ 0, iv_ 0, iv_ 0, iv_ 0, .slice none 0 0, iv_ 0] ?_; intro s hg w4 hbox hb; refine sh8_ (IsS102.below (by repeat (first | (with_reducible first | exact j.out | apply IsS102.alloc | apply IsS102.drewN | apply IsS102.drew | apply IsS102.set_1 | apply IsS102.set_2) | exact j.out)) hb) (KeepBut.trans (by repeat (first | (with_reducible first | exact HK.out | apply KeepBut.set_ | apply keep_drewN | apply keep_drew | apply keep_alloc) | exact HK.out)) (KeepBut.of_below hb g none) (.inl rfl)) (below_step (by repeat (first | (with_reducible first | exact HB.out | apply below_alloc | apply pw_below_drewN | apply below_drew1 | refine below_set ?_ (IsS102.ge j.out)) | exact HB.out)) hb) hbox ((by rw [hg]; exact (keep_size (w := w) (g := g) (row := none) (by repeat (first | (with_reducible first | exact HK.out | apply KeepBut.set_ | apply keep_drewN | apply keep_drew | apply keep_alloc) | exact HK.out))) : w.heap.size ≤ s)) ((Nat.le_trans g9.out (by rw [hg]; exact (keep_size (w := w) (g := g) (row := none) (by repeat (first | (with_reducible first | exact HK.out | apply KeepBut.set_ | apply keep_drewN | apply keep_drew | apply keep_alloc) | exact HK.out))) : w.heap.size ≤ s) : x.heap.size ≤ s)) ((by rw [hg]; exact Nat.ne_of_lt (IsS102.lt (show IsS102 x _ g y e8 e9 from by repeat (first | (with_reducible first | exact j.out | apply IsS102.alloc | apply IsS102.drewN | apply IsS102.drew | apply IsS102.set_1 | apply IsS102.set_2) | exact j.out))) : g ≠ s)) ((by rw [hg]; exact Nat.ne_of_gt (IsS102.lt (show IsS102 x _ g y e8 e9 from by repeat (first | (with_reducible first | exact j.out | apply IsS102.alloc | apply IsS102.drewN | apply IsS102.drew | apply IsS102.set_1 | apply IsS102.set_2) | exact j.out))) : s ≠ g)) ?_; clear j HK HB hb hbox hg; intro j HK HB u a1 a4 z c1) | ((with_reducible refine gate_callee (f := 59) rfl ?_); refine goesL_ (some 6) rfl rfl Try.func59 (by kernel_rfl) rfl #[.pointer (some ⟨g, 0, none⟩)] rfl mp_ ?_; (with_reducible refine (spec_l7Sky.calls k g y e8 e9 I D E J L M O T b5 U b0 b1 x _ ?side1 ?side2 A2.out).mono ?_); (case side1 => repeat (first | (with_reducible first | exact j.out | apply IsS102.alloc | apply IsS102.drewN | apply IsS102.drew | apply IsS102.set_1 | apply IsS102.set_2 | refine IsS102.far ?_ z.out _) | exact j.out)); (case side2 => repeat (first | (with_reducible first | exact HB.out | apply below_alloc | apply pw_below_drewN | apply below_drew1 | refine below_set ?_ (IsS102.ge j.out) | refine below_set ?_ a4.out) | exact HB.out)); rintro e w5 ⟨m4, m5, m6, rfl, h3, h4, h5, hi, hb, hk⟩; refine ⟨_, rfl, sh7_ (KeepBut.blk hk (g' := s) (o := .cells #[iv_ 0, .slice none 0 0, .slice none 0 0, iv_ 0, iv_ 0, iv_ 0, iv_ 0, iv_ 0, .slice none 0 0, iv_ 0] 28 (0, 0)) (bk_ u) c1.out (by simp)) (Kd.R_lower h3 (keep_size (w := w) (g := g) (row := none) (by repeat (first | (with_reducible first | exact HK.out | apply KeepBut.set_ | apply keep_drewN | apply keep_drew | apply keep_alloc | refine keep_far ?_ a1.out _) | exact HK.out)))) (Kd.R_lower h4 (keep_size (w := w) (g := g) (row := none) (by repeat (first | (with_reducible first | exact HK.out | apply KeepBut.set_ | apply keep_drewN | apply keep_drew | apply keep_alloc | refine keep_far ?_ a1.out _) | exact HK.out)))) (Kd.R_lower h5 (keep_size (w := w) (g := g) (row := none) (by repeat (first | (with_reducible first | exact HK.out | apply KeepBut.set_ | apply keep_drewN | apply keep_drew | apply keep_alloc | refine keep_far ?_ a1.out _) | exact HK.out)))) (KeepBut.trans (by repeat (first | (with_reducible first | exact HK.out | apply KeepBut.set_ | apply keep_drewN | apply keep_drew | apply keep_alloc | refine keep_far ?_ a1.out _) | exact HK.out)) hk (.inl rfl)) hb hi ?_⟩; clear u HK HB j hb hk hi h3 h4 h5; intro u a6 a7 a8 HK HB j) | ((with_reducible refine gd_ 3 ?_); refine bx_ 3 28 #[iv_ 0, .slice none 0 0, .slice none 0 0, iv_ 0, iv_ 0, iv_ 0, iv_ 0, iv_ 0, .slice none 0 0, iv_ 0] ?_; intro l hg w6 hbox hb; refine sh14_ (Kd.R_below (ra_ a6) hb) (Kd.R_below (ra_ a7) hb) (Kd.R_below (ra_ a8) hb) (IsS102.below (by repeat (first | (with_reducible first | exact j.out | apply IsS102.alloc | apply IsS102.drewN | apply IsS102.drew | apply IsS102.set_1 | apply IsS102.set_2 | refine IsS102.far ?_ z.out _) | exact j.out)) hb) (blk_below (bk_ u) hb) (KeepBut.trans (by repeat (first | (with_reducible first | exact HK.out | apply KeepBut.set_ | apply keep_drewN | apply keep_drew | apply keep_alloc | refine keep_far ?_ a1.out _) | exact HK.out)) (KeepBut.of_below hb g none) (.inl rfl)) (below_step (by repeat (first | (with_reducible first | exact HB.out | apply below_alloc | apply pw_below_drewN | apply below_drew1 | refine below_set ?_ (IsS102.ge j.out) | refine below_set ?_ a4.out) | exact HB.out)) hb) hbox ((by rw [hg]; exact (keep_size (w := w) (g := g) (row := none) (by repeat (first | (with_reducible first | exact HK.out | apply KeepBut.set_ | apply keep_drewN | apply keep_drew | apply keep_alloc | refine keep_far ?_ a1.out _) | exact HK.out))) : w.heap.size ≤ l)) ((Nat.le_trans g9.out (by rw [hg]; exact (keep_size (w := w) (g := g) (row := none) (by repeat (first | (with_reducible first | exact HK.out | apply KeepBut.set_ | apply keep_drewN | apply keep_drew | apply keep_alloc | refine keep_far ?_ a1.out _) | exact HK.out))) : w.heap.size ≤ l) : x.heap.size ≤ l)) (nl_ hg (bk_ u)) (ng_ hg (bk_ u)) ((by rw [hg]; exact Nat.ne_of_lt (IsS102.lt (show IsS102 x _ g y b0 b1 from by repeat (first | (with_reducible first | exact j.out | apply IsS102.alloc | apply IsS102.drewN | apply IsS102.drew | apply IsS102.set_1 | apply IsS102.set_2 | refine IsS102.far ?_ z.out _) | exact j.out))) : g ≠ l)) ((by rw [hg]; exact Nat.ne_of_gt (IsS102.lt (show IsS102 x _ g y b0 b1 from by repeat (first | (with_reducible first | exact j.out | apply IsS102.alloc | apply IsS102.drewN | apply IsS102.drew | apply IsS102.set_1 | apply IsS102.set_2 | refine IsS102.far ?_ z.out _) | exact j.out))) : l ≠ g)) ?_; clear a6 a7 a8 j u HK HB hb hbox hg; intro a6 a7 a8 j u HK HB m a5 b2 g0 g3 B d0; have l2 := g3.out; have l7 := g0.out; have l3 := d0.out; have l8 := B.out; have k5 := cf10_ m; obtain ⟨X, Z, j1⟩ := Kd.R_slice a6.out; subst j1; obtain ⟨Y, a0, j2⟩ := Kd.R_slice a7.out; subst j2; obtain ⟨b9, d2, j3⟩ := Kd.R_slice a8.out; subst j3) | ((with_reducible refine gate_dst (N := 7) rfl ?_); refine Kd.R_lit k88 _ 88 ?hg (N := 7) ?hd (xs := ([] : List S88)) (inner := []) (ok := fun _ => True) (okp := fun _ => True) ?hr ?hp (fun _ hk => hk) trivial (Below.refl _ _) (Nat.le_refl _) (by simp) ?_; (case hd => rfl); (case hg => rfl); (case hr => first | (go_simp; done) | (go_simp; rfl)); (case hp => exact (Reps.none _ _)); intro m7 m9 d4 hb hg_ hnew_; clear hg_ hnew_; (first | rw [← h0.out] at d4 | (simp only [Int.reduceToNat] at d4; rw [← h0.out] at d4)); refine sh9_ (Kd.R_below (by (with_reducible repeat (first | apply Kd.R_alloc | apply Kd.R_drewN | apply Kd.R_drew)); exact (Kd.R_mono (Kd.R_far (p := ⟨l, 9, none⟩) (Kd.R_far (p := ⟨l, 8, none⟩) (Kd.R_far (p := ⟨l, 7, none⟩) (Kd.R_far (p := ⟨l, 6, none⟩) (Kd.R_far (p := ⟨l, 5, none⟩) (Kd.R_far (p := ⟨l, 4, none⟩) (Kd.R_far (p := ⟨l, 3, none⟩) (Kd.R_far (p := ⟨l, 2, none⟩) (Kd.R_far (p := ⟨l, 1, none⟩) (Kd.R_far (p := ⟨l, 0, none⟩) (Kd.R_types a6.out m.out (by decide)) (fun _ hk => hk.2) (iv_ I)) (fun _ hk => hk.2) (.slice X D.length Z)) (fun _ hk => hk.2) (.slice Y E.length a0)) (fun _ hk => hk.2) (iv_ J)) (fun _ hk => hk.2) (iv_ L)) (fun _ hk => hk.2) (iv_ M)) (fun _ hk => hk.2) (iv_ O)) (fun _ hk => hk.2) (iv_ T)) (fun _ hk => hk.2) (.slice b9 b5.length d2)) (fun _ hk => hk.2) (iv_ U)) (fun _ h_ => h_.1))) hb) (Kd.R_below (by (with_reducible repeat (first | apply Kd.R_alloc | apply Kd.R_drewN | apply Kd.R_drew)); exact (Kd.R_mono (Kd.R_far (p := ⟨l, 9, none⟩) (Kd.R_far (p := ⟨l, 8, none⟩) (Kd.R_far (p := ⟨l, 7, none⟩) (Kd.R_far (p := ⟨l, 6, none⟩) (Kd.R_far (p := ⟨l, 5, none⟩) (Kd.R_far (p := ⟨l, 4, none⟩) (Kd.R_far (p := ⟨l, 3, none⟩) (Kd.R_far (p := ⟨l, 2, none⟩) (Kd.R_far (p := ⟨l, 1, none⟩) (Kd.R_far (p := ⟨l, 0, none⟩) (Kd.R_types a7.out m.out (by decide)) (fun _ hk => hk.2) (iv_ I)) (fun _ hk => hk.2) (.slice X D.length Z)) (fun _ hk => hk.2) (.slice Y E.length a0)) (fun _ hk => hk.2) (iv_ J)) (fun _ hk => hk.2) (iv_ L)) (fun _ hk => hk.2) (iv_ M)) (fun _ hk => hk.2) (iv_ O)) (fun _ hk => hk.2) (iv_ T)) (fun _ hk => hk.2) (.slice b9 b5.length d2)) (fun _ hk => hk.2) (iv_ U)) (fun _ h_ => h_.1))) hb) (Kd.R_elder' (by (with_reducible repeat (first | apply Kd.R_alloc | apply Kd.R_drewN | apply Kd.R_drew)); exact (Kd.R_mono (Kd.R_far (p := ⟨l, 9, none⟩) (Kd.R_far (p := ⟨l, 8, none⟩) (Kd.R_far (p := ⟨l, 7, none⟩) (Kd.R_far (p := ⟨l, 6, none⟩) (Kd.R_far (p := ⟨l, 5, none⟩) (Kd.R_far (p := ⟨l, 4, none⟩) (Kd.R_far (p := ⟨l, 3, none⟩) (Kd.R_far (p := ⟨l, 2, none⟩) (Kd.R_far (p := ⟨l, 1, none⟩) (Kd.R_far (p := ⟨l, 0, none⟩) (Kd.R_types a8.out m.out (by decide)) (fun _ hk => hk.2) (iv_ I)) (fun _ hk => hk.2) (.slice X D.length Z)) (fun _ hk => hk.2) (.slice Y E.length a0)) (fun _ hk => hk.2) (iv_ J)) (fun _ hk => hk.2) (iv_ L)) (fun _ hk => hk.2) (iv_ M)) (fun _ hk => hk.2) (iv_ O)) (fun _ hk => hk.2) (iv_ T)) (fun _ hk => hk.2) (.slice b9 b5.length d2)) (fun _ hk => hk.2) (iv_ U)) (fun _ h_ => h_.1))) (Kd.R_base d4) hb) (Kd.R_lower (Kd.R_new' d4 (Kd.R_lt (by (with_reducible repeat (first | apply Kd.R_alloc | apply Kd.R_drewN | apply Kd.R_drew)); exact (Kd.R_mono (Kd.R_far (p := ⟨l, 9, none⟩) (Kd.R_far (p := ⟨l, 8, none⟩) (Kd.R_far (p := ⟨l, 7, none⟩) (Kd.R_far (p := ⟨l, 6, none⟩) (Kd.R_far (p := ⟨l, 5, none⟩) (Kd.R_far (p := ⟨l, 4, none⟩) (Kd.R_far (p := ⟨l, 3, none⟩) (Kd.R_far (p := ⟨l, 2, none⟩) (Kd.R_far (p := ⟨l, 1, none⟩) (Kd.R_far (p := ⟨l, 0, none⟩) (Kd.R_types a8.out m.out (by decide)) (fun _ hk => hk.2) (iv_ I)) (fun _ hk => hk.2) (.slice X D.length Z)) (fun _ hk => hk.2) (.slice Y E.length a0)) (fun _ hk => hk.2) (iv_ J)) (fun _ hk => hk.2) (iv_ L)) (fun _ hk => hk.2) (iv_ M)) (fun _ hk => hk.2) (iv_ O)) (fun _ hk => hk.2) (iv_ T)) (fun _ hk => hk.2) (.slice b9 b5.length d2)) (fun _ hk => hk.2) (iv_ U)) (fun _ h_ => h_.1))))) (keep_size (w := w) (g := g) (row := none) (by repeat (first | (with_reducible first | exact HK.out | apply KeepBut.set_ | apply keep_drewN | apply keep_drew | apply keep_alloc | refine keep_far ?_ a1.out _ | refine keep_far ?_ a5.out _) | exact HK.out)))) (IsS102.below (show IsS102 x ((((((((((w6.setCell ⟨l, 0, none⟩ (iv_ I)).setCell ⟨l, 1, none⟩ (.slice X D.length Z)).setCell ⟨l, 2, none⟩ (.slice Y E.length a0)).setCell ⟨l, 3, none⟩ (iv_ J)).setCell ⟨l, 4, none⟩ (iv_ L)).setCell ⟨l, 5, none⟩ (iv_ M)).setCell ⟨l, 6, none⟩ (iv_ O)).setCell ⟨l, 7, none⟩ (iv_ T)).setCell ⟨l, 8, none⟩ (.slice b9 b5.length d2)).setCell ⟨l, 9, none⟩ (iv_ U)) g y b0 b1 from by repeat (first | (with_reducible first | exact j.out | apply IsS102.alloc | apply IsS102.drewN | apply IsS102.drew | apply IsS102.set_1 | apply IsS102.set_2 | refine IsS102.far ?_ z.out _ | refine IsS102.far ?_ B.out _) | exact j.out)) hb) (blk_below (g := s) (o := .cells #[iv_ 0, .slice none 0 0, .slice none 0 0, iv_ 0, iv_ 0, iv_ 0, iv_ 0, iv_ 0, .slice none 0 0, iv_ 0] 28 (0, 0)) (bp_ u) hb) (blk_below (g := l) (o := .cells #[iv_ I, .slice X D.length Z, .slice Y E.length a0, iv_ J, iv_ L, iv_ M, iv_ O, iv_ T, .slice b9 b5.length d2, iv_ U] 28 (0, 0)) (bp_ m) hb) (KeepBut.trans (by repeat (first | (with_reducible first | exact HK.out | apply KeepBut.set_ | apply keep_drewN | apply keep_drew | apply keep_alloc | refine keep_far ?_ a1.out _ | refine keep_far ?_ a5.out _) | exact HK.out)) (KeepBut.of_below hb g none) (.inl rfl)) (below_step (by repeat (first | (with_reducible first | exact HB.out | apply below_alloc | apply pw_below_drewN | apply below_drew1 | refine below_set ?_ (IsS102.ge j.out) | refine below_set ?_ a4.out | refine below_set ?_ b2.out) | exact HB.out)) hb) ?_; clear a6 a7 a8 j u m HK HB hb d4; intro a6 a7 a8 d5 j u m HK HB; obtain ⟨c0, d3, j4⟩ := Kd.R_slice d5.out; subst j4; have k2 := cf10_ m) | ((with_reducible refine gate_callee (f := 60) rfl ?_); refine goesL_ (some 10) rfl rfl Try.func60 (by kernel_rfl) rfl #[.pointer (some ⟨g, 0, none⟩), iv_ 3] rfl mp_ ?_; (with_reducible refine (spec_l1Below.calls g y b0 b1 3 h7 h8 h9 x _ ?side1 ?side2 A3.out).mono ?_); (case side1 => repeat (first | (with_reducible first | exact j.out | apply IsS102.alloc | apply IsS102.drewN | apply IsS102.drew | apply IsS102.set_1 | apply IsS102.set_2 | refine IsS102.far ?_ z.out _ | refine IsS102.far ?_ B.out _) | exact j.out)); (case side2 => repeat (first | (with_reducible first | exact HB.out | apply below_alloc | apply pw_below_drewN | apply below_drew1 | refine below_set ?_ (IsS102.ge j.out) | refine below_set ?_ a4.out | refine below_set ?_ b2.out) | exact HB.out)); rintro e n0 ⟨rfl, hi, hb, hk⟩; refine ⟨_, rfl, sh9_ (KeepBut.blk hk (g' := s) (o := .cells #[iv_ 0, .slice none 0 0, .slice none 0 0, iv_ 0, iv_ 0, iv_ 0, iv_ 0, iv_ 0, .slice none 0 0, iv_ 0] 28 (0, 0)) (bp_ u) c1.out (by simp)) (Kd.R_mono (Kd.R_keep (IsS102.apart (show IsS102 x _ g y b0 b1 from by repeat (first | (with_reducible first | exact j.out | apply IsS102.alloc | apply IsS102.drewN | apply IsS102.drew | apply IsS102.set_1 | apply IsS102.set_2 | refine IsS102.far ?_ z.out _ | refine IsS102.far ?_ B.out _) | exact j.out)) (by (with_reducible repeat (first | apply Kd.R_alloc | apply Kd.R_drewN | apply Kd.R_drew)); exact (Kd.R_mono (Kd.R_far (p := ⟨l, 8, none⟩) (Kd.R_types a6.out m.out (by decide)) (fun _ hk => hk.2) (.slice c0 b8.length d3)) (fun _ h_ => h_.1))) (by decide)) hk (fun _ h => h.2)) (fun _ h => h.1)) (Kd.R_mono (Kd.R_keep (IsS102.apart (show IsS102 x _ g y b0 b1 from by repeat (first | (with_reducible first | exact j.out | apply IsS102.alloc | apply IsS102.drewN | apply IsS102.drew | apply IsS102.set_1 | apply IsS102.set_2 | refine IsS102.far ?_ z.out _ | refine IsS102.far ?_ B.out _) | exact j.out)) (by (with_reducible repeat (first | apply Kd.R_alloc | apply Kd.R_drewN | apply Kd.R_drew)); exact (Kd.R_mono (Kd.R_far (p := ⟨l, 8, none⟩) (Kd.R_types a7.out m.out (by decide)) (fun _ hk => hk.2) (.slice c0 b8.length d3)) (fun _ h_ => h_.1))) (by decide)) hk (fun _ h => h.2)) (fun _ h => h.1)) (Kd.R_mono (Kd.R_keep (IsS102.apart (show IsS102 x _ g y b0 b1 from by repeat (first | (with_reducible first | exact j.out | apply IsS102.alloc | apply IsS102.drewN | apply IsS102.drew | apply IsS102.set_1 | apply IsS102.set_2 | refine IsS102.far ?_ z.out _ | refine IsS102.far ?_ B.out _) | exact j.out)) (by (with_reducible repeat (first | apply Kd.R_alloc | apply Kd.R_drewN | apply Kd.R_drew)); exact (Kd.R_mono (Kd.R_far (p := ⟨l, 8, none⟩) (Kd.R_types a8.out m.out (by decide)) (fun _ hk => hk.2) (.slice c0 b8.length d3)) (fun _ h_ => h_.1))) (by decide)) hk (fun _ h => h.2)) (fun _ h => h.1)) (KeepBut.blk hk (g' := l) (o := .cells #[iv_ I, .slice X D.length Z, .slice Y E.length a0, iv_ J, iv_ L, iv_ M, iv_ O, iv_ T, .slice c0 b8.length d3, iv_ U] 28 (0, 0)) (bp_ m) d0.out (by simp)) (Kd.R_mono (Kd.R_keep (IsS102.apart (show IsS102 x _ g y b0 b1 from by repeat (first | (with_reducible first | exact j.out | apply IsS102.alloc | apply IsS102.drewN | apply IsS102.drew | apply IsS102.set_1 | apply IsS102.set_2 | refine IsS102.far ?_ z.out _ | refine IsS102.far ?_ B.out _) | exact j.out)) (by (with_reducible repeat (first | apply Kd.R_alloc | apply Kd.R_drewN | apply Kd.R_drew)); exact (Kd.R_mono (Kd.R_far (p := ⟨l, 8, none⟩) (Kd.R_types d5.out m.out (by decide)) (fun _ hk => hk.2) (.slice c0 b8.length d3)) (fun _ h_ => h_.1))) (by decide)) hk (fun _ h => h.2)) (fun _ h => h.1)) (KeepBut.trans (by repeat (first | (with_reducible first | exact HK.out | apply KeepBut.set_ | apply keep_drewN | apply keep_drew | apply keep_alloc | refine keep_far ?_ a1.out _ | refine keep_far ?_ a5.out _) | exact HK.out)) hk (.inl rfl)) hb hi ?_⟩; clear u a6 a7 a8 m d5 HK HB j hb hk hi; intro u a6 a7 a8 m d5 HK HB j))
 go_loopg [4] k (fun kq v4 w' => ∃ (b4 : Int) (b6 : Int) (b7 : Int) (b3 : List S88) (a9 : Value), v4 = iv_ b4 ∧ Aside0 (spec_l10Sky.l0 kq b4 y b6 b7 I D E J L M O T b3 U = some (r1, r2, r3, r4, r5, r6, r7, r8, r9, d7, d8, d9)) ∧ Aside0 (kq ≤ k) ∧ Aside0 (Kd.R k72 72 w' w.heap.size (fun _ => True) (.slice X D.length Z) D) ∧ Aside0 (Kd.R k74 74 w' w.heap.size (fun _ => True) (.slice Y E.length a0) E) ∧ Aside0 (Kd.R k88 88 w' w.heap.size (fun _ => True) a9 b3) ∧ Aside0 (w'.heap[s]? = some (.cells #[iv_ 0, (.slice none 0 0), (.slice none 0 0), iv_ 0, iv_ 0, iv_ 0, iv_ 0, iv_ 0, (.slice none 0 0), iv_ 0] 28 (0, 0))) ∧ Aside0 (w'.heap[l]? = some (.cells #[iv_ I, (.slice X D.length Z), (.slice Y E.length a0), iv_ J, iv_ L, iv_ M, iv_ O, iv_ T, a9, iv_ U] 28 (0, 0))) ∧ Aside0 (IsS102 x w' g y b6 b7) ∧ Aside0 (KeepBut w w' g none) ∧ Aside0 (Below x.heap.size x w'))
 case atStart => exact ⟨(h7), (h8), (h9), (b8), (.slice c0 b8.length d3), (by first | rfl | (simp; done) | (simp [*]; done)), H', ⟨Nat.le_refl _⟩, ⟨ra_ a6⟩, ⟨ra_ a7⟩, ⟨by (with_reducible repeat (first | apply Kd.R_alloc | apply Kd.R_drewN | apply Kd.R_drew)); exact Kd.R_mono d5.out (fun _ hk => trivial)⟩, ⟨by (with_reducible repeat (first | refine blk_drewN ?_ _ | refine blk_drew ?_ | refine blk_alloc ?_ _)); exact u.out⟩, ⟨by (with_reducible repeat (first | refine blk_drewN ?_ _ | refine blk_drew ?_ | refine blk_alloc ?_ _)); exact m.out⟩, ⟨by repeat (first | (with_reducible first | exact j.out | apply IsS102.alloc | apply IsS102.drewN | apply IsS102.drew | apply IsS102.set_1 | apply IsS102.set_2 | refine IsS102.far ?_ z.out _ | refine IsS102.far ?_ B.out _) | exact j.out)⟩, ⟨by repeat (first | (with_reducible first | exact HK.out | apply KeepBut.set_ | apply keep_drewN | apply keep_drew | apply keep_alloc | refine keep_far ?_ a1.out _ | refine keep_far ?_ a5.out _) | exact HK.out)⟩, ⟨by repeat (first | (with_reducible first | exact HB.out | apply below_alloc | apply pw_below_drewN | apply below_drew1 | refine below_set ?_ (IsS102.ge j.out) | refine below_set ?_ a4.out | refine below_set ?_ b2.out) | exact HB.out)⟩⟩
 case round =>
  clear H'
  obtain ⟨b4, b6, b7, b3, a9, rfl, HA, g7, a2, a3, G, u, m, j, HK, HB⟩ := hrel
  cases gk with
  | zero => exact absurd HA.out (by simp [spec_l10Sky.l0])
  | succ k1 =>
   have H := HA.out
   clear HA
   simp only [spec_l10Sky.l0] at H
   by_cases d1 : b4 > 0
   ·rw [if_pos d1] at H
    have j0 : decide (0 < b4) = true := decide_eq_true d1
    clear d1
    replace H := bs_ H
    obtain ⟨⟨f0, f1, f2⟩, i3, H⟩ := H
    dsimp only at H
    replace H := bs_ H
    obtain ⟨⟨f3, f4, f5⟩, i5, H⟩ := H
    dsimp only at H
    replace H := bs_ H
    obtain ⟨⟨f6, g5, g6⟩, i6, H⟩ := H
    dsimp only at H
    replace H := ifn_ H
    obtain ⟨h1, H⟩ := H
    have i8 := Aside0.mk h1
    clear h1
    replace H : ∃ y_ : List S88, Aside0 (y_ = (b3 ++ [(⟨f0, (⟨wrap64 (10 * f3), wrap64 (10 * f6)⟩ : S35)⟩ : S88)])) ∧ (spec_l10Sky.l0 k1 (wrap64 (b4 - 1)) y g5 g6 I D E J L M O T y_ U) = some (r1, r2, r3, r4, r5, r6, r7, r8, r9, d7, d8, d9) := ⟨_, ⟨rfl⟩, yh_ H⟩
    obtain ⟨f7, i9, H⟩ := H
    have H' := Aside0.mk H
    clear H
    try go_wp2
    refine sh8_ (Kd.R_drew a2.out) (Kd.R_drew a3.out) (Kd.R_drew G.out) (blk_drew u.out) (blk_drew m.out) (IsS102.drew j.out) (keep_drew HK.out) (below_drew1 HB.out) ?_
    clear a2 a3 G u m j HK HB
    intro a2 a3 G u m j HK HB
    refine start_ (n := 16) (S := fun w' => Cz10 w' l (iv_ I) (.slice X D.length Z) (.slice Y E.length a0) (iv_ J) (iv_ L) (iv_ M) (iv_ O) (iv_ T) (a9) (iv_ U)) (ds := [15]) (bo_ 16 0) (by kernel_rfl) rfl rfl (cz10_ m) (fun hHeld => ?_); refine with_tabW spec_l10Sky.tab6 spec_l10Sky.bits6 (fun HT_ HW_ => ?_)
    generalize wr.drew = n1 at a2 a3 G u m j HK HB hHeld ⊢
    refine pur_ 0 (bo_ 16 1) (some 15) HT_ ?_
    refine pur_ 2 (bo_ 16 5) (some 17) HT_ ?_
    refine pur_ 4 (bo_ 16 21) (some 19) HT_ ?_
    refine pur_ 7 (bo_ 16 149) (some 22) HT_ ?_
    refine tak_ 1 (bo_ 16 151) (some 16) HT_ HW_ hHeld ?_
    refine one_ (i := 3) (N := some 18) (bo_ 16 159) rfl rfl (one_of HT_.out (by kernel_rfl)) (by decide) (fun K hK => ?_)
    refine goes_ Try.func60 (by kernel_rfl) rfl #[.pointer (some ⟨g, 0, none⟩), iv_ 2] (by rfl) rfl rfl mp_ ?_
    with_reducible refine (spec_l1Below.calls g y b6 b7 2 f0 f1 f2 x _ ?side1 ?side2 i3.out).mono ?_
    (case side1 => repeat (first | (with_reducible first | exact j.out | apply IsS102.alloc | apply IsS102.drewN | apply IsS102.drew | apply IsS102.set_1 | apply IsS102.set_2 | refine IsS102.far ?_ z.out _ | refine IsS102.far ?_ B.out _) | exact j.out))
    (case side2 => repeat (first | (with_reducible first | exact HB.out | apply below_alloc | apply pw_below_drewN | apply below_drew1 | refine below_set ?_ (IsS102.ge j.out) | refine below_set ?_ a4.out | refine below_set ?_ b2.out) | exact HB.out))
    rintro e n2 ⟨rfl, hi, hb, hk⟩
    refine ⟨_, rfl, sh8_ (Kd.R_mono (Kd.R_keep (IsS102.apart (show IsS102 x _ g y b6 b7 from by repeat (first | (with_reducible first | exact j.out | apply IsS102.alloc | apply IsS102.drewN | apply IsS102.drew | apply IsS102.set_1 | apply IsS102.set_2 | refine IsS102.far ?_ z.out _ | refine IsS102.far ?_ B.out _) | exact j.out)) (ra_ a2) (by decide)) hk (fun _ h => h.2)) (fun _ h => h.1)) (Kd.R_mono (Kd.R_keep (IsS102.apart (show IsS102 x _ g y b6 b7 from by repeat (first | (with_reducible first | exact j.out | apply IsS102.alloc | apply IsS102.drewN | apply IsS102.drew | apply IsS102.set_1 | apply IsS102.set_2 | refine IsS102.far ?_ z.out _ | refine IsS102.far ?_ B.out _) | exact j.out)) (ra_ a3) (by decide)) hk (fun _ h => h.2)) (fun _ h => h.1)) (Kd.R_mono (Kd.R_keep (IsS102.apart (show IsS102 x _ g y b6 b7 from by repeat (first | (with_reducible first | exact j.out | apply IsS102.alloc | apply IsS102.drewN | apply IsS102.drew | apply IsS102.set_1 | apply IsS102.set_2 | refine IsS102.far ?_ z.out _ | refine IsS102.far ?_ B.out _) | exact j.out)) (ra_ G) (by decide)) hk (fun _ h => h.2)) (fun _ h => h.1)) (KeepBut.blk hk (g' := s) (o := .cells #[iv_ 0, .slice none 0 0, .slice none 0 0, iv_ 0, iv_ 0, iv_ 0, iv_ 0, iv_ 0, .slice none 0 0, iv_ 0] 28 (0, 0)) (bk_ u) c1.out (by simp)) (KeepBut.blk hk (g' := l) (o := .cells #[iv_ I, .slice X D.length Z, .slice Y E.length a0, iv_ J, iv_ L, iv_ M, iv_ O, iv_ T, a9, iv_ U] 28 (0, 0)) (bk_ m) d0.out (by simp)) (KeepBut.trans (by repeat (first | (with_reducible first | exact HK.out | apply KeepBut.set_ | apply keep_drewN | apply keep_drew | apply keep_alloc | refine keep_far ?_ a1.out _ | refine keep_far ?_ a5.out _) | exact HK.out)) hk (.inl rfl)) hb hi ?_⟩
    clear a2 a3 G u m HK HB j hb hk hi
    intro a2 a3 G u m HK HB j
    refine hK.out _ _ (cz10_ m) (fun hHeld => ?_)
    clear hK K
    refine norm_ (show Act.put _ (some 18) _ = _ from pt_) ?_
    refine one_ (i := 5) (N := some 20) (bo_ 16 191) rfl rfl (one_of HT_.out (by kernel_rfl)) (by decide) (fun K hK => ?_)
    refine goes_ Try.func60 (by kernel_rfl) rfl #[.pointer (some ⟨g, 0, none⟩), iv_ 36] (by rfl) rfl rfl mp_ ?_
    with_reducible refine (spec_l1Below.calls g y f1 f2 36 f3 f4 f5 x _ ?side1 ?side2 i5.out).mono ?_
    (case side1 => repeat (first | (with_reducible first | exact j.out | apply IsS102.alloc | apply IsS102.drewN | apply IsS102.drew | apply IsS102.set_1 | apply IsS102.set_2 | refine IsS102.far ?_ z.out _ | refine IsS102.far ?_ B.out _) | exact j.out))
    (case side2 => repeat (first | (with_reducible first | exact HB.out | apply below_alloc | apply pw_below_drewN | apply below_drew1 | refine below_set ?_ (IsS102.ge j.out) | refine below_set ?_ a4.out | refine below_set ?_ b2.out) | exact HB.out))
    rintro e n3 ⟨rfl, hi, hb, hk⟩
    refine ⟨_, rfl, sh8_ (Kd.R_mono (Kd.R_keep (IsS102.apart (show IsS102 x _ g y f1 f2 from by repeat (first | (with_reducible first | exact j.out | apply IsS102.alloc | apply IsS102.drewN | apply IsS102.drew | apply IsS102.set_1 | apply IsS102.set_2 | refine IsS102.far ?_ z.out _ | refine IsS102.far ?_ B.out _) | exact j.out)) (ra_ a2) (by decide)) hk (fun _ h => h.2)) (fun _ h => h.1)) (Kd.R_mono (Kd.R_keep (IsS102.apart (show IsS102 x _ g y f1 f2 from by repeat (first | (with_reducible first | exact j.out | apply IsS102.alloc | apply IsS102.drewN | apply IsS102.drew | apply IsS102.set_1 | apply IsS102.set_2 | refine IsS102.far ?_ z.out _ | refine IsS102.far ?_ B.out _) | exact j.out)) (ra_ a3) (by decide)) hk (fun _ h => h.2)) (fun _ h => h.1)) (Kd.R_mono (Kd.R_keep (IsS102.apart (show IsS102 x _ g y f1 f2 from by repeat (first | (with_reducible first | exact j.out | apply IsS102.alloc | apply IsS102.drewN | apply IsS102.drew | apply IsS102.set_1 | apply IsS102.set_2 | refine IsS102.far ?_ z.out _ | refine IsS102.far ?_ B.out _) | exact j.out)) (ra_ G) (by decide)) hk (fun _ h => h.2)) (fun _ h => h.1)) (KeepBut.blk hk (g' := s) (o := .cells #[iv_ 0, .slice none 0 0, .slice none 0 0, iv_ 0, iv_ 0, iv_ 0, iv_ 0, iv_ 0, .slice none 0 0, iv_ 0] 28 (0, 0)) (bk_ u) c1.out (by simp)) (KeepBut.blk hk (g' := l) (o := .cells #[iv_ I, .slice X D.length Z, .slice Y E.length a0, iv_ J, iv_ L, iv_ M, iv_ O, iv_ T, a9, iv_ U] 28 (0, 0)) (bk_ m) d0.out (by simp)) (KeepBut.trans (by repeat (first | (with_reducible first | exact HK.out | apply KeepBut.set_ | apply keep_drewN | apply keep_drew | apply keep_alloc | refine keep_far ?_ a1.out _ | refine keep_far ?_ a5.out _) | exact HK.out)) hk (.inl rfl)) hb hi ?_⟩
    clear a2 a3 G u m HK HB j hb hk hi
    intro a2 a3 G u m HK HB j
    refine hK.out _ _ (cz10_ m) (fun hHeld => ?_)
    clear hK K
    refine norm_ (show Act.put _ (some 20) _ = _ from pt_) ?_
    refine pur_ 6 (bo_ 16 255) (some 21) HT_ ?_
    refine one_ (i := 8) (N := some 23) (bo_ 16 511) rfl rfl (one_of HT_.out (by kernel_rfl)) (by decide) (fun K hK => ?_)
    refine goes_ Try.func60 (by kernel_rfl) rfl #[.pointer (some ⟨g, 0, none⟩), iv_ 8] (by rfl) rfl rfl mp_ ?_
    with_reducible refine (spec_l1Below.calls g y f4 f5 8 f6 g5 g6 x _ ?side1 ?side2 i6.out).mono ?_
    (case side1 => repeat (first | (with_reducible first | exact j.out | apply IsS102.alloc | apply IsS102.drewN | apply IsS102.drew | apply IsS102.set_1 | apply IsS102.set_2 | refine IsS102.far ?_ z.out _ | refine IsS102.far ?_ B.out _) | exact j.out))
    (case side2 => repeat (first | (with_reducible first | exact HB.out | apply below_alloc | apply pw_below_drewN | apply below_drew1 | refine below_set ?_ (IsS102.ge j.out) | refine below_set ?_ a4.out | refine below_set ?_ b2.out) | exact HB.out))
    rintro e n4 ⟨rfl, hi, hb, hk⟩
    refine ⟨_, rfl, sh8_ (Kd.R_mono (Kd.R_keep (IsS102.apart (show IsS102 x _ g y f4 f5 from by repeat (first | (with_reducible first | exact j.out | apply IsS102.alloc | apply IsS102.drewN | apply IsS102.drew | apply IsS102.set_1 | apply IsS102.set_2 | refine IsS102.far ?_ z.out _ | refine IsS102.far ?_ B.out _) | exact j.out)) (ra_ a2) (by decide)) hk (fun _ h => h.2)) (fun _ h => h.1)) (Kd.R_mono (Kd.R_keep (IsS102.apart (show IsS102 x _ g y f4 f5 from by repeat (first | (with_reducible first | exact j.out | apply IsS102.alloc | apply IsS102.drewN | apply IsS102.drew | apply IsS102.set_1 | apply IsS102.set_2 | refine IsS102.far ?_ z.out _ | refine IsS102.far ?_ B.out _) | exact j.out)) (ra_ a3) (by decide)) hk (fun _ h => h.2)) (fun _ h => h.1)) (Kd.R_mono (Kd.R_keep (IsS102.apart (show IsS102 x _ g y f4 f5 from by repeat (first | (with_reducible first | exact j.out | apply IsS102.alloc | apply IsS102.drewN | apply IsS102.drew | apply IsS102.set_1 | apply IsS102.set_2 | refine IsS102.far ?_ z.out _ | refine IsS102.far ?_ B.out _) | exact j.out)) (ra_ G) (by decide)) hk (fun _ h => h.2)) (fun _ h => h.1)) (KeepBut.blk hk (g' := s) (o := .cells #[iv_ 0, .slice none 0 0, .slice none 0 0, iv_ 0, iv_ 0, iv_ 0, iv_ 0, iv_ 0, .slice none 0 0, iv_ 0] 28 (0, 0)) (bk_ u) c1.out (by simp)) (KeepBut.blk hk (g' := l) (o := .cells #[iv_ I, .slice X D.length Z, .slice Y E.length a0, iv_ J, iv_ L, iv_ M, iv_ O, iv_ T, a9, iv_ U] 28 (0, 0)) (bk_ m) d0.out (by simp)) (KeepBut.trans (by repeat (first | (with_reducible first | exact HK.out | apply KeepBut.set_ | apply keep_drewN | apply keep_drew | apply keep_alloc | refine keep_far ?_ a1.out _ | refine keep_far ?_ a5.out _) | exact HK.out)) hk (.inl rfl)) hb hi ?_⟩
    clear a2 a3 G u m HK HB j hb hk hi
    intro a2 a3 G u m HK HB j
    refine hK.out _ _ (cz10_ m) (fun hHeld => ?_)
    clear hK K
    refine norm_ (show Act.put _ (some 23) _ = _ from pt_) ?_
    refine pur_ 9 (bo_ 16 1023) (some 24) HT_ ?_
    refine pur_ 10 (bo_ 16 2047) (some 25) HT_ ?_
    refine pur_ 11 (bo_ 16 4095) (some 26) HT_ ?_
    refine one_ (i := 12) (N := some 27) (bo_ 16 8191) rfl rfl (one_of HT_.out (by kernel_rfl)) (by decide) (fun K hK => ?_)
    refine value_ (w1 := ?_) (v := ?_) (by rfl) rfl ?_ ?_
    rotate_left 2
    ·go_simp
     constructor
     ·rfl
     ·rfl
    refine hK.out _ _ ⟨(blk_cell (blk_alloc m.out _) 0).trans rfl, (blk_cell (blk_alloc m.out _) 1).trans rfl, (blk_cell (blk_alloc m.out _) 2).trans rfl, (blk_cell (blk_alloc m.out _) 3).trans rfl, (blk_cell (blk_alloc m.out _) 4).trans rfl, (blk_cell (blk_alloc m.out _) 5).trans rfl, (blk_cell (blk_alloc m.out _) 6).trans rfl, (blk_cell (blk_alloc m.out _) 7).trans rfl, (blk_cell (blk_alloc m.out _) 8).trans rfl, (blk_cell (blk_alloc m.out _) 9).trans rfl⟩ (fun hHeld => ?_)
    clear hK K
    refine norm_ (show Act.put _ (some 27) _ = _ from pt_) ?_
    refine one_ (i := 13) (N := some 28) (bo_ 16 16383) rfl rfl (one_of HT_.out (by kernel_rfl)) (by decide) (fun K hK => ?_)
    refine Kd.R_append_step k88 w.heap.size (by rfl) (.tmp 16) (.tmp 27) 26 88 (.agg #[(iv_ 0), (iv_ 0), (iv_ 0)]) 24 rfl Try.underlying26 info88 rfl (by decide) (by omega) a9 b3 (⟨f0, (⟨wrap64 (10 * f3), wrap64 (10 * f6)⟩ : S35)⟩ : S88) [iv_ f0, iv_ (wrap64 (10 * f3)), iv_ (wrap64 (10 * f6))] (fun _ => True) (fun _ => False) rfl rfl ?aP (fun _ hk => hk.elim) ?aF ?aO (Below.refl _ _) ?aS ?aL ?_
    (case aP => exact k88_mkM _ _ _ (⟨f0, (⟨wrap64 (10 * f3), wrap64 (10 * f6)⟩ : S35)⟩ : S88))
    (case aF => exact (fun _ _ => trivial))
    (case aO => exact (ra_ G))
    (case aS => exact (keep_size (w := w) (g := g) (row := none) (by repeat (first | (with_reducible first | exact HK.out | apply KeepBut.set_ | apply keep_drewN | apply keep_drew | apply keep_alloc | refine keep_far ?_ a1.out _ | refine keep_far ?_ a5.out _) | exact HK.out))))
    (case aL => have := i8.out; omega)
    intro m8 j9 ho hb hg hat
    rw [← i9.out] at ho
    refine sh8_ (Kd.R_over' (ra_ a2) (Kd.R_typed (ra_ G)) (by decide) hg) (Kd.R_over' (ra_ a3) (Kd.R_typed (ra_ G)) (by decide) hg) (blk_grown (g := s) (o := .cells #[iv_ 0, .slice none 0 0, .slice none 0 0, iv_ 0, iv_ 0, iv_ 0, iv_ 0, iv_ 0, .slice none 0 0, iv_ 0] 28 (0, 0)) (bk_ u) hg (Kd.R_ne G.out u.out (by decide))) (blk_grown (g := l) (o := .cells #[iv_ I, .slice X D.length Z, .slice Y E.length a0, iv_ J, iv_ L, iv_ M, iv_ O, iv_ T, a9, iv_ U] 28 (0, 0)) (bk_ m) hg (Kd.R_ne G.out m.out (by decide))) (IsS102.grown (by repeat (first | (with_reducible first | exact j.out | apply IsS102.alloc | apply IsS102.drewN | apply IsS102.drew | apply IsS102.set_1 | apply IsS102.set_2 | refine IsS102.far ?_ z.out _ | refine IsS102.far ?_ B.out _) | exact j.out)) hg (IsS102.own_ne j.out G.out (by decide))) (below_weaken (by repeat (first | (with_reducible first | exact HB.out | apply below_alloc | apply pw_below_drewN | apply below_drew1 | refine below_set ?_ (IsS102.ge j.out) | refine below_set ?_ a4.out | refine below_set ?_ b2.out) | exact HB.out)) HL.out hb) (KeepBut.trans (by repeat (first | (with_reducible first | exact HK.out | apply KeepBut.set_ | apply keep_drewN | apply keep_drew | apply keep_alloc | refine keep_far ?_ a1.out _ | refine keep_far ?_ a5.out _) | exact HK.out)) (KeepBut.of_grown hg g) (Kd.R_base2 G.out)) ho ?_
    clear a2 a3 u m j HB HK G ho hb hg hat
    intro a2 a3 u m j HB HK g8
    obtain ⟨f8, g1, h2⟩ := Kd.R_slice g8.out
    (first | subst h2 | (injection h2 with f1_ f2_ f3_; have j6 := f1_.symm; have j7 := f3_.symm; clear f1_ f2_ f3_; subst j6; subst j7))
    refine hK.out _ _ (cz10_ m) (fun hHeld => ?_)
    clear hK K
    refine norm_ (show Act.put _ (some 28) _ = _ from pt_) ?_
    refine pur_ 14 (bo_ 16 32767) (some 29) HT_ ?_
    refine last_ (i := 15) (N := none) (bo_ 16 65535) rfl rfl (one_of HT_.out (by kernel_rfl)) (by decide) (fun K hK => ?_)
    have m0 : j9.cell? ⟨l, 8, none⟩ = some (a9) := bc_ m 8 rfl
    have k6 := bf_ m 8
    have l9 := g0.out
    have k7 := g3.out
    refine skip_ (w1 := ?_) (by rfl) rfl ?_ ?_
    rotate_left
    ·go_simp
     rfl
    refine hK.out _ _ ?_
    clear hK K
    refine done_ (done_of HT_.out (by kernel_rfl)) ?_
    try go_wp2
    go_roundg k1
    case measure => have := g7.out; omega
    case rel => exact ⟨(wrap64 (b4 - 1)), (g5), (g6), (f7), (.slice f8 f7.length g1), (by first | rfl | (simp; done) | (simp [*]; done)), H', ⟨by have := g7.out; omega⟩, ⟨by (with_reducible repeat (first | apply Kd.R_alloc | apply Kd.R_drewN | apply Kd.R_drew)); exact Kd.R_mono (Kd.R_far (p := ⟨l, 8, none⟩) (Kd.R_types a2.out m.out (by decide)) (fun _ hk => hk.2) (.slice f8 f7.length g1)) (fun _ hk => trivial)⟩, ⟨by (with_reducible repeat (first | apply Kd.R_alloc | apply Kd.R_drewN | apply Kd.R_drew)); exact Kd.R_mono (Kd.R_far (p := ⟨l, 8, none⟩) (Kd.R_types a3.out m.out (by decide)) (fun _ hk => hk.2) (.slice f8 f7.length g1)) (fun _ hk => trivial)⟩, ⟨by (with_reducible repeat (first | apply Kd.R_alloc | apply Kd.R_drewN | apply Kd.R_drew)); exact Kd.R_mono (Kd.R_far (p := ⟨l, 8, none⟩) (Kd.R_types g8.out m.out (by decide)) (fun _ hk => hk.2) (.slice f8 f7.length g1)) (fun _ hk => trivial)⟩, ⟨by (with_reducible repeat (first | refine blk_drewN ?_ _ | refine blk_drew ?_ | refine blk_alloc ?_ _)); refine blk_far ?_ g0.out _; (with_reducible repeat (first | refine blk_drewN ?_ _ | refine blk_drew ?_ | refine blk_alloc ?_ _)); exact u.out⟩, ⟨by (with_reducible repeat (first | refine blk_drewN ?_ _ | refine blk_drew ?_ | refine blk_alloc ?_ _)); refine blk_put (cs := #[iv_ I, .slice X D.length Z, .slice Y E.length a0, iv_ J, iv_ L, iv_ M, iv_ O, iv_ T, a9, iv_ U]) ?_ 8 _ rfl; (with_reducible repeat (first | refine blk_drewN ?_ _ | refine blk_drew ?_ | refine blk_alloc ?_ _)); exact m.out⟩, ⟨by repeat (first | (with_reducible first | exact j.out | apply IsS102.alloc | apply IsS102.drewN | apply IsS102.drew | apply IsS102.set_1 | apply IsS102.set_2 | refine IsS102.far ?_ z.out _ | refine IsS102.far ?_ B.out _) | exact j.out)⟩, ⟨by repeat (first | (with_reducible first | exact HK.out | apply KeepBut.set_ | apply keep_drewN | apply keep_drew | apply keep_alloc | refine keep_far ?_ a1.out _ | refine keep_far ?_ a5.out _) | exact HK.out)⟩, ⟨by repeat (first | (with_reducible first | exact HB.out | apply below_alloc | apply pw_below_drewN | apply below_drew1 | refine below_set ?_ (IsS102.ge j.out) | refine below_set ?_ a4.out | refine below_set ?_ b2.out) | exact HB.out)⟩⟩
   ·rw [if_neg d1] at H
    have j0 : decide (0 < b4) = false := decide_eq_false d1
    clear d1
    simp only [Option.some.injEq, Prod.mk.injEq] at H
    obtain ⟨rfl, rfl, rfl, rfl, rfl, rfl, rfl, rfl, rfl, rfl, rfl, rfl⟩ := H
    have k8 := g3.out
    have l4 := g0.out
    have k9 := d0.out
    have l5 := B.out
    have k3 := cf10_ m
    have l1 := c1.out
    have l6 := z.out
    have k4 := cf10_ u
    obtain ⟨f9, g2, j5⟩ := Kd.R_slice G.out
    subst j5
    go_wp2
    refine bodyPost_ret (results_cell_row rfl _ _ s 28 #[iv_ I, .slice X D.length Z, .slice Y E.length a0, iv_ J, iv_ L, iv_ M, iv_ O, iv_ T, .slice f9 b3.length g2, iv_ U] (0, 0) _ rfl (bp_ u) Try.underlying28 rfl (by kernel_rfl)) rfl ?_
    exact ⟨_, _, _, by first | (rw [hRT_.out]; rfl) | exact er_, by (with_reducible repeat (first | apply Kd.R_alloc | apply Kd.R_drewN | apply Kd.R_drew)); exact Kd.R_mono (Kd.R_far (p := ⟨s, 9, none⟩) (Kd.R_far (p := ⟨s, 8, none⟩) (Kd.R_far (p := ⟨s, 7, none⟩) (Kd.R_far (p := ⟨s, 6, none⟩) (Kd.R_far (p := ⟨s, 5, none⟩) (Kd.R_far (p := ⟨s, 4, none⟩) (Kd.R_far (p := ⟨s, 3, none⟩) (Kd.R_far (p := ⟨s, 2, none⟩) (Kd.R_far (p := ⟨s, 1, none⟩) (Kd.R_far (p := ⟨s, 0, none⟩) (Kd.R_types a2.out u.out (by decide)) (fun _ hk => hk.2) (iv_ I)) (fun _ hk => hk.2) (.slice X D.length Z)) (fun _ hk => hk.2) (.slice Y E.length a0)) (fun _ hk => hk.2) (iv_ J)) (fun _ hk => hk.2) (iv_ L)) (fun _ hk => hk.2) (iv_ M)) (fun _ hk => hk.2) (iv_ O)) (fun _ hk => hk.2) (iv_ T)) (fun _ hk => hk.2) (.slice f9 b3.length g2)) (fun _ hk => hk.2) (iv_ U)) (fun _ hk => trivial), by (with_reducible repeat (first | apply Kd.R_alloc | apply Kd.R_drewN | apply Kd.R_drew)); exact Kd.R_mono (Kd.R_far (p := ⟨s, 9, none⟩) (Kd.R_far (p := ⟨s, 8, none⟩) (Kd.R_far (p := ⟨s, 7, none⟩) (Kd.R_far (p := ⟨s, 6, none⟩) (Kd.R_far (p := ⟨s, 5, none⟩) (Kd.R_far (p := ⟨s, 4, none⟩) (Kd.R_far (p := ⟨s, 3, none⟩) (Kd.R_far (p := ⟨s, 2, none⟩) (Kd.R_far (p := ⟨s, 1, none⟩) (Kd.R_far (p := ⟨s, 0, none⟩) (Kd.R_types a3.out u.out (by decide)) (fun _ hk => hk.2) (iv_ I)) (fun _ hk => hk.2) (.slice X D.length Z)) (fun _ hk => hk.2) (.slice Y E.length a0)) (fun _ hk => hk.2) (iv_ J)) (fun _ hk => hk.2) (iv_ L)) (fun _ hk => hk.2) (iv_ M)) (fun _ hk => hk.2) (iv_ O)) (fun _ hk => hk.2) (iv_ T)) (fun _ hk => hk.2) (.slice f9 b3.length g2)) (fun _ hk => hk.2) (iv_ U)) (fun _ hk => trivial), by (with_reducible repeat (first | apply Kd.R_alloc | apply Kd.R_drewN | apply Kd.R_drew)); exact Kd.R_mono (Kd.R_far (p := ⟨s, 9, none⟩) (Kd.R_far (p := ⟨s, 8, none⟩) (Kd.R_far (p := ⟨s, 7, none⟩) (Kd.R_far (p := ⟨s, 6, none⟩) (Kd.R_far (p := ⟨s, 5, none⟩) (Kd.R_far (p := ⟨s, 4, none⟩) (Kd.R_far (p := ⟨s, 3, none⟩) (Kd.R_far (p := ⟨s, 2, none⟩) (Kd.R_far (p := ⟨s, 1, none⟩) (Kd.R_far (p := ⟨s, 0, none⟩) (Kd.R_types G.out u.out (by decide)) (fun _ hk => hk.2) (iv_ I)) (fun _ hk => hk.2) (.slice X D.length Z)) (fun _ hk => hk.2) (.slice Y E.length a0)) (fun _ hk => hk.2) (iv_ J)) (fun _ hk => hk.2) (iv_ L)) (fun _ hk => hk.2) (iv_ M)) (fun _ hk => hk.2) (iv_ O)) (fun _ hk => hk.2) (iv_ T)) (fun _ hk => hk.2) (.slice f9 b3.length g2)) (fun _ hk => hk.2) (iv_ U)) (fun _ hk => trivial), by repeat (first | (with_reducible first | exact j.out | apply IsS102.alloc | apply IsS102.drewN | apply IsS102.drew | apply IsS102.set_1 | apply IsS102.set_2 | refine IsS102.far ?_ z.out _ | refine IsS102.far ?_ B.out _) | exact j.out), by repeat (first | (with_reducible first | exact HB.out | apply below_alloc | apply pw_below_drewN | apply below_drew1 | refine below_set ?_ (IsS102.ge j.out) | refine below_set ?_ a4.out | refine below_set ?_ b2.out) | exact HB.out), by repeat (first | (with_reducible first | exact HK.out | apply KeepBut.set_ | apply keep_drewN | apply keep_drew | apply keep_alloc | refine keep_far ?_ a1.out _ | refine keep_far ?_ a5.out _) | exact HK.out)⟩

/-! ### spec_DrawQuietSpans: function 68 -/
def spec_DrawQuietSpans.f (k : Nat) (x : List Int) : Option (Int × List S72 × List S74 × Int × Int × Int × Int × Int × List S88 × Int × Int × Int × Int) := (spec_l1New.f k x).bind fun l => ((spec_l10Sky.f k l.1 l.2.1 l.2.2).bind fun j => ((spec_l1Below.f l.1 j.2.2.2.2.2.2.2.2.2.2.1 j.2.2.2.2.2.2.2.2.2.2.2 8).bind fun s => ((spec_l1Below.f l.1 s.2.1 s.2.2 20).bind fun m => ((spec_l1Below.f l.1 m.2.1 m.2.2 40).bind fun u => (some (j.1, j.2.1, j.2.2.1, j.2.2.2.1, j.2.2.2.2.1, j.2.2.2.2.2.1, j.2.2.2.2.2.2.1, j.2.2.2.2.2.2.2.1, j.2.2.2.2.2.2.2.2.1, j.2.2.2.2.2.2.2.2.2.1, s.1, wrap64 (m.1 - 2), wrap64 ((wrap64 (m.1 - 2)) + u.1)))))))
def spec_DrawQuietSpans.T5 : Bool × List (List Nat × List Nat) := (true, [([], []), ([], []), ([], []), ([], []), ([], []), ([4], [4]), ([3, 5], [3, 5]), ([0, 5, 0], [0]), ([1, 7, 0, 1, 7], [1]), ([2, 8, 0, 1, 2, 7, 8], [2]), ([6, 9, 0, 1, 2, 3, 4, 5, 6, 7, 8, 9], [6])])
def spec_DrawQuietSpans.B5 : List Nat := [0, 0, 0, 0, 0, 16, 56, 49, 179, 439, 1023]
theorem spec_DrawQuietSpans.tab5 : rtab .any (opsOf Try.f68 5) = spec_DrawQuietSpans.T5 := by kernel_rfl
theorem spec_DrawQuietSpans.bits5 : waitsOk spec_DrawQuietSpans.T5.2 spec_DrawQuietSpans.B5 = true := by kernel_rfl
theorem spec_DrawQuietSpans.calls (k : Nat) (A0 : Option Addr) (c0 : Nat) (l0 : List Int) (r1 : Int) (r2 : List S72) (r3 : List S74) (r4 r5 r6 r7 r8 : Int) (r9 : List S88) (d8 d9 e0 e1 : Int) (w : World) (d6 : Kd.C (Kd.int .u8) w A0 l0.length l0) (d2 : l0.length ≤ c0) (h : spec_DrawQuietSpans.f k l0 = some (r1, r2, r3, r4, r5, r6, r7, r8, r9, d8, d9, e0, e1)) :
  Calls Try.prog 68 #[.slice A0 l0.length c0] w fun e w' => ∃ f2 f3 f4 : Value, e = .returned (.tuple #[.agg #[iv_ r1, f2, f3, iv_ r4, iv_ r5, iv_ r6, iv_ r7, iv_ r8, f4, iv_ d8], iv_ d9, iv_ e0, iv_ e1]) ∧ Kd.R k72 72 w' w.heap.size (fun _ => True) f2 r2 ∧ Kd.R k74 74 w' w.heap.size (fun _ => True) f3 r3 ∧ Kd.R k88 88 w' w.heap.size (fun _ => True) f4 r9 ∧ Below w.heap.size w w' := by
 have l8 := Try.underlying28
 have g1 := Aside0.mk d6
 have g0 := Aside0.mk d2
 clear d6 d2
 have HB := Aside0.mk (Below.refl w.heap.size w)
 have H := h
 clear h
 unfold spec_DrawQuietSpans.f at H
 replace H := bs_ H
 obtain ⟨⟨G, f0, f1⟩, A2, H⟩ := H
 dsimp only at H
 replace H := bs_ H
 obtain ⟨⟨L, M, O, T, U, X, Y, Z, a0, a1, b1, b2⟩, A3, H⟩ := H
 dsimp only at H
 replace H := bs_ H
 obtain ⟨⟨g5, b3, b4⟩, A4, H⟩ := H
 dsimp only at H
 replace H := bs_ H
 obtain ⟨⟨g6, b5, b6⟩, A5, H⟩ := H
 dsimp only at H
 replace H := bs_ H
 obtain ⟨⟨g7, g8, g9⟩, A6, H⟩ := H
 dsimp only at H
 simp only [Option.some.injEq, Prod.mk.injEq] at H
 obtain ⟨rfl, rfl, rfl, rfl, rfl, rfl, rfl, rfl, rfl, rfl, rfl, rfl, rfl⟩ := H
 go_enter Try.func68, Try.ntmps68
 try go_wp2_with (first | ((with_reducible refine gd_ 2 ?_); refine bx_ 2 28 #[iv_ 0, .slice none 0 0, .slice none 0 0, iv_ 0, iv_ 0, iv_ 0, iv_ 0, iv_ 0, .slice none 0 0, iv_ 0] ?_; intro j hg w7 hbox hb; refine sh3_ (below_step (bl_ HB) hb) hbox (ge_ hg (bl_ HB)) ?_; clear HB hb hbox hg; intro HB s J) | ((with_reducible refine gate_callee (f := 49) rfl ?_); refine goesL_ (some 11) rfl rfl Try.func49 (by kernel_rfl) rfl #[.slice A0 l0.length c0] rfl mp_ ?_; (with_reducible refine (spec_l1New.calls k _ _ l0 G f0 f1 w _ ?side1 ?side2 ?side3 A2.out).mono ?_); (case side1 => repeat (first | (with_reducible first | exact HB.out | apply below_alloc | apply pw_below_drewN | apply below_drew1 | refine below_set ?_ J.out) | exact HB.out)); (case side2 => exact g1.out); (case side3 => exact g0.out); rintro e w8 ⟨x, rfl, hi, hb, c1⟩; refine ⟨_, rfl, sh5_ (blk_below (bk_ s) c1) hb hi (IsS102.ne_blk hi (blk_below (bk_ s) c1) (by decide)) (Ne.symm (IsS102.ne_blk hi (blk_below (bk_ s) c1) (by decide))) ?_⟩; clear s HB hb c1 hi; intro s HB m E b8) | ((with_reducible refine gate_callee (f := 76) rfl ?_); refine goesL_ (some 13) rfl rfl Try.func76 (by kernel_rfl) rfl #[.pointer (some ⟨x, 0, none⟩)] rfl mp_ ?_; (with_reducible refine (spec_l10Sky.calls k x G f0 f1 L M O T U X Y Z a0 a1 b1 b2 w _ ?side1 ?side2 A3.out).mono ?_); (case side1 => repeat (first | (with_reducible first | exact m.out | apply IsS102.alloc | apply IsS102.drewN | apply IsS102.drew | apply IsS102.set_1 | apply IsS102.set_2 | refine IsS102.far ?_ E.out _) | exact m.out)); (case side2 => repeat (first | (with_reducible first | exact HB.out | apply below_alloc | apply pw_below_drewN | apply below_drew1 | refine below_set ?_ (IsS102.ge m.out) | refine below_set ?_ J.out) | exact HB.out)); rintro e w9 ⟨l9, m0, m1, rfl, d3, d4, d5, hi, hb, hk⟩; refine ⟨_, rfl, sh6_ (KeepBut.blk hk (g' := j) (o := .cells #[iv_ 0, .slice none 0 0, .slice none 0 0, iv_ 0, iv_ 0, iv_ 0, iv_ 0, iv_ 0, .slice none 0 0, iv_ 0] 28 (0, 0)) (bk_ s) b8.out (by simp)) (Kd.R_lower d3 (below_size (by repeat (first | (with_reducible first | exact HB.out | apply below_alloc | apply pw_below_drewN | apply below_drew1 | refine below_set ?_ (IsS102.ge m.out) | refine below_set ?_ J.out) | exact HB.out)))) (Kd.R_lower d4 (below_size (by repeat (first | (with_reducible first | exact HB.out | apply below_alloc | apply pw_below_drewN | apply below_drew1 | refine below_set ?_ (IsS102.ge m.out) | refine below_set ?_ J.out) | exact HB.out)))) (Kd.R_lower d5 (below_size (by repeat (first | (with_reducible first | exact HB.out | apply below_alloc | apply pw_below_drewN | apply below_drew1 | refine below_set ?_ (IsS102.ge m.out) | refine below_set ?_ J.out) | exact HB.out)))) hb hi ?_⟩; clear s HB m hb hk hi d3 d4 d5; intro s z B D HB m) | ((with_reducible refine gd_ 7 ?_); refine bx_ 7 28 #[iv_ 0, .slice none 0 0, .slice none 0 0, iv_ 0, iv_ 0, iv_ 0, iv_ 0, iv_ 0, .slice none 0 0, iv_ 0] ?_; intro u hg m2 hbox hb; refine sh13_ (Kd.R_below (ra_ z) hb) (Kd.R_below (ra_ B) hb) (Kd.R_below (ra_ D) hb) (blk_below (bk_ s) hb) (IsS102.below (by repeat (first | (with_reducible first | exact m.out | apply IsS102.alloc | apply IsS102.drewN | apply IsS102.drew | apply IsS102.set_1 | apply IsS102.set_2 | refine IsS102.far ?_ E.out _) | exact m.out)) hb) (below_step (by repeat (first | (with_reducible first | exact HB.out | apply below_alloc | apply pw_below_drewN | apply below_drew1 | refine below_set ?_ (IsS102.ge m.out) | refine below_set ?_ J.out) | exact HB.out)) hb) hbox (ge_ hg (by repeat (first | (with_reducible first | exact HB.out | apply below_alloc | apply pw_below_drewN | apply below_drew1 | refine below_set ?_ (IsS102.ge m.out) | refine below_set ?_ J.out) | exact HB.out))) (ge_ hg (by repeat (first | (with_reducible first | exact HB.out | apply below_alloc | apply pw_below_drewN | apply below_drew1 | refine below_set ?_ (IsS102.ge m.out) | refine below_set ?_ J.out) | exact HB.out))) (nl_ hg (bk_ s)) (ng_ hg (bk_ s)) ((by rw [hg]; exact Nat.ne_of_lt (IsS102.lt (show IsS102 w _ x G b1 b2 from by repeat (first | (with_reducible first | exact m.out | apply IsS102.alloc | apply IsS102.drewN | apply IsS102.drew | apply IsS102.set_1 | apply IsS102.set_2 | refine IsS102.far ?_ E.out _) | exact m.out))) : x ≠ u)) ((by rw [hg]; exact Nat.ne_of_gt (IsS102.lt (show IsS102 w _ x G b1 b2 from by repeat (first | (with_reducible first | exact m.out | apply IsS102.alloc | apply IsS102.drewN | apply IsS102.drew | apply IsS102.set_1 | apply IsS102.set_2 | refine IsS102.far ?_ E.out _) | exact m.out))) : u ≠ x)) ?_; clear z B D s m HB hb hbox hg; intro z B D s m HB y h1 b7 a5 l I b9; have j3 := l.out; have j5 := a5.out; have j4 := b9.out; have j6 := I.out; have h2 := cf10_ y; obtain ⟨a2, a6, g2⟩ := Kd.R_slice z.out; subst g2; obtain ⟨a3, a7, g3⟩ := Kd.R_slice B.out; subst g3; obtain ⟨a4, a8, g4⟩ := Kd.R_slice D.out; subst g4) | ((with_reducible refine gate_callee (f := 60) rfl ?_); refine goesL_ (some 15) rfl rfl Try.func60 (by kernel_rfl) rfl #[.pointer (some ⟨x, 0, none⟩), iv_ 8] rfl mp_ ?_; (with_reducible refine (spec_l1Below.calls x G b1 b2 8 g5 b3 b4 w _ ?side1 ?side2 A4.out).mono ?_); (case side1 => repeat (first | (with_reducible first | exact m.out | apply IsS102.alloc | apply IsS102.drewN | apply IsS102.drew | apply IsS102.set_1 | apply IsS102.set_2 | refine IsS102.far ?_ E.out _ | refine IsS102.far ?_ I.out _) | exact m.out)); (case side2 => repeat (first | (with_reducible first | exact HB.out | apply below_alloc | apply pw_below_drewN | apply below_drew1 | refine below_set ?_ (IsS102.ge m.out) | refine below_set ?_ J.out | refine below_set ?_ b7.out) | exact HB.out)); rintro e m3 ⟨rfl, hi, hb, hk⟩; refine ⟨_, rfl, sh7_ (KeepBut.blk hk (g' := j) (o := .cells #[iv_ 0, .slice none 0 0, .slice none 0 0, iv_ 0, iv_ 0, iv_ 0, iv_ 0, iv_ 0, .slice none 0 0, iv_ 0] 28 (0, 0)) (bp_ s) b8.out (by simp)) (Kd.R_mono (Kd.R_keep (IsS102.apart (show IsS102 w _ x G b1 b2 from by repeat (first | (with_reducible first | exact m.out | apply IsS102.alloc | apply IsS102.drewN | apply IsS102.drew | apply IsS102.set_1 | apply IsS102.set_2 | refine IsS102.far ?_ E.out _ | refine IsS102.far ?_ I.out _) | exact m.out)) (by (with_reducible repeat (first | apply Kd.R_alloc | apply Kd.R_drewN | apply Kd.R_drew)); exact (Kd.R_mono (Kd.R_far (p := ⟨u, 9, none⟩) (Kd.R_far (p := ⟨u, 8, none⟩) (Kd.R_far (p := ⟨u, 7, none⟩) (Kd.R_far (p := ⟨u, 6, none⟩) (Kd.R_far (p := ⟨u, 5, none⟩) (Kd.R_far (p := ⟨u, 4, none⟩) (Kd.R_far (p := ⟨u, 3, none⟩) (Kd.R_far (p := ⟨u, 2, none⟩) (Kd.R_far (p := ⟨u, 1, none⟩) (Kd.R_far (p := ⟨u, 0, none⟩) (Kd.R_types z.out y.out (by decide)) (fun _ hk => hk.2) (iv_ L)) (fun _ hk => hk.2) (.slice a2 M.length a6)) (fun _ hk => hk.2) (.slice a3 O.length a7)) (fun _ hk => hk.2) (iv_ T)) (fun _ hk => hk.2) (iv_ U)) (fun _ hk => hk.2) (iv_ X)) (fun _ hk => hk.2) (iv_ Y)) (fun _ hk => hk.2) (iv_ Z)) (fun _ hk => hk.2) (.slice a4 a0.length a8)) (fun _ hk => hk.2) (iv_ a1)) (fun _ h_ => h_.1))) (by decide)) hk (fun _ h => h.2)) (fun _ h => h.1)) (Kd.R_mono (Kd.R_keep (IsS102.apart (show IsS102 w _ x G b1 b2 from by repeat (first | (with_reducible first | exact m.out | apply IsS102.alloc | apply IsS102.drewN | apply IsS102.drew | apply IsS102.set_1 | apply IsS102.set_2 | refine IsS102.far ?_ E.out _ | refine IsS102.far ?_ I.out _) | exact m.out)) (by (with_reducible repeat (first | apply Kd.R_alloc | apply Kd.R_drewN | apply Kd.R_drew)); exact (Kd.R_mono (Kd.R_far (p := ⟨u, 9, none⟩) (Kd.R_far (p := ⟨u, 8, none⟩) (Kd.R_far (p := ⟨u, 7, none⟩) (Kd.R_far (p := ⟨u, 6, none⟩) (Kd.R_far (p := ⟨u, 5, none⟩) (Kd.R_far (p := ⟨u, 4, none⟩) (Kd.R_far (p := ⟨u, 3, none⟩) (Kd.R_far (p := ⟨u, 2, none⟩) (Kd.R_far (p := ⟨u, 1, none⟩) (Kd.R_far (p := ⟨u, 0, none⟩) (Kd.R_types B.out y.out (by decide)) (fun _ hk => hk.2) (iv_ L)) (fun _ hk => hk.2) (.slice a2 M.length a6)) (fun _ hk => hk.2) (.slice a3 O.length a7)) (fun _ hk => hk.2) (iv_ T)) (fun _ hk => hk.2) (iv_ U)) (fun _ hk => hk.2) (iv_ X)) (fun _ hk => hk.2) (iv_ Y)) (fun _ hk => hk.2) (iv_ Z)) (fun _ hk => hk.2) (.slice a4 a0.length a8)) (fun _ hk => hk.2) (iv_ a1)) (fun _ h_ => h_.1))) (by decide)) hk (fun _ h => h.2)) (fun _ h => h.1)) (Kd.R_mono (Kd.R_keep (IsS102.apart (show IsS102 w _ x G b1 b2 from by repeat (first | (with_reducible first | exact m.out | apply IsS102.alloc | apply IsS102.drewN | apply IsS102.drew | apply IsS102.set_1 | apply IsS102.set_2 | refine IsS102.far ?_ E.out _ | refine IsS102.far ?_ I.out _) | exact m.out)) (by (with_reducible repeat (first | apply Kd.R_alloc | apply Kd.R_drewN | apply Kd.R_drew)); exact (Kd.R_mono (Kd.R_far (p := ⟨u, 9, none⟩) (Kd.R_far (p := ⟨u, 8, none⟩) (Kd.R_far (p := ⟨u, 7, none⟩) (Kd.R_far (p := ⟨u, 6, none⟩) (Kd.R_far (p := ⟨u, 5, none⟩) (Kd.R_far (p := ⟨u, 4, none⟩) (Kd.R_far (p := ⟨u, 3, none⟩) (Kd.R_far (p := ⟨u, 2, none⟩) (Kd.R_far (p := ⟨u, 1, none⟩) (Kd.R_far (p := ⟨u, 0, none⟩) (Kd.R_types D.out y.out (by decide)) (fun _ hk => hk.2) (iv_ L)) (fun _ hk => hk.2) (.slice a2 M.length a6)) (fun _ hk => hk.2) (.slice a3 O.length a7)) (fun _ hk => hk.2) (iv_ T)) (fun _ hk => hk.2) (iv_ U)) (fun _ hk => hk.2) (iv_ X)) (fun _ hk => hk.2) (iv_ Y)) (fun _ hk => hk.2) (iv_ Z)) (fun _ hk => hk.2) (.slice a4 a0.length a8)) (fun _ hk => hk.2) (iv_ a1)) (fun _ h_ => h_.1))) (by decide)) hk (fun _ h => h.2)) (fun _ h => h.1)) (KeepBut.blk hk (g' := u) (o := .cells #[iv_ L, .slice a2 M.length a6, .slice a3 O.length a7, iv_ T, iv_ U, iv_ X, iv_ Y, iv_ Z, .slice a4 a0.length a8, iv_ a1] 28 (0, 0)) (bp_ y) b9.out (by simp)) hb hi ?_⟩; clear s z B D y HB m hb hk hi; intro s z B D y HB m) | ((with_reducible refine gate_callee (f := 60) rfl ?_); refine goesL_ (some 17) rfl rfl Try.func60 (by kernel_rfl) rfl #[.pointer (some ⟨x, 0, none⟩), iv_ 20] rfl mp_ ?_; (with_reducible refine (spec_l1Below.calls x G b3 b4 20 g6 b5 b6 w _ ?side1 ?side2 A5.out).mono ?_); (case side1 => repeat (first | (with_reducible first | exact m.out | apply IsS102.alloc | apply IsS102.drewN | apply IsS102.drew | apply IsS102.set_1 | apply IsS102.set_2 | refine IsS102.far ?_ E.out _ | refine IsS102.far ?_ I.out _) | exact m.out)); (case side2 => repeat (first | (with_reducible first | exact HB.out | apply below_alloc | apply pw_below_drewN | apply below_drew1 | refine below_set ?_ (IsS102.ge m.out) | refine below_set ?_ J.out | refine below_set ?_ b7.out) | exact HB.out)); rintro e h0 ⟨rfl, hi, hb, hk⟩; refine ⟨_, rfl, sh7_ (KeepBut.blk hk (g' := j) (o := .cells #[iv_ 0, .slice none 0 0, .slice none 0 0, iv_ 0, iv_ 0, iv_ 0, iv_ 0, iv_ 0, .slice none 0 0, iv_ 0] 28 (0, 0)) (bk_ s) b8.out (by simp)) (Kd.R_mono (Kd.R_keep (IsS102.apart (show IsS102 w _ x G b3 b4 from by repeat (first | (with_reducible first | exact m.out | apply IsS102.alloc | apply IsS102.drewN | apply IsS102.drew | apply IsS102.set_1 | apply IsS102.set_2 | refine IsS102.far ?_ E.out _ | refine IsS102.far ?_ I.out _) | exact m.out)) (ra_ z) (by decide)) hk (fun _ h => h.2)) (fun _ h => h.1)) (Kd.R_mono (Kd.R_keep (IsS102.apart (show IsS102 w _ x G b3 b4 from by repeat (first | (with_reducible first | exact m.out | apply IsS102.alloc | apply IsS102.drewN | apply IsS102.drew | apply IsS102.set_1 | apply IsS102.set_2 | refine IsS102.far ?_ E.out _ | refine IsS102.far ?_ I.out _) | exact m.out)) (ra_ B) (by decide)) hk (fun _ h => h.2)) (fun _ h => h.1)) (Kd.R_mono (Kd.R_keep (IsS102.apart (show IsS102 w _ x G b3 b4 from by repeat (first | (with_reducible first | exact m.out | apply IsS102.alloc | apply IsS102.drewN | apply IsS102.drew | apply IsS102.set_1 | apply IsS102.set_2 | refine IsS102.far ?_ E.out _ | refine IsS102.far ?_ I.out _) | exact m.out)) (ra_ D) (by decide)) hk (fun _ h => h.2)) (fun _ h => h.1)) (KeepBut.blk hk (g' := u) (o := .cells #[iv_ L, .slice a2 M.length a6, .slice a3 O.length a7, iv_ T, iv_ U, iv_ X, iv_ Y, iv_ Z, .slice a4 a0.length a8, iv_ a1] 28 (0, 0)) (bk_ y) b9.out (by simp)) hb hi ?_⟩; clear s z B D y HB m hb hk hi; intro s z B D y HB m))
 refine sh7_ (Kd.R_drew z.out) (Kd.R_drew B.out) (Kd.R_drew D.out) (blk_drew s.out) (blk_drew y.out) (IsS102.drew m.out) (below_drew1 HB.out) ?_
 clear z B D s y m HB
 intro z B D s y m HB
 refine start_ (n := 11) (S := fun w' => Cz10 w' u (iv_ L) (.slice a2 M.length a6) (.slice a3 O.length a7) (iv_ T) (iv_ U) (iv_ X) (iv_ Y) (iv_ Z) (.slice a4 a0.length a8) (iv_ a1)) (ds := []) (bo_ 11 0) (by kernel_rfl) rfl rfl (cz10_ y) (fun hHeld => ?_); refine with_tabW spec_DrawQuietSpans.tab5 spec_DrawQuietSpans.bits5 (fun HT_ HW_ => ?_)
 generalize h0.drew = m4 at z B D s y m HB hHeld ⊢
 refine pur_ 1 (bo_ 11 2) (some 20) HT_ ?_
 refine pur_ 2 (bo_ 11 6) (some 21) HT_ ?_
 refine pur_ 3 (bo_ 11 14) (some 22) HT_ ?_
 refine pur_ 4 (bo_ 11 30) (some 23) HT_ ?_
 refine tak_ 0 (bo_ 11 31) (some 19) HT_ HW_ hHeld ?_
 refine one_ (i := 5) (N := some 24) (bo_ 11 63) rfl rfl (one_of HT_.out (by kernel_rfl)) (by decide) (fun K hK => ?_)
 refine goes_ Try.func60 (by kernel_rfl) rfl #[.pointer (some ⟨x, 0, none⟩), iv_ 40] (by rfl) rfl rfl mp_ ?_
 with_reducible refine (spec_l1Below.calls x G b5 b6 40 g7 g8 g9 w _ ?side1 ?side2 A6.out).mono ?_
 (case side1 => repeat (first | (with_reducible first | exact m.out | apply IsS102.alloc | apply IsS102.drewN | apply IsS102.drew | apply IsS102.set_1 | apply IsS102.set_2 | refine IsS102.far ?_ E.out _ | refine IsS102.far ?_ I.out _) | exact m.out))
 (case side2 => repeat (first | (with_reducible first | exact HB.out | apply below_alloc | apply pw_below_drewN | apply below_drew1 | refine below_set ?_ (IsS102.ge m.out) | refine below_set ?_ J.out | refine below_set ?_ b7.out) | exact HB.out))
 rintro e a9 ⟨rfl, hi, hb, hk⟩
 refine ⟨_, rfl, sh7_ (KeepBut.blk hk (g' := j) (o := .cells #[iv_ 0, .slice none 0 0, .slice none 0 0, iv_ 0, iv_ 0, iv_ 0, iv_ 0, iv_ 0, .slice none 0 0, iv_ 0] 28 (0, 0)) (bk_ s) b8.out (by simp)) (Kd.R_mono (Kd.R_keep (IsS102.apart (show IsS102 w _ x G b5 b6 from by repeat (first | (with_reducible first | exact m.out | apply IsS102.alloc | apply IsS102.drewN | apply IsS102.drew | apply IsS102.set_1 | apply IsS102.set_2 | refine IsS102.far ?_ E.out _ | refine IsS102.far ?_ I.out _) | exact m.out)) (ra_ z) (by decide)) hk (fun _ h => h.2)) (fun _ h => h.1)) (Kd.R_mono (Kd.R_keep (IsS102.apart (show IsS102 w _ x G b5 b6 from by repeat (first | (with_reducible first | exact m.out | apply IsS102.alloc | apply IsS102.drewN | apply IsS102.drew | apply IsS102.set_1 | apply IsS102.set_2 | refine IsS102.far ?_ E.out _ | refine IsS102.far ?_ I.out _) | exact m.out)) (ra_ B) (by decide)) hk (fun _ h => h.2)) (fun _ h => h.1)) (Kd.R_mono (Kd.R_keep (IsS102.apart (show IsS102 w _ x G b5 b6 from by repeat (first | (with_reducible first | exact m.out | apply IsS102.alloc | apply IsS102.drewN | apply IsS102.drew | apply IsS102.set_1 | apply IsS102.set_2 | refine IsS102.far ?_ E.out _ | refine IsS102.far ?_ I.out _) | exact m.out)) (ra_ D) (by decide)) hk (fun _ h => h.2)) (fun _ h => h.1)) (KeepBut.blk hk (g' := u) (o := .cells #[iv_ L, .slice a2 M.length a6, .slice a3 O.length a7, iv_ T, iv_ U, iv_ X, iv_ Y, iv_ Z, .slice a4 a0.length a8, iv_ a1] 28 (0, 0)) (bk_ y) b9.out (by simp)) hb hi ?_⟩
 clear s z B D y HB m hb hk hi
 intro s z B D y HB m
 refine hK.out _ _ (cz10_ y) (fun hHeld => ?_)
 clear hK K
 refine norm_ (show Act.put _ (some 24) _ = _ from pt_) ?_
 refine pur_ 6 (bo_ 11 127) (some 25) HT_ ?_
 refine one_ (i := 7) (N := none) (bo_ 11 255) rfl rfl (one_of HT_.out (by kernel_rfl)) (by decide) (fun K hK => ?_)
 have k7 : a9.cell? ⟨j, 0, none⟩ = some (iv_ 0) := bc_ s 0 rfl
 have h3 := bf_ s 0
 have j7 := l.out
 have i3 := a5.out
 have k8 : a9.cell? ⟨j, 1, none⟩ = some (.slice none 0 0) := bc_ s 1 rfl
 have h4 := bf_ s 1
 have j8 := l.out
 have i4 := a5.out
 have k9 : a9.cell? ⟨j, 2, none⟩ = some (.slice none 0 0) := bc_ s 2 rfl
 have h5 := bf_ s 2
 have j9 := l.out
 have i5 := a5.out
 have l1 : a9.cell? ⟨j, 3, none⟩ = some (iv_ 0) := bc_ s 3 rfl
 have h6 := bf_ s 3
 have k0 := l.out
 have i6 := a5.out
 have l2 : a9.cell? ⟨j, 4, none⟩ = some (iv_ 0) := bc_ s 4 rfl
 have h7 := bf_ s 4
 have k1 := l.out
 have i7 := a5.out
 have l3 : a9.cell? ⟨j, 5, none⟩ = some (iv_ 0) := bc_ s 5 rfl
 have h8 := bf_ s 5
 have k2 := l.out
 have i8 := a5.out
 have l4 : a9.cell? ⟨j, 6, none⟩ = some (iv_ 0) := bc_ s 6 rfl
 have h9 := bf_ s 6
 have k3 := l.out
 have i9 := a5.out
 have l5 : a9.cell? ⟨j, 7, none⟩ = some (iv_ 0) := bc_ s 7 rfl
 have i0 := bf_ s 7
 have k4 := l.out
 have j0 := a5.out
 have l6 : a9.cell? ⟨j, 8, none⟩ = some (.slice none 0 0) := bc_ s 8 rfl
 have i1 := bf_ s 8
 have k5 := l.out
 have j1 := a5.out
 have l7 : a9.cell? ⟨j, 9, none⟩ = some (iv_ 0) := bc_ s 9 rfl
 have i2 := bf_ s 9
 have k6 := l.out
 have j2 := a5.out
 refine skip_ (w1 := ?_) (by rfl) rfl ?_ ?_
 rotate_left
 ·go_simp
  rfl
 refine hK.out _ _ ⟨((cell_far (p := ⟨j, _, none⟩) l.out _).trans (((cell_far (p := ⟨j, _, none⟩) l.out _).trans (((cell_far (p := ⟨j, _, none⟩) l.out _).trans (((cell_far (p := ⟨j, _, none⟩) l.out _).trans (((cell_far (p := ⟨j, _, none⟩) l.out _).trans (((cell_far (p := ⟨j, _, none⟩) l.out _).trans (((cell_far (p := ⟨j, _, none⟩) l.out _).trans (((cell_far (p := ⟨j, _, none⟩) l.out _).trans (((cell_far (p := ⟨j, _, none⟩) l.out _).trans (((cell_far (p := ⟨j, _, none⟩) l.out _).trans (hHeld.1)))))))))))))))))))), ((cell_far (p := ⟨j, _, none⟩) l.out _).trans (((cell_far (p := ⟨j, _, none⟩) l.out _).trans (((cell_far (p := ⟨j, _, none⟩) l.out _).trans (((cell_far (p := ⟨j, _, none⟩) l.out _).trans (((cell_far (p := ⟨j, _, none⟩) l.out _).trans (((cell_far (p := ⟨j, _, none⟩) l.out _).trans (((cell_far (p := ⟨j, _, none⟩) l.out _).trans (((cell_far (p := ⟨j, _, none⟩) l.out _).trans (((cell_far (p := ⟨j, _, none⟩) l.out _).trans (((cell_far (p := ⟨j, _, none⟩) l.out _).trans (hHeld.2.1)))))))))))))))))))), ((cell_far (p := ⟨j, _, none⟩) l.out _).trans (((cell_far (p := ⟨j, _, none⟩) l.out _).trans (((cell_far (p := ⟨j, _, none⟩) l.out _).trans (((cell_far (p := ⟨j, _, none⟩) l.out _).trans (((cell_far (p := ⟨j, _, none⟩) l.out _).trans (((cell_far (p := ⟨j, _, none⟩) l.out _).trans (((cell_far (p := ⟨j, _, none⟩) l.out _).trans (((cell_far (p := ⟨j, _, none⟩) l.out _).trans (((cell_far (p := ⟨j, _, none⟩) l.out _).trans (((cell_far (p := ⟨j, _, none⟩) l.out _).trans (hHeld.2.2.1)))))))))))))))))))), ((cell_far (p := ⟨j, _, none⟩) l.out _).trans (((cell_far (p := ⟨j, _, none⟩) l.out _).trans (((cell_far (p := ⟨j, _, none⟩) l.out _).trans (((cell_far (p := ⟨j, _, none⟩) l.out _).trans (((cell_far (p := ⟨j, _, none⟩) l.out _).trans (((cell_far (p := ⟨j, _, none⟩) l.out _).trans (((cell_far (p := ⟨j, _, none⟩) l.out _).trans (((cell_far (p := ⟨j, _, none⟩) l.out _).trans (((cell_far (p := ⟨j, _, none⟩) l.out _).trans (((cell_far (p := ⟨j, _, none⟩) l.out _).trans (hHeld.2.2.2.1)))))))))))))))))))), ((cell_far (p := ⟨j, _, none⟩) l.out _).trans (((cell_far (p := ⟨j, _, none⟩) l.out _).trans (((cell_far (p := ⟨j, _, none⟩) l.out _).trans (((cell_far (p := ⟨j, _, none⟩) l.out _).trans (((cell_far (p := ⟨j, _, none⟩) l.out _).trans (((cell_far (p := ⟨j, _, none⟩) l.out _).trans (((cell_far (p := ⟨j, _, none⟩) l.out _).trans (((cell_far (p := ⟨j, _, none⟩) l.out _).trans (((cell_far (p := ⟨j, _, none⟩) l.out _).trans (((cell_far (p := ⟨j, _, none⟩) l.out _).trans (hHeld.2.2.2.2.1)))))))))))))))))))), ((cell_far (p := ⟨j, _, none⟩) l.out _).trans (((cell_far (p := ⟨j, _, none⟩) l.out _).trans (((cell_far (p := ⟨j, _, none⟩) l.out _).trans (((cell_far (p := ⟨j, _, none⟩) l.out _).trans (((cell_far (p := ⟨j, _, none⟩) l.out _).trans (((cell_far (p := ⟨j, _, none⟩) l.out _).trans (((cell_far (p := ⟨j, _, none⟩) l.out _).trans (((cell_far (p := ⟨j, _, none⟩) l.out _).trans (((cell_far (p := ⟨j, _, none⟩) l.out _).trans (((cell_far (p := ⟨j, _, none⟩) l.out _).trans (hHeld.2.2.2.2.2.1)))))))))))))))))))), ((cell_far (p := ⟨j, _, none⟩) l.out _).trans (((cell_far (p := ⟨j, _, none⟩) l.out _).trans (((cell_far (p := ⟨j, _, none⟩) l.out _).trans (((cell_far (p := ⟨j, _, none⟩) l.out _).trans (((cell_far (p := ⟨j, _, none⟩) l.out _).trans (((cell_far (p := ⟨j, _, none⟩) l.out _).trans (((cell_far (p := ⟨j, _, none⟩) l.out _).trans (((cell_far (p := ⟨j, _, none⟩) l.out _).trans (((cell_far (p := ⟨j, _, none⟩) l.out _).trans (((cell_far (p := ⟨j, _, none⟩) l.out _).trans (hHeld.2.2.2.2.2.2.1)))))))))))))))))))), ((cell_far (p := ⟨j, _, none⟩) l.out _).trans (((cell_far (p := ⟨j, _, none⟩) l.out _).trans (((cell_far (p := ⟨j, _, none⟩) l.out _).trans (((cell_far (p := ⟨j, _, none⟩) l.out _).trans (((cell_far (p := ⟨j, _, none⟩) l.out _).trans (((cell_far (p := ⟨j, _, none⟩) l.out _).trans (((cell_far (p := ⟨j, _, none⟩) l.out _).trans (((cell_far (p := ⟨j, _, none⟩) l.out _).trans (((cell_far (p := ⟨j, _, none⟩) l.out _).trans (((cell_far (p := ⟨j, _, none⟩) l.out _).trans (hHeld.2.2.2.2.2.2.2.1)))))))))))))))))))), ((cell_far (p := ⟨j, _, none⟩) l.out _).trans (((cell_far (p := ⟨j, _, none⟩) l.out _).trans (((cell_far (p := ⟨j, _, none⟩) l.out _).trans (((cell_far (p := ⟨j, _, none⟩) l.out _).trans (((cell_far (p := ⟨j, _, none⟩) l.out _).trans (((cell_far (p := ⟨j, _, none⟩) l.out _).trans (((cell_far (p := ⟨j, _, none⟩) l.out _).trans (((cell_far (p := ⟨j, _, none⟩) l.out _).trans (((cell_far (p := ⟨j, _, none⟩) l.out _).trans (((cell_far (p := ⟨j, _, none⟩) l.out _).trans (hHeld.2.2.2.2.2.2.2.2.1)))))))))))))))))))), ((cell_far (p := ⟨j, _, none⟩) l.out _).trans (((cell_far (p := ⟨j, _, none⟩) l.out _).trans (((cell_far (p := ⟨j, _, none⟩) l.out _).trans (((cell_far (p := ⟨j, _, none⟩) l.out _).trans (((cell_far (p := ⟨j, _, none⟩) l.out _).trans (((cell_far (p := ⟨j, _, none⟩) l.out _).trans (((cell_far (p := ⟨j, _, none⟩) l.out _).trans (((cell_far (p := ⟨j, _, none⟩) l.out _).trans (((cell_far (p := ⟨j, _, none⟩) l.out _).trans (((cell_far (p := ⟨j, _, none⟩) l.out _).trans (hHeld.2.2.2.2.2.2.2.2.2))))))))))))))))))))⟩ (fun hHeld => ?_)
 clear hK K
 refine pur_ 8 (bo_ 11 511) (some 3) HT_ ?_
 refine pur_ 9 (bo_ 11 1023) (some 4) HT_ ?_
 refine pur_ 10 (bo_ 11 2047) (some 5) HT_ ?_
 refine done_ (done_of HT_.out (by kernel_rfl)) ?_
 try go_wp2
 refine bodyPost_ret (results_list (rs := [.cell 2 28, .tmp 3, .tmp 4, .tmp 5]) rfl (by simp) (.cell j 28 #[iv_ L, .slice a2 M.length a6, .slice a3 O.length a7, iv_ T, iv_ U, iv_ X, iv_ Y, iv_ Z, .slice a4 a0.length a8, iv_ a1] (0, 0) _ rfl (bp_ s) Try.underlying28 rfl (by kernel_rfl) (.tmp (.tmp (.tmp .nil))))) rfl ?_
 exact ⟨_, _, _, by first | (rw [hRT_.out]; rfl) | exact er_, by (with_reducible repeat (first | apply Kd.R_alloc | apply Kd.R_drewN | apply Kd.R_drew)); exact Kd.R_mono (Kd.R_far (p := ⟨j, 9, none⟩) (Kd.R_far (p := ⟨j, 8, none⟩) (Kd.R_far (p := ⟨j, 7, none⟩) (Kd.R_far (p := ⟨j, 6, none⟩) (Kd.R_far (p := ⟨j, 5, none⟩) (Kd.R_far (p := ⟨j, 4, none⟩) (Kd.R_far (p := ⟨j, 3, none⟩) (Kd.R_far (p := ⟨j, 2, none⟩) (Kd.R_far (p := ⟨j, 1, none⟩) (Kd.R_far (p := ⟨j, 0, none⟩) (Kd.R_types z.out s.out (by decide)) (fun _ hk => hk.2) (iv_ L)) (fun _ hk => hk.2) (.slice a2 M.length a6)) (fun _ hk => hk.2) (.slice a3 O.length a7)) (fun _ hk => hk.2) (iv_ T)) (fun _ hk => hk.2) (iv_ U)) (fun _ hk => hk.2) (iv_ X)) (fun _ hk => hk.2) (iv_ Y)) (fun _ hk => hk.2) (iv_ Z)) (fun _ hk => hk.2) (.slice a4 a0.length a8)) (fun _ hk => hk.2) (iv_ a1)) (fun _ hk => trivial), by (with_reducible repeat (first | apply Kd.R_alloc | apply Kd.R_drewN | apply Kd.R_drew)); exact Kd.R_mono (Kd.R_far (p := ⟨j, 9, none⟩) (Kd.R_far (p := ⟨j, 8, none⟩) (Kd.R_far (p := ⟨j, 7, none⟩) (Kd.R_far (p := ⟨j, 6, none⟩) (Kd.R_far (p := ⟨j, 5, none⟩) (Kd.R_far (p := ⟨j, 4, none⟩) (Kd.R_far (p := ⟨j, 3, none⟩) (Kd.R_far (p := ⟨j, 2, none⟩) (Kd.R_far (p := ⟨j, 1, none⟩) (Kd.R_far (p := ⟨j, 0, none⟩) (Kd.R_types B.out s.out (by decide)) (fun _ hk => hk.2) (iv_ L)) (fun _ hk => hk.2) (.slice a2 M.length a6)) (fun _ hk => hk.2) (.slice a3 O.length a7)) (fun _ hk => hk.2) (iv_ T)) (fun _ hk => hk.2) (iv_ U)) (fun _ hk => hk.2) (iv_ X)) (fun _ hk => hk.2) (iv_ Y)) (fun _ hk => hk.2) (iv_ Z)) (fun _ hk => hk.2) (.slice a4 a0.length a8)) (fun _ hk => hk.2) (iv_ a1)) (fun _ hk => trivial), by (with_reducible repeat (first | apply Kd.R_alloc | apply Kd.R_drewN | apply Kd.R_drew)); exact Kd.R_mono (Kd.R_far (p := ⟨j, 9, none⟩) (Kd.R_far (p := ⟨j, 8, none⟩) (Kd.R_far (p := ⟨j, 7, none⟩) (Kd.R_far (p := ⟨j, 6, none⟩) (Kd.R_far (p := ⟨j, 5, none⟩) (Kd.R_far (p := ⟨j, 4, none⟩) (Kd.R_far (p := ⟨j, 3, none⟩) (Kd.R_far (p := ⟨j, 2, none⟩) (Kd.R_far (p := ⟨j, 1, none⟩) (Kd.R_far (p := ⟨j, 0, none⟩) (Kd.R_types D.out s.out (by decide)) (fun _ hk => hk.2) (iv_ L)) (fun _ hk => hk.2) (.slice a2 M.length a6)) (fun _ hk => hk.2) (.slice a3 O.length a7)) (fun _ hk => hk.2) (iv_ T)) (fun _ hk => hk.2) (iv_ U)) (fun _ hk => hk.2) (iv_ X)) (fun _ hk => hk.2) (iv_ Y)) (fun _ hk => hk.2) (iv_ Z)) (fun _ hk => hk.2) (.slice a4 a0.length a8)) (fun _ hk => hk.2) (iv_ a1)) (fun _ hk => trivial), by repeat (first | (with_reducible first | exact HB.out | apply below_alloc | apply pw_below_drewN | apply below_drew1 | refine below_set ?_ (IsS102.ge m.out) | refine below_set ?_ J.out | refine below_set ?_ b7.out) | exact HB.out)⟩

/-! ### spec_DrawSpeakingSpans: function 26 -/
def spec_DrawSpeakingSpans.f (k : Nat) (m : List Int) : Option (Int × List S72 × List S74 × Int × Int × Int × Int × Int × List S88 × Int × Int × Int × Int × Int) := (spec_DrawQuietSpans.f k m).bind fun j => ((spec_l1New.f k m).bind fun l => ((spec_l1Below.f l.1 l.2.1 l.2.2 8).bind fun s => (some (j.1, j.2.1, j.2.2.1, j.2.2.2.1, j.2.2.2.2.1, j.2.2.2.2.2.1, j.2.2.2.2.2.2.1, j.2.2.2.2.2.2.2.1, j.2.2.2.2.2.2.2.2.1, j.2.2.2.2.2.2.2.2.2.1, j.2.2.2.2.2.2.2.2.2.2.1, s.1, j.2.2.2.2.2.2.2.2.2.2.2.1, j.2.2.2.2.2.2.2.2.2.2.2.2))))
def spec_DrawSpeakingSpans.T3 : Bool × List (List Nat × List Nat) := (true, [([], []), ([], []), ([], []), ([2], [2]), ([], []), ([], []), ([0, 3, 0], [0]), ([1, 6, 0, 1, 6], [1]), ([3, 7, 0, 1, 2, 3, 6, 7], [3]), ([4, 8, 0, 1, 2, 3, 4, 6, 7, 8], [4]), ([5, 9, 0, 1, 2, 3, 4, 5, 6, 7, 8, 9], [5])])
def spec_DrawSpeakingSpans.B3 : List Nat := [0, 0, 0, 4, 0, 0, 13, 79, 207, 479, 1023]
theorem spec_DrawSpeakingSpans.tab3 : rtab .any (opsOf Try.f26 3) = spec_DrawSpeakingSpans.T3 := by kernel_rfl
theorem spec_DrawSpeakingSpans.bits3 : waitsOk spec_DrawSpeakingSpans.T3.2 spec_DrawSpeakingSpans.B3 = true := by kernel_rfl
theorem spec_DrawSpeakingSpans.calls (k : Nat) (A0 : Option Addr) (c0 : Nat) (l0 : List Int) (r1 : Int) (r2 : List S72) (r3 : List S74) (r4 r5 r6 r7 r8 : Int) (r9 : List S88) (d4 d5 d6 d7 d8 : Int) (w : World) (d2 : Kd.C (Kd.int .u8) w A0 l0.length l0) (b9 : l0.length ≤ c0) (h : spec_DrawSpeakingSpans.f k l0 = some (r1, r2, r3, r4, r5, r6, r7, r8, r9, d4, d5, d6, d7, d8)) :
  Calls Try.prog 26 #[.slice A0 l0.length c0] w fun e w' => ∃ e7 e8 e9 : Value, e = .returned (.tuple #[.agg #[iv_ r1, e7, e8, iv_ r4, iv_ r5, iv_ r6, iv_ r7, iv_ r8, e9, iv_ d4], iv_ d5, iv_ d6, iv_ d7, iv_ d8]) ∧ Kd.R k72 72 w' w.heap.size (fun _ => True) e7 r2 ∧ Kd.R k74 74 w' w.heap.size (fun _ => True) e8 r3 ∧ Kd.R k88 88 w' w.heap.size (fun _ => True) e9 r9 ∧ Below w.heap.size w w' := by
 have k8 := Try.underlying28
 have b8 := Aside0.mk d2
 have b7 := Aside0.mk b9
 clear d2 b9
 have HB := Aside0.mk (Below.refl w.heap.size w)
 have H := h
 clear h
 unfold spec_DrawSpeakingSpans.f at H
 replace H := bs_ H
 obtain ⟨⟨D, E, G, I, J, L, M, O, T, U, f8, f9, g0⟩, A2, H⟩ := H
 dsimp only at H
 replace H := bs_ H
 obtain ⟨⟨a9, b0, b1⟩, A3, H⟩ := H
 dsimp only at H
 replace H := bs_ H
 obtain ⟨⟨g1, g2, g3⟩, A4, H⟩ := H
 dsimp only at H
 simp only [Option.some.injEq, Prod.mk.injEq] at H
 obtain ⟨rfl, rfl, rfl, rfl, rfl, rfl, rfl, rfl, rfl, rfl, rfl, rfl, rfl, rfl⟩ := H
 go_enter Try.func26, Try.ntmps26
 try go_wp2_with (first | ((with_reducible refine gd_ 2 ?_); refine bx_ 2 28 #[iv_ 0, .slice none 0 0, .slice none 0 0, iv_ 0, iv_ 0, iv_ 0, iv_ 0, iv_ 0, .slice none 0 0, iv_ 0] ?_; intro j hg w5 hbox hb; refine sh3_ (below_step (bl_ HB) hb) hbox (ge_ hg (bl_ HB)) ?_; clear HB hb hbox hg; intro HB m a6) | ((with_reducible refine gate_callee (f := 68) rfl ?_); refine gl_ 14 Try.func68 (spec_DrawQuietSpans.calls k _ _ l0 D E G I J L M O T U f8 f9 g0 _ (ck_ b8 HB) b7.out A2.out) ?_; rintro e w6 ⟨k9, l1, l2, rfl, c1, d0, d1, hb⟩; refine ⟨_, rfl, sh5_ (Kd.R_lower c1 (below_size (bl1_ HB a6))) (Kd.R_lower d0 (below_size (bl1_ HB a6))) (Kd.R_lower d1 (below_size (bl1_ HB a6))) (blk_below (bk_ m) hb) (below_step (bl1_ HB a6) hb) ?_⟩; clear m HB hb c1 d0 d1; intro y z B m HB) | ((with_reducible refine gd_ 7 ?_); refine bx_ 7 28 #[iv_ 0, .slice none 0 0, .slice none 0 0, iv_ 0, iv_ 0, iv_ 0, iv_ 0, iv_ 0, .slice none 0 0, iv_ 0] ?_; intro s hg w7 hbox hb; refine sh9_ (Kd.R_below (ra_ y) hb) (Kd.R_below (ra_ z) hb) (Kd.R_below (ra_ B) hb) (blk_below (bk_ m) hb) (below_step (bl1_ HB a6) hb) hbox (ge_ hg (bl1_ HB a6)) (nl_ hg (bk_ m)) (ng_ hg (bk_ m)) ?_; clear y z B m HB hb hbox hg; intro y z B m HB u b5 a3 l; have i6 := l.out; have i7 := a3.out; have g5 := cf10_ u; obtain ⟨X, a0, f5⟩ := Kd.R_slice y.out; subst f5; obtain ⟨Y, a1, f6⟩ := Kd.R_slice z.out; subst f6; obtain ⟨Z, a2, f7⟩ := Kd.R_slice B.out; subst f7) | ((with_reducible refine gate_callee (f := 49) rfl ?_); refine goesL_ (some 20) rfl rfl Try.func49 (by kernel_rfl) rfl #[.slice A0 l0.length c0] rfl mp_ ?_; (with_reducible refine (spec_l1New.calls k _ _ l0 a9 b0 b1 w _ ?side1 ?side2 ?side3 A3.out).mono ?_); (case side1 => repeat (first | (with_reducible first | exact HB.out | apply below_alloc | apply pw_below_drewN | apply below_drew1 | refine below_set ?_ a6.out | refine below_set ?_ b5.out) | exact HB.out)); (case side2 => exact b8.out); (case side3 => exact b7.out); rintro e g4 ⟨a8, rfl, hi, hb, a4⟩; refine ⟨_, rfl, sh11_ (Kd.R_below (by (with_reducible repeat (first | apply Kd.R_alloc | apply Kd.R_drewN | apply Kd.R_drew)); exact (Kd.R_mono (Kd.R_far (p := ⟨s, 9, none⟩) (Kd.R_far (p := ⟨s, 8, none⟩) (Kd.R_far (p := ⟨s, 7, none⟩) (Kd.R_far (p := ⟨s, 6, none⟩) (Kd.R_far (p := ⟨s, 5, none⟩) (Kd.R_far (p := ⟨s, 4, none⟩) (Kd.R_far (p := ⟨s, 3, none⟩) (Kd.R_far (p := ⟨s, 2, none⟩) (Kd.R_far (p := ⟨s, 1, none⟩) (Kd.R_far (p := ⟨s, 0, none⟩) (Kd.R_types y.out u.out (by decide)) (fun _ hk => hk.2) (iv_ D)) (fun _ hk => hk.2) (.slice X E.length a0)) (fun _ hk => hk.2) (.slice Y G.length a1)) (fun _ hk => hk.2) (iv_ I)) (fun _ hk => hk.2) (iv_ J)) (fun _ hk => hk.2) (iv_ L)) (fun _ hk => hk.2) (iv_ M)) (fun _ hk => hk.2) (iv_ O)) (fun _ hk => hk.2) (.slice Z T.length a2)) (fun _ hk => hk.2) (iv_ U)) (fun _ h_ => h_.1))) a4) (Kd.R_below (by (with_reducible repeat (first | apply Kd.R_alloc | apply Kd.R_drewN | apply Kd.R_drew)); exact (Kd.R_mono (Kd.R_far (p := ⟨s, 9, none⟩) (Kd.R_far (p := ⟨s, 8, none⟩) (Kd.R_far (p := ⟨s, 7, none⟩) (Kd.R_far (p := ⟨s, 6, none⟩) (Kd.R_far (p := ⟨s, 5, none⟩) (Kd.R_far (p := ⟨s, 4, none⟩) (Kd.R_far (p := ⟨s, 3, none⟩) (Kd.R_far (p := ⟨s, 2, none⟩) (Kd.R_far (p := ⟨s, 1, none⟩) (Kd.R_far (p := ⟨s, 0, none⟩) (Kd.R_types z.out u.out (by decide)) (fun _ hk => hk.2) (iv_ D)) (fun _ hk => hk.2) (.slice X E.length a0)) (fun _ hk => hk.2) (.slice Y G.length a1)) (fun _ hk => hk.2) (iv_ I)) (fun _ hk => hk.2) (iv_ J)) (fun _ hk => hk.2) (iv_ L)) (fun _ hk => hk.2) (iv_ M)) (fun _ hk => hk.2) (iv_ O)) (fun _ hk => hk.2) (.slice Z T.length a2)) (fun _ hk => hk.2) (iv_ U)) (fun _ h_ => h_.1))) a4) (Kd.R_below (by (with_reducible repeat (first | apply Kd.R_alloc | apply Kd.R_drewN | apply Kd.R_drew)); exact (Kd.R_mono (Kd.R_far (p := ⟨s, 9, none⟩) (Kd.R_far (p := ⟨s, 8, none⟩) (Kd.R_far (p := ⟨s, 7, none⟩) (Kd.R_far (p := ⟨s, 6, none⟩) (Kd.R_far (p := ⟨s, 5, none⟩) (Kd.R_far (p := ⟨s, 4, none⟩) (Kd.R_far (p := ⟨s, 3, none⟩) (Kd.R_far (p := ⟨s, 2, none⟩) (Kd.R_far (p := ⟨s, 1, none⟩) (Kd.R_far (p := ⟨s, 0, none⟩) (Kd.R_types B.out u.out (by decide)) (fun _ hk => hk.2) (iv_ D)) (fun _ hk => hk.2) (.slice X E.length a0)) (fun _ hk => hk.2) (.slice Y G.length a1)) (fun _ hk => hk.2) (iv_ I)) (fun _ hk => hk.2) (iv_ J)) (fun _ hk => hk.2) (iv_ L)) (fun _ hk => hk.2) (iv_ M)) (fun _ hk => hk.2) (iv_ O)) (fun _ hk => hk.2) (.slice Z T.length a2)) (fun _ hk => hk.2) (iv_ U)) (fun _ h_ => h_.1))) a4) (blk_below (g := j) (o := .cells #[iv_ 0, .slice none 0 0, .slice none 0 0, iv_ 0, iv_ 0, iv_ 0, iv_ 0, iv_ 0, .slice none 0 0, iv_ 0] 28 (0, 0)) (bp_ m) a4) (blk_below (g := s) (o := .cells #[iv_ D, .slice X E.length a0, .slice Y G.length a1, iv_ I, iv_ J, iv_ L, iv_ M, iv_ O, .slice Z T.length a2, iv_ U] 28 (0, 0)) (bp_ u) a4) hb hi (IsS102.ne_blk hi (blk_below (g := j) (o := .cells #[iv_ 0, .slice none 0 0, .slice none 0 0, iv_ 0, iv_ 0, iv_ 0, iv_ 0, iv_ 0, .slice none 0 0, iv_ 0] 28 (0, 0)) (bp_ m) a4) (by decide)) (Ne.symm (IsS102.ne_blk hi (blk_below (g := j) (o := .cells #[iv_ 0, .slice none 0 0, .slice none 0 0, iv_ 0, iv_ 0, iv_ 0, iv_ 0, iv_ 0, .slice none 0 0, iv_ 0] 28 (0, 0)) (bp_ m) a4) (by decide))) (IsS102.ne_blk hi (blk_below (g := s) (o := .cells #[iv_ D, .slice X E.length a0, .slice Y G.length a1, iv_ I, iv_ J, iv_ L, iv_ M, iv_ O, .slice Z T.length a2, iv_ U] 28 (0, 0)) (bp_ u) a4) (by decide)) (Ne.symm (IsS102.ne_blk hi (blk_below (g := s) (o := .cells #[iv_ D, .slice X E.length a0, .slice Y G.length a1, iv_ I, iv_ J, iv_ L, iv_ M, iv_ O, .slice Z T.length a2, iv_ U] 28 (0, 0)) (bp_ u) a4) (by decide))) ?_⟩; clear y z B m u HB hb a4 hi; intro y z B m u HB x b2 f3 b3 f4))
 refine sh7_ (Kd.R_drew y.out) (Kd.R_drew z.out) (Kd.R_drew B.out) (blk_drew m.out) (blk_drew u.out) (IsS102.drew x.out) (below_drew1 HB.out) ?_
 clear y z B m u x HB
 intro y z B m u x HB
 refine start_ (n := 11) (S := fun w' => Cz10 w' s (iv_ D) (.slice X E.length a0) (.slice Y G.length a1) (iv_ I) (iv_ J) (iv_ L) (iv_ M) (iv_ O) (.slice Z T.length a2) (iv_ U)) (ds := []) (bo_ 11 0) (by kernel_rfl) rfl rfl (cz10_ u) (fun hHeld => ?_); refine with_tabW spec_DrawSpeakingSpans.tab3 spec_DrawSpeakingSpans.bits3 (fun HT_ HW_ => ?_)
 generalize g4.drew = l3 at y z B m u x HB hHeld ⊢
 refine pur_ 1 (bo_ 11 2) (some 22) HT_ ?_
 refine pur_ 2 (bo_ 11 6) (some 23) HT_ ?_
 refine pur_ 4 (bo_ 11 22) (some 25) HT_ ?_
 refine pur_ 5 (bo_ 11 54) (some 26) HT_ ?_
 refine tak_ 0 (bo_ 11 55) (some 21) HT_ HW_ hHeld ?_
 refine one_ (i := 3) (N := some 24) (bo_ 11 63) rfl rfl (one_of HT_.out (by kernel_rfl)) (by decide) (fun K hK => ?_)
 refine goes_ Try.func60 (by kernel_rfl) rfl #[.pointer (some ⟨a8, 0, none⟩), iv_ 8] (by rfl) rfl rfl mp_ ?_
 with_reducible refine (spec_l1Below.calls a8 a9 b0 b1 8 g1 g2 g3 w _ ?side1 ?side2 A4.out).mono ?_
 (case side1 => repeat (first | (with_reducible first | exact x.out | apply IsS102.alloc | apply IsS102.drewN | apply IsS102.drew | apply IsS102.set_1 | apply IsS102.set_2 | refine IsS102.far ?_ b2.out _ | refine IsS102.far ?_ b3.out _) | exact x.out))
 (case side2 => repeat (first | (with_reducible first | exact HB.out | apply below_alloc | apply pw_below_drewN | apply below_drew1 | refine below_set ?_ (IsS102.ge x.out) | refine below_set ?_ a6.out | refine below_set ?_ b5.out) | exact HB.out))
 rintro e a5 ⟨rfl, hi, hb, hk⟩
 refine ⟨_, rfl, sh7_ (KeepBut.blk hk (g' := j) (o := .cells #[iv_ 0, .slice none 0 0, .slice none 0 0, iv_ 0, iv_ 0, iv_ 0, iv_ 0, iv_ 0, .slice none 0 0, iv_ 0] 28 (0, 0)) (bk_ m) f3.out (by simp)) (Kd.R_mono (Kd.R_keep (IsS102.apart (show IsS102 w _ a8 a9 b0 b1 from by repeat (first | (with_reducible first | exact x.out | apply IsS102.alloc | apply IsS102.drewN | apply IsS102.drew | apply IsS102.set_1 | apply IsS102.set_2 | refine IsS102.far ?_ b2.out _ | refine IsS102.far ?_ b3.out _) | exact x.out)) (ra_ y) (by decide)) hk (fun _ h => h.2)) (fun _ h => h.1)) (Kd.R_mono (Kd.R_keep (IsS102.apart (show IsS102 w _ a8 a9 b0 b1 from by repeat (first | (with_reducible first | exact x.out | apply IsS102.alloc | apply IsS102.drewN | apply IsS102.drew | apply IsS102.set_1 | apply IsS102.set_2 | refine IsS102.far ?_ b2.out _ | refine IsS102.far ?_ b3.out _) | exact x.out)) (ra_ z) (by decide)) hk (fun _ h => h.2)) (fun _ h => h.1)) (Kd.R_mono (Kd.R_keep (IsS102.apart (show IsS102 w _ a8 a9 b0 b1 from by repeat (first | (with_reducible first | exact x.out | apply IsS102.alloc | apply IsS102.drewN | apply IsS102.drew | apply IsS102.set_1 | apply IsS102.set_2 | refine IsS102.far ?_ b2.out _ | refine IsS102.far ?_ b3.out _) | exact x.out)) (ra_ B) (by decide)) hk (fun _ h => h.2)) (fun _ h => h.1)) (KeepBut.blk hk (g' := s) (o := .cells #[iv_ D, .slice X E.length a0, .slice Y G.length a1, iv_ I, iv_ J, iv_ L, iv_ M, iv_ O, .slice Z T.length a2, iv_ U] 28 (0, 0)) (bk_ u) f4.out (by simp)) hb hi ?_⟩
 clear m y z B u HB x hb hk hi
 intro m y z B u HB x
 refine hK.out _ _ (cz10_ u) (fun hHeld => ?_)
 clear hK K
 refine norm_ (show Act.put _ (some 24) _ = _ from pt_) ?_
 refine one_ (i := 6) (N := none) (bo_ 11 127) rfl rfl (one_of HT_.out (by kernel_rfl)) (by decide) (fun K hK => ?_)
 have j8 : a5.cell? ⟨j, 0, none⟩ = some (iv_ 0) := bc_ m 0 rfl
 have g6 := bf_ m 0
 have i8 := l.out
 have h6 := a3.out
 have j9 : a5.cell? ⟨j, 1, none⟩ = some (.slice none 0 0) := bc_ m 1 rfl
 have g7 := bf_ m 1
 have i9 := l.out
 have h7 := a3.out
 have k0 : a5.cell? ⟨j, 2, none⟩ = some (.slice none 0 0) := bc_ m 2 rfl
 have g8 := bf_ m 2
 have j0 := l.out
 have h8 := a3.out
 have k1 : a5.cell? ⟨j, 3, none⟩ = some (iv_ 0) := bc_ m 3 rfl
 have g9 := bf_ m 3
 have j1 := l.out
 have h9 := a3.out
 have k2 : a5.cell? ⟨j, 4, none⟩ = some (iv_ 0) := bc_ m 4 rfl
 have h0 := bf_ m 4
 have j2 := l.out
 have i0 := a3.out
 have k3 : a5.cell? ⟨j, 5, none⟩ = some (iv_ 0) := bc_ m 5 rfl
 have h1 := bf_ m 5
 have j3 := l.out
 have i1 := a3.out
 have k4 : a5.cell? ⟨j, 6, none⟩ = some (iv_ 0) := bc_ m 6 rfl
 have h2 := bf_ m 6
 have j4 := l.out
 have i2 := a3.out
 have k5 : a5.cell? ⟨j, 7, none⟩ = some (iv_ 0) := bc_ m 7 rfl
 have h3 := bf_ m 7
 have j5 := l.out
 have i3 := a3.out
 have k6 : a5.cell? ⟨j, 8, none⟩ = some (.slice none 0 0) := bc_ m 8 rfl
 have h4 := bf_ m 8
 have j6 := l.out
 have i4 := a3.out
 have k7 : a5.cell? ⟨j, 9, none⟩ = some (iv_ 0) := bc_ m 9 rfl
 have h5 := bf_ m 9
 have j7 := l.out
 have i5 := a3.out
 refine skip_ (w1 := ?_) (by rfl) rfl ?_ ?_
 rotate_left
 ·go_simp
  rfl
 refine hK.out _ _ ⟨((cell_far (p := ⟨j, _, none⟩) l.out _).trans (((cell_far (p := ⟨j, _, none⟩) l.out _).trans (((cell_far (p := ⟨j, _, none⟩) l.out _).trans (((cell_far (p := ⟨j, _, none⟩) l.out _).trans (((cell_far (p := ⟨j, _, none⟩) l.out _).trans (((cell_far (p := ⟨j, _, none⟩) l.out _).trans (((cell_far (p := ⟨j, _, none⟩) l.out _).trans (((cell_far (p := ⟨j, _, none⟩) l.out _).trans (((cell_far (p := ⟨j, _, none⟩) l.out _).trans (((cell_far (p := ⟨j, _, none⟩) l.out _).trans (hHeld.1)))))))))))))))))))), ((cell_far (p := ⟨j, _, none⟩) l.out _).trans (((cell_far (p := ⟨j, _, none⟩) l.out _).trans (((cell_far (p := ⟨j, _, none⟩) l.out _).trans (((cell_far (p := ⟨j, _, none⟩) l.out _).trans (((cell_far (p := ⟨j, _, none⟩) l.out _).trans (((cell_far (p := ⟨j, _, none⟩) l.out _).trans (((cell_far (p := ⟨j, _, none⟩) l.out _).trans (((cell_far (p := ⟨j, _, none⟩) l.out _).trans (((cell_far (p := ⟨j, _, none⟩) l.out _).trans (((cell_far (p := ⟨j, _, none⟩) l.out _).trans (hHeld.2.1)))))))))))))))))))), ((cell_far (p := ⟨j, _, none⟩) l.out _).trans (((cell_far (p := ⟨j, _, none⟩) l.out _).trans (((cell_far (p := ⟨j, _, none⟩) l.out _).trans (((cell_far (p := ⟨j, _, none⟩) l.out _).trans (((cell_far (p := ⟨j, _, none⟩) l.out _).trans (((cell_far (p := ⟨j, _, none⟩) l.out _).trans (((cell_far (p := ⟨j, _, none⟩) l.out _).trans (((cell_far (p := ⟨j, _, none⟩) l.out _).trans (((cell_far (p := ⟨j, _, none⟩) l.out _).trans (((cell_far (p := ⟨j, _, none⟩) l.out _).trans (hHeld.2.2.1)))))))))))))))))))), ((cell_far (p := ⟨j, _, none⟩) l.out _).trans (((cell_far (p := ⟨j, _, none⟩) l.out _).trans (((cell_far (p := ⟨j, _, none⟩) l.out _).trans (((cell_far (p := ⟨j, _, none⟩) l.out _).trans (((cell_far (p := ⟨j, _, none⟩) l.out _).trans (((cell_far (p := ⟨j, _, none⟩) l.out _).trans (((cell_far (p := ⟨j, _, none⟩) l.out _).trans (((cell_far (p := ⟨j, _, none⟩) l.out _).trans (((cell_far (p := ⟨j, _, none⟩) l.out _).trans (((cell_far (p := ⟨j, _, none⟩) l.out _).trans (hHeld.2.2.2.1)))))))))))))))))))), ((cell_far (p := ⟨j, _, none⟩) l.out _).trans (((cell_far (p := ⟨j, _, none⟩) l.out _).trans (((cell_far (p := ⟨j, _, none⟩) l.out _).trans (((cell_far (p := ⟨j, _, none⟩) l.out _).trans (((cell_far (p := ⟨j, _, none⟩) l.out _).trans (((cell_far (p := ⟨j, _, none⟩) l.out _).trans (((cell_far (p := ⟨j, _, none⟩) l.out _).trans (((cell_far (p := ⟨j, _, none⟩) l.out _).trans (((cell_far (p := ⟨j, _, none⟩) l.out _).trans (((cell_far (p := ⟨j, _, none⟩) l.out _).trans (hHeld.2.2.2.2.1)))))))))))))))))))), ((cell_far (p := ⟨j, _, none⟩) l.out _).trans (((cell_far (p := ⟨j, _, none⟩) l.out _).trans (((cell_far (p := ⟨j, _, none⟩) l.out _).trans (((cell_far (p := ⟨j, _, none⟩) l.out _).trans (((cell_far (p := ⟨j, _, none⟩) l.out _).trans (((cell_far (p := ⟨j, _, none⟩) l.out _).trans (((cell_far (p := ⟨j, _, none⟩) l.out _).trans (((cell_far (p := ⟨j, _, none⟩) l.out _).trans (((cell_far (p := ⟨j, _, none⟩) l.out _).trans (((cell_far (p := ⟨j, _, none⟩) l.out _).trans (hHeld.2.2.2.2.2.1)))))))))))))))))))), ((cell_far (p := ⟨j, _, none⟩) l.out _).trans (((cell_far (p := ⟨j, _, none⟩) l.out _).trans (((cell_far (p := ⟨j, _, none⟩) l.out _).trans (((cell_far (p := ⟨j, _, none⟩) l.out _).trans (((cell_far (p := ⟨j, _, none⟩) l.out _).trans (((cell_far (p := ⟨j, _, none⟩) l.out _).trans (((cell_far (p := ⟨j, _, none⟩) l.out _).trans (((cell_far (p := ⟨j, _, none⟩) l.out _).trans (((cell_far (p := ⟨j, _, none⟩) l.out _).trans (((cell_far (p := ⟨j, _, none⟩) l.out _).trans (hHeld.2.2.2.2.2.2.1)))))))))))))))))))), ((cell_far (p := ⟨j, _, none⟩) l.out _).trans (((cell_far (p := ⟨j, _, none⟩) l.out _).trans (((cell_far (p := ⟨j, _, none⟩) l.out _).trans (((cell_far (p := ⟨j, _, none⟩) l.out _).trans (((cell_far (p := ⟨j, _, none⟩) l.out _).trans (((cell_far (p := ⟨j, _, none⟩) l.out _).trans (((cell_far (p := ⟨j, _, none⟩) l.out _).trans (((cell_far (p := ⟨j, _, none⟩) l.out _).trans (((cell_far (p := ⟨j, _, none⟩) l.out _).trans (((cell_far (p := ⟨j, _, none⟩) l.out _).trans (hHeld.2.2.2.2.2.2.2.1)))))))))))))))))))), ((cell_far (p := ⟨j, _, none⟩) l.out _).trans (((cell_far (p := ⟨j, _, none⟩) l.out _).trans (((cell_far (p := ⟨j, _, none⟩) l.out _).trans (((cell_far (p := ⟨j, _, none⟩) l.out _).trans (((cell_far (p := ⟨j, _, none⟩) l.out _).trans (((cell_far (p := ⟨j, _, none⟩) l.out _).trans (((cell_far (p := ⟨j, _, none⟩) l.out _).trans (((cell_far (p := ⟨j, _, none⟩) l.out _).trans (((cell_far (p := ⟨j, _, none⟩) l.out _).trans (((cell_far (p := ⟨j, _, none⟩) l.out _).trans (hHeld.2.2.2.2.2.2.2.2.1)))))))))))))))))))), ((cell_far (p := ⟨j, _, none⟩) l.out _).trans (((cell_far (p := ⟨j, _, none⟩) l.out _).trans (((cell_far (p := ⟨j, _, none⟩) l.out _).trans (((cell_far (p := ⟨j, _, none⟩) l.out _).trans (((cell_far (p := ⟨j, _, none⟩) l.out _).trans (((cell_far (p := ⟨j, _, none⟩) l.out _).trans (((cell_far (p := ⟨j, _, none⟩) l.out _).trans (((cell_far (p := ⟨j, _, none⟩) l.out _).trans (((cell_far (p := ⟨j, _, none⟩) l.out _).trans (((cell_far (p := ⟨j, _, none⟩) l.out _).trans (hHeld.2.2.2.2.2.2.2.2.2))))))))))))))))))))⟩ (fun hHeld => ?_)
 clear hK K
 refine pur_ 7 (bo_ 11 255) (some 3) HT_ ?_
 refine pur_ 8 (bo_ 11 511) (some 4) HT_ ?_
 refine pur_ 9 (bo_ 11 1023) (some 5) HT_ ?_
 refine pur_ 10 (bo_ 11 2047) (some 6) HT_ ?_
 refine done_ (done_of HT_.out (by kernel_rfl)) ?_
 try go_wp2
 refine bodyPost_ret (results_list (rs := [.cell 2 28, .tmp 3, .tmp 4, .tmp 5, .tmp 6]) rfl (by simp) (.cell j 28 #[iv_ D, .slice X E.length a0, .slice Y G.length a1, iv_ I, iv_ J, iv_ L, iv_ M, iv_ O, .slice Z T.length a2, iv_ U] (0, 0) _ rfl (bp_ m) Try.underlying28 rfl (by kernel_rfl) (.tmp (.tmp (.tmp (.tmp .nil)))))) rfl ?_
 exact ⟨_, _, _, by first | (rw [hRT_.out]; rfl) | exact er_, by (with_reducible repeat (first | apply Kd.R_alloc | apply Kd.R_drewN | apply Kd.R_drew)); exact Kd.R_mono (Kd.R_far (p := ⟨j, 9, none⟩) (Kd.R_far (p := ⟨j, 8, none⟩) (Kd.R_far (p := ⟨j, 7, none⟩) (Kd.R_far (p := ⟨j, 6, none⟩) (Kd.R_far (p := ⟨j, 5, none⟩) (Kd.R_far (p := ⟨j, 4, none⟩) (Kd.R_far (p := ⟨j, 3, none⟩) (Kd.R_far (p := ⟨j, 2, none⟩) (Kd.R_far (p := ⟨j, 1, none⟩) (Kd.R_far (p := ⟨j, 0, none⟩) (Kd.R_types y.out m.out (by decide)) (fun _ hk => hk.2) (iv_ D)) (fun _ hk => hk.2) (.slice X E.length a0)) (fun _ hk => hk.2) (.slice Y G.length a1)) (fun _ hk => hk.2) (iv_ I)) (fun _ hk => hk.2) (iv_ J)) (fun _ hk => hk.2) (iv_ L)) (fun _ hk => hk.2) (iv_ M)) (fun _ hk => hk.2) (iv_ O)) (fun _ hk => hk.2) (.slice Z T.length a2)) (fun _ hk => hk.2) (iv_ U)) (fun _ hk => trivial), by (with_reducible repeat (first | apply Kd.R_alloc | apply Kd.R_drewN | apply Kd.R_drew)); exact Kd.R_mono (Kd.R_far (p := ⟨j, 9, none⟩) (Kd.R_far (p := ⟨j, 8, none⟩) (Kd.R_far (p := ⟨j, 7, none⟩) (Kd.R_far (p := ⟨j, 6, none⟩) (Kd.R_far (p := ⟨j, 5, none⟩) (Kd.R_far (p := ⟨j, 4, none⟩) (Kd.R_far (p := ⟨j, 3, none⟩) (Kd.R_far (p := ⟨j, 2, none⟩) (Kd.R_far (p := ⟨j, 1, none⟩) (Kd.R_far (p := ⟨j, 0, none⟩) (Kd.R_types z.out m.out (by decide)) (fun _ hk => hk.2) (iv_ D)) (fun _ hk => hk.2) (.slice X E.length a0)) (fun _ hk => hk.2) (.slice Y G.length a1)) (fun _ hk => hk.2) (iv_ I)) (fun _ hk => hk.2) (iv_ J)) (fun _ hk => hk.2) (iv_ L)) (fun _ hk => hk.2) (iv_ M)) (fun _ hk => hk.2) (iv_ O)) (fun _ hk => hk.2) (.slice Z T.length a2)) (fun _ hk => hk.2) (iv_ U)) (fun _ hk => trivial), by (with_reducible repeat (first | apply Kd.R_alloc | apply Kd.R_drewN | apply Kd.R_drew)); exact Kd.R_mono (Kd.R_far (p := ⟨j, 9, none⟩) (Kd.R_far (p := ⟨j, 8, none⟩) (Kd.R_far (p := ⟨j, 7, none⟩) (Kd.R_far (p := ⟨j, 6, none⟩) (Kd.R_far (p := ⟨j, 5, none⟩) (Kd.R_far (p := ⟨j, 4, none⟩) (Kd.R_far (p := ⟨j, 3, none⟩) (Kd.R_far (p := ⟨j, 2, none⟩) (Kd.R_far (p := ⟨j, 1, none⟩) (Kd.R_far (p := ⟨j, 0, none⟩) (Kd.R_types B.out m.out (by decide)) (fun _ hk => hk.2) (iv_ D)) (fun _ hk => hk.2) (.slice X E.length a0)) (fun _ hk => hk.2) (.slice Y G.length a1)) (fun _ hk => hk.2) (iv_ I)) (fun _ hk => hk.2) (iv_ J)) (fun _ hk => hk.2) (iv_ L)) (fun _ hk => hk.2) (iv_ M)) (fun _ hk => hk.2) (iv_ O)) (fun _ hk => hk.2) (.slice Z T.length a2)) (fun _ hk => hk.2) (iv_ U)) (fun _ hk => trivial), by repeat (first | (with_reducible first | exact HB.out | apply below_alloc | apply pw_below_drewN | apply below_drew1 | refine below_set ?_ (IsS102.ge x.out) | refine below_set ?_ a6.out | refine below_set ?_ b5.out) | exact HB.out)⟩

section
variable {P : Program} {ops : Array Oper} {Q : Exit → Act → World → Prop}
theorem gate_fnval {rest : List Oper} {o : Oper} {a : Act} {W : World} {s : Tmp} {az : Array Operand} {ts : Array TypeId} (_ho : o.op = .call { callee := .value (.tmp s), args := az, argTypes := ts }) (h : wpList P ops Q (o :: rest) a W) : wpList P ops Q (o :: rest) a W := h
theorem goesF_ {rest : List Oper} {oi : Oper} {a : Act} {w : World} (N : Option Tmp) (hd : oi.dst = N) (hg : oi.guard = none) {f : FuncId} {lb : Array Value} {s : Tmp} {az : Array Operand} {ts : Array TypeId} (eg : ∀ args w, (callFunc f args).run P w = .ok (.enter f args) w) (args : Array Value)
  (hop : oi.op = .call { callee := .value (.tmp s), args := az, argTypes := ts }) (hs : a.eval (.tmp s) = .func (.func f) #[] lb) (hargs : az.map a.eval = args)
  (h : Calls P f (args ++ lb) w fun e w' => ∃ v, e = .returned v ∧ wpList P ops Q rest (a.put N v) w') : wpList P ops Q (oi :: rest) a w := by
 refine wpList_plain hg fun K hK => ?_
 have he := eg (args ++ lb) w
 have hrun : (execOp a.eval oi).run P w = .ok (.enter f (args ++ lb)) w := by
  unfold execOp
  simp [hop, resolve, Deferred.ofValue, invoke, hs, hargs, he]
 unfold Oper.wp
 rw [hrun, Oper.upon_enter]
 refine h.mono fun e w'' hh => ?_
 obtain ⟨v, rfl, hk⟩ := hh
 subst hd
 exact hK _ _ hk
end
/-! ### spansWhere, at any function value: function 61 -/
def sw.l0 (q : Nat → Int → Option Bool) : Nat → Int → List S82 → Int → Option (List S82)
 | 0, _, _, _ => none
 | k + 1, m, j, l => if l < (mn m 1000) then ((q k l).bind fun s => (if s = true then (if (wrap64 ((j.length : Int) - 1)) ≥ 0 then (if 0 ≤ (wrap64 ((j.length : Int) - 1)) then (if (wrap64 ((j.length : Int) - 1)) < (j.length : Int) then (if ((rd_T82 j (wrap64 ((j.length : Int) - 1))).f1) = l then (sw.l0 q k m (j.set ((wrap64 ((j.length : Int) - 1)) : Int).toNat (⟨(rd_T82 j (wrap64 ((j.length : Int) - 1))).f0, wrap64 (((rd_T82 j (wrap64 ((j.length : Int) - 1))).f1) + 1)⟩ : S82)) (wrap64 (l + 1))) else (if j.length < 8796093022208 then (sw.l0 q k m (j ++ [(⟨l, wrap64 (l + 1)⟩ : S82)]) (wrap64 (l + 1))) else (none))) else (none)) else (none)) else (if j.length < 8796093022208 then (sw.l0 q k m (j ++ [(⟨l, wrap64 (l + 1)⟩ : S82)]) (wrap64 (l + 1))) else (none))) else (sw.l0 q k m j (wrap64 (l + 1))))) else (some j)
def sw.f (q : Nat → Int → Option Bool) (k : Nat) (j l : Int) : Option (List S82) := sw.l0 q k l (([] : List S82)) (mx j 0)
theorem sw.calls (q : Nat → Int → Option Bool) (k : Nat) (I y : Int) (r : List S82) (w : World) (gF : FuncId) (lb : Array Value) (eg : ∀ args w, (callFunc gF args).run Try.prog w = .ok (.enter gF args) w) (hq : ∀ (k' : Nat) (t : Int) (b : Bool) (W : World), q k' t = some b → Below w.heap.size w W → Calls Try.prog gF (#[iv_ t] ++ lb) W fun e w' => e = .returned (.bool b) ∧ Below W.heap.size W w') (h : sw.f q k I y = some r) :
  Calls Try.prog 61 #[iv_ I, iv_ y, .func (.func gF) #[] lb] w fun e w' => ∃ d5 : Value, e = .returned (d5) ∧ Kd.R k82 82 w' w.heap.size (fun _ => True) d5 r ∧ Below w.heap.size w w' := by
 have i6 := Try.underlying82
 have HB := Aside0.mk (Below.refl w.heap.size w)
 have H := h
 clear h
 unfold sw.f at H
 replace H : ∃ y_ : List S82, Aside0 (y_ = (([] : List S82))) ∧ (sw.l0 q k y y_ (mx I 0)) = some r := ⟨_, ⟨rfl⟩, yh_ H⟩
 obtain ⟨d6, b2, H⟩ := H
 obtain ⟨ji4, hji4⟩ : ∃ j_ : Int, (mx I 0) = j_ := ⟨_, rfl⟩
 replace H : (sw.l0 q k y d6 ji4) = some r := by first | (rw [hji4] at H; exact H) | (simp only [hji4] at H ⊢; exact H)
 (try (have i3 : 0 ≤ ji4 := by (rw [← hji4]; unfold mx; (repeat' split) <;> omega)))
 (try (have i4 : 0 ≤ ji4 := by omega))
 have i2 : (if I < 0 then 0 else I) = ji4 := hji4
 have H' := Aside0.mk H
 clear H
 go_enter Try.func61, Try.ntmps61
 go_wp2_with (first | ((with_reducible refine gate_dst (N := 10) rfl ?_); refine Kd.R_lit k82 _ 82 ?hg (N := 10) ?hd (xs := ([] : List S82)) (inner := []) (ok := fun _ => True) (okp := fun _ => True) ?hr ?hp (fun _ hk => hk) trivial (Below.refl _ _) (Nat.le_refl _) (by simp) ?_; (case hd => rfl); (case hg => rfl); (case hr => first | (go_simp; done) | (go_simp; rfl)); (case hp => exact (Reps.none _ _)); intro i9 w5 O hb hg_ hnew_; clear hg_ hnew_; (first | rw [← b2.out] at O | (simp only [Int.reduceToNat] at O; rw [← b2.out] at O)); refine sh2_ (Kd.R_lower O (below_size (bl_ HB))) (below_step (bl_ HB) hb) ?_; clear HB hb O; intro e0 HB))
 go_loopg [7, 8] k (fun kq v7 v8 w' => ∃ (l : List S82) (m : Int), v8 = iv_ m ∧ Aside0 (sw.l0 q kq y l m = some r) ∧ Aside0 (kq ≤ k) ∧ Aside0 (Kd.R k82 82 w' w.heap.size (fun _ => True) v7 l) ∧ Aside0 (Below w.heap.size w w'))
 case atStart => exact ⟨(d6), (ji4), (by first | rfl | (simp; done) | (simp only [← hji4] <;> (first | rfl | simp)) | (simp [*]; done)), H', ⟨Nat.le_refl _⟩, ⟨ra_ e0⟩, ⟨bl_ HB⟩⟩
 case round =>
  clear H'
  obtain ⟨l, m, rfl, HA, z, u, HB⟩ := hrel
  cases gk with
  | zero => exact absurd HA.out (by simp [sw.l0])
  | succ x =>
   have H := HA.out
   clear HA
   simp only [sw.l0] at H
   obtain ⟨ji7, hji7⟩ : ∃ j_ : Int, (mn y 1000) = j_ := ⟨_, rfl⟩
   replace H : (if m < (ji7) then ((q x m).bind fun a7 => (if a7 = true then (if (wrap64 ((l.length : Int) - 1)) ≥ 0 then (if 0 ≤ (wrap64 ((l.length : Int) - 1)) then (if (wrap64 ((l.length : Int) - 1)) < (l.length : Int) then (if ((rd_T82 l (wrap64 ((l.length : Int) - 1))).f1) = m then (sw.l0 q x y (l.set ((wrap64 ((l.length : Int) - 1)) : Int).toNat (⟨(rd_T82 l (wrap64 ((l.length : Int) - 1))).f0, wrap64 (((rd_T82 l (wrap64 ((l.length : Int) - 1))).f1) + 1)⟩ : S82)) (wrap64 (m + 1))) else (if l.length < 8796093022208 then (sw.l0 q x y (l ++ [(⟨m, wrap64 (m + 1)⟩ : S82)]) (wrap64 (m + 1))) else (none))) else (none)) else (none)) else (if l.length < 8796093022208 then (sw.l0 q x y (l ++ [(⟨m, wrap64 (m + 1)⟩ : S82)]) (wrap64 (m + 1))) else (none))) else (sw.l0 q x y l (wrap64 (m + 1))))) else (some l)) = some r := by first | (rw [hji7] at H; exact H) | (simp only [hji7] at H ⊢; exact H)
   have i5 : (if 1000 < y then 1000 else y) = ji7 := hji7
   by_cases c8 : m < (ji7)
   ·rw [if_pos c8] at H
    have f3 := decide_eq_true c8
    clear c8
    replace H := bs_ H
    obtain ⟨a7, L, H⟩ := H
    by_cases c10 : a7 = true
    ·subst c10
     rw [if_pos rfl] at H
     by_cases J : (wrap64 ((l.length : Int) - 1)) ≥ 0
     ·rw [if_pos J] at H
      have b3 : decide (0 ≤ (wrap64 ((l.length : Int) - 1))) = true := decide_eq_true J
      clear J
      obtain ⟨ji12, hji12⟩ : ∃ j_ : Int, (wrap64 ((l.length : Int) - 1)) = j_ := ⟨_, rfl⟩
      replace H : (if 0 ≤ (ji12) then (if (ji12) < (l.length : Int) then (if ((rd_T82 l (ji12)).f1) = m then (sw.l0 q x y (l.set ((ji12) : Int).toNat (⟨(rd_T82 l (ji12)).f0, wrap64 (((rd_T82 l (ji12)).f1) + 1)⟩ : S82)) (wrap64 (m + 1))) else (if l.length < 8796093022208 then (sw.l0 q x y (l ++ [(⟨m, wrap64 (m + 1)⟩ : S82)]) (wrap64 (m + 1))) else (none))) else (none)) else (none)) = some r := by first | (rw [hji12] at H; exact H) | (simp only [hji12] at H ⊢; exact H)
      (try rw [hji12] at b3)
      (try rw [hji12] at L)
      have i1 : (IntKind.i64.wrap ((l.length : Int) - 1)) = ji12 := (i64_w _).trans hji12
      replace H := ifn_ H
      obtain ⟨b4, H⟩ := H
      have h3 := decide_eq_true b4
      clear b4
      replace H := ifn_ H
      obtain ⟨b5, H⟩ := H
      have h4 := decide_eq_true b5
      clear b5
      by_cases M : ((rd_T82 l (ji12)).f1) = m
      ·rw [if_pos M] at H
       obtain ⟨e9, f2⟩ := bt_ M
       clear M
       replace H : ∃ y_ : List S82, Aside0 (y_ = (l.set ((ji12) : Int).toNat (⟨(rd_T82 l (ji12)).f0, wrap64 (((rd_T82 l (ji12)).f1) + 1)⟩ : S82))) ∧ (sw.l0 q x y y_ (wrap64 (m + 1))) = some r := ⟨_, ⟨rfl⟩, yh_ H⟩
       obtain ⟨d7, e5, H⟩ := H
       have H' := Aside0.mk H
       clear H
       go_wp2_with (first | ((with_reducible refine gate_fnval (s := 19) rfl ?_); refine goesF_ (some 21) rfl rfl eg #[iv_ m] rfl rfl mp_ ?_; (refine (hq x m true _ L.out (bl_ HB)).mono ?_); rintro e G ⟨rfl, hb⟩; refine ⟨_, rfl, sh2_ (Kd.R_below (ra_ u) hb) (below_step (bl_ HB) hb) ?_⟩; clear u HB hb; intro u HB; obtain ⟨h0, b8, f7⟩ := Kd.R_slice u.out; subst f7; have D : 0 ≤ ((ji12) : Int) := od_; have E : (ji12) < (l.length : Int) := od_; obtain ⟨U, X, d3, d4⟩ := at_T82 (Kd.R_reads' u.out).2.2 (ji12) D E; cases X; replace D := eq_true D; replace E := eq_true E; have a4 : 0 ≤ ((ji12) : Int) := od_; have a6 : (ji12) < (l.length : Int) := od_; obtain ⟨e8, f6, g4, g5⟩ := at_T82 (Kd.R_reads' u.out).2.2 (ji12) a4 a6; obtain rfl : U = e8 := (by injection f6); replace a4 := eq_true a4; replace a6 := eq_true a6; have a3 : 0 ≤ ((ji12) : Int) := od_; have a5 : ((ji12) : Int) < ((l.length : Int) : Int) := od_; obtain ⟨B, h8, b9, c0, g0, h7, b0⟩ := Kd.R_form u.out (by omega); (first | cases b9 | (injection b9 with ea_ en_ ec_; (first | subst ea_ | (injection ea_ with ea_; subst ea_)); subst ec_; clear en_)); have d9 := Aside0.mk c0; have h2 := Aside0.mk b0; clear c0 g0 b0; (first | simp only [add_plain] at d3 | skip); (first | simp only [add_plain] at d4 | skip); (first | simp only [add_plain] at g4 | skip); (first | simp only [add_plain] at g5 | skip); obtain ⟨h5, g1, c1, Y, a2⟩ := Kd.R_elem u.out z82 ((ji12) : Int) a3 a5; obtain rfl := k82_openM c1; have i7 : G.cell? ⟨B, ((ji12) : Int).toNat * 2, none⟩ = some (iv_ ((rd_T82 l (ji12)).f0)) := Y 0 _ rfl; have i8 : G.cell? ⟨B, ((ji12) : Int).toNat * 2 + 1, none⟩ = some (iv_ ((rd_T82 l (ji12)).f1)) := Y 1 _ rfl; have h9 : G.frozen? ⟨B, ((ji12) : Int).toNat * 2, none⟩ = false := a2 0; have i0 : G.frozen? ⟨B, ((ji12) : Int).toNat * 2 + 1, none⟩ = false := a2 1; clear g1 Y a2 c1; replace a3 := eq_true a3; replace a5 := eq_true a5; have b1 := Aside0.mk (show Kd.R k82 82 G w.heap.size (fun _ => True) (.slice (some ⟨B, 0, none⟩) l.length b8) l from (ra_ u)); obtain ⟨h6, d1, d0, Z, d2⟩ := Kd.R_elem b1.out z82 ((ji12) : Int) od_ (by have h_ : ((ji12) : Int) < ((l.length : Int) : Int) := od_; first | exact h_ | (have e_ := (Kd.R_reads' u.out).1; omega) | simpa using h_); obtain rfl := k82_openM d0; have T := Kd.R_seg b1.out ((ji12) : Int) od_ (by have h_ : ((ji12) : Int) < ((l.length : Int) : Int) := od_; first | exact h_ | (have e_ := (Kd.R_reads' u.out).1; omega) | simpa using h_) (seg := [iv_ (wrap64 (((rd_T82 l (ji12)).f1) + 1))]) (j := 1) d1 Z (show 2 ≤ 2 from by decide) (x' := (⟨(rd_T82 l (ji12)).f0, wrap64 (((rd_T82 l (ji12)).f1) + 1)⟩ : S82)) (k82_mkM _ _ _ (⟨(rd_T82 l (ji12)).f0, wrap64 (((rd_T82 l (ji12)).f1) + 1)⟩ : S82) ) (fun _ hk => hk); have g3 := Z 1 _ rfl; (try simp only [show (k82).sz = 2 from rfl, Nat.mul_one, Nat.add_zero] at g3); have g2 := d2 1; (try simp only [show (k82).sz = 2 from rfl, Nat.mul_one, Nat.add_zero] at g2); clear d1 Z d2 d0) | ((with_reducible refine gate_store (t := 3) (p := 44) rfl ?_); refine store_event (t := 3) (p := 44) (v := ?vo_w20) (w1 := (G.setCell ⟨B, ((ji12) : Int).toNat * 2 + 1, none⟩ (iv_ (wrap64 (((rd_T82 l (ji12)).f1) + 1))))) ?hg ?ho ?hn ?hr ?_; (case ho => rfl); (case hg => rfl); (case hn => rfl); (case hr => first | (go_simp; done) | (go_simp; rfl)); intro a8 hw; have hg : G.grownBy a8 (some B) := (by rw [hw]; exact T.2); have hp_ : Kd.R k82 82 a8 w.heap.size (fun _ => True) (.slice (some ⟨B, 0, none⟩) l.length b8) d7 := (by rw [hw, e5.out]; exact T.1); clear T; refine sh2_ hp_ ((by rw [hw]; exact below_set (HB.out) d9.out : Below w.heap.size w a8)) ?_; clear u HB; intro u HB; clear hg hw hp_))
       go_roundg x
       case measure => have := z.out; omega
       case rel => exact ⟨(d7), (wrap64 (m + 1)), (by first | rfl | (simp; done) | (simp [*]; done)), H', ⟨by have := z.out; omega⟩, ⟨ra_ u⟩, ⟨bl_ HB⟩⟩
      ·rw [if_neg M] at H
       obtain ⟨e9, f2⟩ := bn_ M
       replace H := ifn_ H
       obtain ⟨b6, H⟩ := H
       have e3 := Aside0.mk b6
       clear b6
       replace H : ∃ y_ : List S82, Aside0 (y_ = (l ++ [(⟨m, wrap64 (m + 1)⟩ : S82)])) ∧ (sw.l0 q x y y_ (wrap64 (m + 1))) = some r := ⟨_, ⟨rfl⟩, yh_ H⟩
       obtain ⟨g8, e6, H⟩ := H
       have H' := Aside0.mk H
       clear H
       go_wp2_with (first | ((with_reducible refine gate_fnval (s := 19) rfl ?_); refine goesF_ (some 21) rfl rfl eg #[iv_ m] rfl rfl mp_ ?_; (refine (hq x m true _ L.out (bl_ HB)).mono ?_); rintro e j2 ⟨rfl, hb⟩; refine ⟨_, rfl, sh2_ (Kd.R_below (ra_ u) hb) (below_step (bl_ HB) hb) ?_⟩; clear u HB hb; intro u HB; obtain ⟨h1, f4, f8⟩ := Kd.R_slice u.out; subst f8; have D : 0 ≤ ((ji12) : Int) := od_; have E : (ji12) < (l.length : Int) := od_; obtain ⟨U, X, d3, d4⟩ := at_T82 (Kd.R_reads' u.out).2.2 (ji12) D E; cases X; replace D := eq_true D; replace E := eq_true E) | ((with_reducible refine gate_builtin (b := .append) (xs := #[.tmp 45, .tmp 50]) rfl ?_); at_builtin; refine Kd.R_append k82 (w0 := w) w.heap.size rfl (.tmp 45) (.tmp 50) 40 82 (.agg #[(iv_ 0), (iv_ 0)]) 16 rfl Try.underlying40 info82 rfl (by decide) (by omega) (.slice (some U) l.length f4) l (⟨m, wrap64 (m + 1)⟩ : S82) [iv_ m, iv_ (wrap64 (m + 1))] (fun _ => True) (fun _ => False) rfl rfl ?aP (fun _ hk => hk.elim) ?aF ?aO ?aB ?aS ?aL ?_; (case aP => exact k82_mkM _ _ _ (⟨m, wrap64 (m + 1)⟩ : S82)); (case aB => exact (bl_ HB)); (case aF => exact (fun _ _ => trivial)); (case aO => exact (ra_ u)); (case aS => exact (below_size (bl_ HB))); (case aL => have := e3.out; omega); intro j0 j3 ho hb hg hat; rw [← e6.out] at ho; refine sh2_ hb ho ?_; clear HB u ho hb hg hat; intro HB e1))
       go_roundg x
       case measure => have := z.out; omega
       case rel => exact ⟨(g8), (wrap64 (m + 1)), (by first | rfl | (simp; done) | (simp [*]; done)), H', ⟨by have := z.out; omega⟩, ⟨ra_ e1⟩, ⟨bl_ HB⟩⟩
     ·rw [if_neg J] at H
      have b3 : decide (0 ≤ (wrap64 ((l.length : Int) - 1))) = false := decide_eq_false J
      clear J
      replace H := ifn_ H
      obtain ⟨b7, H⟩ := H
      have e4 := Aside0.mk b7
      clear b7
      replace H : ∃ y_ : List S82, Aside0 (y_ = (l ++ [(⟨m, wrap64 (m + 1)⟩ : S82)])) ∧ (sw.l0 q x y y_ (wrap64 (m + 1))) = some r := ⟨_, ⟨rfl⟩, yh_ H⟩
      obtain ⟨g9, e7, H⟩ := H
      have H' := Aside0.mk H
      clear H
      go_wp2_with (first | ((with_reducible refine gate_fnval (s := 19) rfl ?_); refine goesF_ (some 21) rfl rfl eg #[iv_ m] rfl rfl mp_ ?_; (refine (hq x m true _ L.out (bl_ HB)).mono ?_); rintro e j4 ⟨rfl, hb⟩; refine ⟨_, rfl, sh2_ (Kd.R_below (ra_ u) hb) (below_step (bl_ HB) hb) ?_⟩; clear u HB hb; intro u HB; obtain ⟨d8, f5, f9⟩ := Kd.R_slice u.out; subst f9) | ((with_reducible refine gate_builtin (b := .append) (xs := #[.tmp 45, .tmp 50]) rfl ?_); at_builtin; refine Kd.R_append k82 (w0 := w) w.heap.size rfl (.tmp 45) (.tmp 50) 40 82 (.agg #[(iv_ 0), (iv_ 0)]) 16 rfl Try.underlying40 info82 rfl (by decide) (by omega) (.slice d8 l.length f5) l (⟨m, wrap64 (m + 1)⟩ : S82) [iv_ m, iv_ (wrap64 (m + 1))] (fun _ => True) (fun _ => False) rfl rfl ?aP (fun _ hk => hk.elim) ?aF ?aO ?aB ?aS ?aL ?_; (case aP => exact k82_mkM _ _ _ (⟨m, wrap64 (m + 1)⟩ : S82)); (case aB => exact (bl_ HB)); (case aF => exact (fun _ _ => trivial)); (case aO => exact (ra_ u)); (case aS => exact (below_size (bl_ HB))); (case aL => have := e4.out; omega); intro j1 j5 ho hb hg hat; rw [← e7.out] at ho; refine sh2_ hb ho ?_; clear HB u ho hb hg hat; intro HB e2))
      go_roundg x
      case measure => have := z.out; omega
      case rel => exact ⟨(g9), (wrap64 (m + 1)), (by first | rfl | (simp; done) | (simp [*]; done)), H', ⟨by have := z.out; omega⟩, ⟨ra_ e2⟩, ⟨bl_ HB⟩⟩
    ·replace c10 := Bool.eq_false_iff.mpr c10
     subst c10
     have H1 : (sw.l0 q x y l (wrap64 (m + 1))) = some r := by rw [if_neg (show ¬ (false = true) by decide)] at H; exact H
     clear H
     have H := H1
     clear H1
     have H' := Aside0.mk H
     clear H
     go_wp2_with (first | ((with_reducible refine gate_fnval (s := 19) rfl ?_); refine goesF_ (some 21) rfl rfl eg #[iv_ m] rfl rfl mp_ ?_; (refine (hq x m false _ L.out (bl_ HB)).mono ?_); rintro e j6 ⟨rfl, hb⟩; refine ⟨_, rfl, sh2_ (Kd.R_below (ra_ u) hb) (below_step (bl_ HB) hb) ?_⟩; clear u HB hb; intro u HB))
     go_roundg x
     case measure => have := z.out; omega
     case rel => exact ⟨(l), (wrap64 (m + 1)), (by first | rfl | (simp; done) | (simp [*]; done)), H', ⟨by have := z.out; omega⟩, ⟨ra_ u⟩, ⟨bl_ HB⟩⟩
   ·rw [if_neg c8] at H
    have f3 : decide (m < (ji7)) = false := decide_eq_false c8
    clear c8
    obtain rfl := Option.some.inj H
    go_wp2
    go_ret
    exact ⟨_, by first | rfl | (rw [hRT_.out]; rfl) | (simp [errW_none, errW_some] <;> rfl) | (simp only [← hji4, ← hji7]; first | rfl | (simp [errW_none, errW_some] <;> rfl)) | (simp [*, errW_none, errW_some] <;> rfl), ra_ u, bl_ HB⟩

/-! ### impl_SureWindows_1: function 62 -/
def impl_SureWindows_1.f (k : Nat) (j l : Int) (E : List S72) (G : List S74) (m s u x y : Int) (I : List S88) (z B D : Int) : Option (Bool) := (impl_IsSure.f k l E G m s u x y I z B D j).bind fun J => (some J)
theorem impl_SureWindows_1.calls (k : Nat) (X x : Int) (L : Option Addr) (Y : Nat) (m : List S72) (M : Option Addr) (Z : Nat) (s : List S74) (y z B D E : Int) (O : Option Addr) (a1 : Nat) (u : List S88) (G I J : Int) (r : Bool) (w : World) (j : Nat) (l : w.heap[j]? = some (.cells #[iv_ x, .slice L m.length Y, .slice M s.length Z, iv_ y, iv_ z, iv_ B, iv_ D, iv_ E, .slice O u.length a1, iv_ G] 28 (0, 0))) (T : Nat) (b7 : w.heap[T]? = some (.cells #[iv_ I] 3 (0, 0))) (U : Nat) (b8 : w.heap[U]? = some (.cells #[iv_ J] 3 (0, 0))) (a7 : Kd.C k72 w L m.length m) (a4 : m.length ≤ Y) (a8 : Kd.C k74 w M s.length s) (a5 : s.length ≤ Z) (a9 : Kd.C k88 w O u.length u) (a6 : u.length ≤ a1) (h : impl_SureWindows_1.f k X x m s y z B D E u G I J = some r) :
  Calls Try.prog 62 #[iv_ X, .pointer (some ⟨j, 0, none⟩), .pointer (some ⟨T, 0, none⟩), .pointer (some ⟨U, 0, none⟩)] w fun e w' => e = .returned (.bool r) ∧ Below w.heap.size w w' := by
 have c0 : w.cell? ⟨j, 0, none⟩ = some (iv_ x) := (blk_cell l 0).trans rfl
 have c1 : w.cell? ⟨j, 1, none⟩ = some (.slice L m.length Y) := (blk_cell l 1).trans rfl
 have d0 : w.cell? ⟨j, 2, none⟩ = some (.slice M s.length Z) := (blk_cell l 2).trans rfl
 have d1 : w.cell? ⟨j, 3, none⟩ = some (iv_ y) := (blk_cell l 3).trans rfl
 have d2 : w.cell? ⟨j, 4, none⟩ = some (iv_ z) := (blk_cell l 4).trans rfl
 have d3 : w.cell? ⟨j, 5, none⟩ = some (iv_ B) := (blk_cell l 5).trans rfl
 have d4 : w.cell? ⟨j, 6, none⟩ = some (iv_ D) := (blk_cell l 6).trans rfl
 have d5 : w.cell? ⟨j, 7, none⟩ = some (iv_ E) := (blk_cell l 7).trans rfl
 have d6 : w.cell? ⟨j, 8, none⟩ = some (.slice O u.length a1) := (blk_cell l 8).trans rfl
 have d7 : w.cell? ⟨j, 9, none⟩ = some (iv_ G) := (blk_cell l 9).trans rfl
 have d8 : w.cell? ⟨T, 0, none⟩ = some (iv_ I) := (blk_cell b7 0).trans rfl
 have d9 : w.cell? ⟨U, 0, none⟩ = some (iv_ J) := (blk_cell b8 0).trans rfl
 have b4 := Aside0.mk a7
 have b1 := Aside0.mk a4
 clear a7 a4
 have b5 := Aside0.mk a8
 have b2 := Aside0.mk a5
 clear a8 a5
 have b6 := Aside0.mk a9
 have b3 := Aside0.mk a6
 clear a9 a6
 have HB := Aside0.mk (Below.refl w.heap.size w)
 have H := h
 clear h
 unfold impl_SureWindows_1.f at H
 replace H := bs_ H
 obtain ⟨b9, A5, H⟩ := H
 obtain rfl := Option.some.inj H
 go_enter Try.func62, Try.ntmps62
 go_wp2_with (first | ((with_reducible refine gate_callee (f := 12) rfl ?_); refine gl_ 10 Try.func12 (impl_IsSure.calls k x _ _ m _ _ s y z B D E _ _ u G I J X b9 _ (cq_ b4) b1.out (cq_ b5) b2.out (cq_ b6) b3.out A5.out) ?_; rintro e w6 ⟨rfl, hb⟩; refine ⟨_, rfl, sh1_ (below_step (bl_ HB) hb) ?_⟩; clear HB hb; intro HB))
 go_ret
 exact ⟨by first | (rw [hRT_.out]; rfl) | exact er_, bl_ HB⟩


def where_impl_SureWindows_1.f (k : Nat) (I J j : Int) (D : List S72) (E : List S74) (l m s u x : Int) (G : List S88) (y z B : Int) : Option (List S82) := sw.f (fun k' t' => impl_SureWindows_1.f k' t' j D E l m s u x G y z B) k I J
theorem where_impl_SureWindows_1.calls (k : Nat) (Z y1 s : Int) (I : Option Addr) (U : Nat) (j : List S72) (J : Option Addr) (X : Nat) (l : List S74) (u x y z B : Int) (L : Option Addr) (Y : Nat) (m : List S88) (D E G : Int) (r : List S82) (w : World) (M : Nat) (a4 : w.heap[M]? = some (.cells #[iv_ s, .slice I j.length U, .slice J l.length X, iv_ u, iv_ x, iv_ y, iv_ z, iv_ B, .slice L m.length Y, iv_ D] 28 (0, 0))) (O : Nat) (a6 : w.heap[O]? = some (.cells #[iv_ E] 3 (0, 0))) (T : Nat) (a8 : w.heap[T]? = some (.cells #[iv_ G] 3 (0, 0))) (b3 : Kd.C k72 w I j.length j) (b0 : j.length ≤ U) (b4 : Kd.C k74 w J l.length l) (b1 : l.length ≤ X) (b5 : Kd.C k88 w L m.length m) (b2 : m.length ≤ Y) (h : where_impl_SureWindows_1.f k Z y1 s j l u x y z B m D E G = some r) :
  Calls Try.prog 61 #[iv_ Z, iv_ y1, .func (.func 62) #[] #[.pointer (some ⟨M, 0, none⟩), .pointer (some ⟨O, 0, none⟩), .pointer (some ⟨T, 0, none⟩)]] w fun e w' => ∃ a1 : Value, e = .returned (a1) ∧ Kd.R k82 82 w' w.heap.size (fun _ => True) a1 r ∧ Below w.heap.size w w' := by
 refine sw.calls (fun k' t' => impl_SureWindows_1.f k' t' s j l u x y z B m D E G) k Z y1 r w 62 _ (fun args w => enters_ Try.func62 (by kernel_rfl) rfl args w) (fun k' t b W hq hb => ?_) h
 have a5 := blk_below a4 hb
 have a7 := blk_below a6 hb
 have a9 := blk_below a8 hb
 have hh := impl_SureWindows_1.calls k' t s I U j J X l u x y z B L Y m D E G b W M a5 O a7 T a9 (Kd.C_below b3 hb) b0 (Kd.C_below b4 hb) b1 (Kd.C_below b5 hb) b2 hq
 exact hh.mono (fun e w' hx => ⟨hx.1, hx.2⟩)

/-! ### impl_SureWindows: function 16 -/
def impl_SureWindows.f (k : Nat) (j : Int) (G : List S72) (I : List S74) (l m s u x : Int) (J : List S88) (y z B D E : Int) : Option (List S82) := (where_impl_SureWindows_1.f k D E j G I l m s u x J y z B).bind fun L => (some L)
theorem impl_SureWindows.calls (k : Nat) (z : Int) (O : Option Addr) (Z : Nat) (l : List S72) (T : Option Addr) (a0 : Nat) (m : List S74) (B D E G I : Int) (U : Option Addr) (a5 : Nat) (s : List S88) (J L M X Y : Int) (r : List S82) (w : World) (b1 : Kd.C k72 w O l.length l) (a7 : l.length ≤ Z) (b2 : Kd.C k74 w T m.length m) (a8 : m.length ≤ a0) (b3 : Kd.C k88 w U s.length s) (a9 : s.length ≤ a5) (h : impl_SureWindows.f k z l m B D E G I s J L M X Y = some r) :
  Calls Try.prog 16 #[.agg #[iv_ z, .slice O l.length Z, .slice T m.length a0, iv_ B, iv_ D, iv_ E, iv_ G, iv_ I, .slice U s.length a5, iv_ J], iv_ L, iv_ M, iv_ X, iv_ Y] w fun e w' => ∃ b4 : Value, e = .returned (b4) ∧ Kd.R k82 82 w' w.heap.size (fun _ => True) b4 r ∧ Below w.heap.size w w' := by
 have c1 := Aside0.mk b1
 have b7 := Aside0.mk a7
 clear b1 a7
 have d0 := Aside0.mk b2
 have b8 := Aside0.mk a8
 clear b2 a8
 have d1 := Aside0.mk b3
 have b9 := Aside0.mk a9
 clear b3 a9
 have HB := Aside0.mk (Below.refl w.heap.size w)
 have H := h
 clear h
 unfold impl_SureWindows.f at H
 replace H := bs_ H
 obtain ⟨d5, A6, H⟩ := H
 obtain rfl := Option.some.inj H
 go_enter Try.func16, Try.ntmps16
 go_wp2_with (first | ((with_reducible refine gd_ 5 ?_); refine bx_ 5 28 #[iv_ z, .slice O l.length Z, .slice T m.length a0, iv_ B, iv_ D, iv_ E, iv_ G, iv_ I, .slice U s.length a5, iv_ J] ?_; intro d2 hg d8 hbox hb; refine sh1_ (below_step HB.out hb) ?_; clear HB; intro HB; have j := Aside0.mk hbox; clear hb hg hbox) | ((with_reducible refine gd_ 6 ?_); refine bx_ 6 3 #[iv_ L] ?_; intro d3 hg d9 hbox hb; have x := Aside0.mk (below_step HB.out hb); have u := Aside0.mk (blk_below j.out hb); clear j; have j := u; clear u; clear HB; have HB := x; clear x; have y := Aside0.mk hbox; clear hb hg hbox) | ((with_reducible refine gd_ 7 ?_); refine bx_ 7 3 #[iv_ M] ?_; intro d4 hg e0 hbox hb; have x := Aside0.mk (below_step HB.out hb); have u := Aside0.mk (blk_below j.out hb); clear j; have j := u; clear u; have a6 := Aside0.mk (blk_below y.out hb); clear y; have y := a6; clear a6; clear HB; have HB := x; clear x; have b6 := Aside0.mk hbox; clear hb hg hbox) | ((with_reducible refine gate_callee (f := 61) rfl ?_); refine gl_ 14 Try.func61 (where_impl_SureWindows_1.calls k X Y z _ _ l _ _ m B D E G I _ _ s J L M d5 _ d2 j.out d3 y.out d4 b6.out (ck_ c1 HB) b7.out (ck_ d0 HB) b8.out (ck_ d1 HB) b9.out A6.out) ?_; rintro e w7 ⟨d6, rfl, b0, hb⟩; refine ⟨_, rfl, sh2_ (Kd.R_lower b0 (below_size (bl_ HB))) (below_step (bl_ HB) hb) ?_⟩; clear HB hb b0; intro c0 HB))
 go_ret
 exact ⟨_, by first | (rw [hRT_.out]; rfl) | exact er_, ra_ c0, bl_ HB⟩

/-! ### impl_InArc: function 110 -/
def impl_InArc.f (j l m : Int) : Option (Bool) := (impl_AngleOf.f m).bind fun s => ((impl_AngleOf.f j).bind fun u => ((impl_AngleOf.f (wrap64 (s - u))).bind fun x => (some (decide (x ≤ l)))))
theorem impl_InArc.calls (j l s : Int) (r : Bool) (w : World) (h : impl_InArc.f j l s = some r) :
  Calls Try.prog 110 #[.agg #[iv_ j, iv_ l], iv_ s] w fun e w' => e = .returned (.bool r) ∧ Below w.heap.size w w' := by
 have M := Try.underlying35
 have HB := Aside0.mk (Below.refl w.heap.size w)
 have H := h
 clear h
 unfold impl_InArc.f at H
 replace H := bs_ H
 obtain ⟨u, z, H⟩ := H
 replace H := bs_ H
 obtain ⟨x, B, H⟩ := H
 obtain ⟨ji5, hji5⟩ : ∃ j_ : Int, (wrap64 (u - x)) = j_ := ⟨_, rfl⟩
 replace H : ((impl_AngleOf.f (ji5)).bind fun y => (some (decide (y ≤ l)))) = some r := by first | (rw [hji5] at H; exact H) | (simp only [hji5] at H ⊢; exact H)
 (try rw [hji5] at z)
 (try rw [hji5] at B)
 have L : (IntKind.i64.wrap (u - x)) = ji5 := (i64_w _).trans hji5
 replace H := bs_ H
 obtain ⟨y, D, H⟩ := H
 obtain rfl := Option.some.inj H
 go_enter Try.func110, Try.ntmps110
 go_wp2_with (first | ((with_reducible refine gd_ 2 ?_); refine bx_ 2 35 #[iv_ j, iv_ l] ?_; intro G hg J hbox hb; refine sh3_ (below_step (bl_ HB) hb) hbox (ge_ hg (bl_ HB)) ?_; clear HB hb hbox hg; intro HB m E) | (go_at_call 58; (with_reducible refine (impl_AngleOf.calls s u _ z.out).mono ?_); rintro e w' ⟨rfl, ⟨nd, rfl⟩⟩; (try exact dd_); have I := cf2_ m) | (go_at_call 58; (with_reducible refine (impl_AngleOf.calls j x _ B.out).mono ?_); rintro e w' ⟨rfl, ⟨nd, rfl⟩⟩; (try exact dd_)) | (go_at_call 58; (with_reducible refine (impl_AngleOf.calls ji5 y _ D.out).mono ?_); rintro e w' ⟨rfl, ⟨nd, rfl⟩⟩; (try exact dd_)))
 repeat (go_quiet (first | ((with_reducible refine gd_ 2 ?_); refine bx_ 2 35 #[iv_ j, iv_ l] ?_; intro G hg J hbox hb; refine sh3_ (below_step (bl_ HB) hb) hbox (ge_ hg (bl_ HB)) ?_; clear HB hb hbox hg; intro HB m E) | (go_at_call 58; (with_reducible refine (impl_AngleOf.calls s u _ z.out).mono ?_); rintro e w' ⟨rfl, ⟨nd, rfl⟩⟩; (try exact dd_); have I := cf2_ m) | (go_at_call 58; (with_reducible refine (impl_AngleOf.calls j x _ B.out).mono ?_); rintro e w' ⟨rfl, ⟨nd, rfl⟩⟩; (try exact dd_)) | (go_at_call 58; (with_reducible refine (impl_AngleOf.calls ji5 y _ D.out).mono ?_); rintro e w' ⟨rfl, ⟨nd, rfl⟩⟩; (try exact dd_))); try go_wp2_with (first | ((with_reducible refine gd_ 2 ?_); refine bx_ 2 35 #[iv_ j, iv_ l] ?_; intro G hg J hbox hb; refine sh3_ (below_step (bl_ HB) hb) hbox (ge_ hg (bl_ HB)) ?_; clear HB hb hbox hg; intro HB m E) | (go_at_call 58; (with_reducible refine (impl_AngleOf.calls s u _ z.out).mono ?_); rintro e w' ⟨rfl, ⟨nd, rfl⟩⟩; (try exact dd_); have I := cf2_ m) | (go_at_call 58; (with_reducible refine (impl_AngleOf.calls j x _ B.out).mono ?_); rintro e w' ⟨rfl, ⟨nd, rfl⟩⟩; (try exact dd_)) | (go_at_call 58; (with_reducible refine (impl_AngleOf.calls ji5 y _ D.out).mono ?_); rintro e w' ⟨rfl, ⟨nd, rfl⟩⟩; (try exact dd_))))
 go_ret
 exact ⟨by first | rfl | (rw [hRT_.out]; rfl) | (simp [errW_none, errW_some] <;> rfl) | (simp only [← hji5]; first | rfl | (simp [errW_none, errW_some] <;> rfl)) | (simp [*, errW_none, errW_some] <;> rfl), bl1_ HB E⟩

end Go.Proofs.Ytopbkdcicidajaa.PFnSilence
