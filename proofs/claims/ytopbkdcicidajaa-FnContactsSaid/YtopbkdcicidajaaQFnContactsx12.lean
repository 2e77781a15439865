-- Written by a program of this session for this claim (the kit's printer with changes).
import Derived.Test.YtopbkdcicidajaaQFnContactsx0
import Derived.Test.YtopbkdcicidajaaQFnContactsx5
import Derived.Test.YtopbkdcicidajaaQFnContactsx7
import Derived.Test.YtopbkdcicidajaaQFnContactsx9
import Derived.Test.YtopbkdcicidajaaQFnContactsx11
namespace Go.Proofs.Ytopbkdcicidajaa.PFnContacts
open Go.RowKit Go.Proofs.YtopbkdcicidajaaW.PrintWords Go.Proofs.YtopbkdcicidajaaW.PrintLast Go.Proofs.YtopbkdcicidajaaW.PrintMore
attribute [local go_sem] max2_int min2_int max_two min_two max_three min_three max_four min_four   -- for this text's walks alone
set_option linter.unusedVariables false
set_option maxHeartbeats 8000000
set_option maxRecDepth 100000
set_option linter.unusedSimpArgs false

/-! ### spec_l11Plan: function 114 -/
mutual
def spec_l11Plan.l0 : Nat → Int → Int → List S53 → Int → List Int → Int → Int → Option (List S53 × Int × Int)
 | 0, _, _, _, _, _, _, _ => none
 | k + 1, m, s, u, l, j, x, y => if l < m then (spec_l11Plan.l1 k m s u l (wrap64 (l + 1)) j x y) else (some (u, x, y))
def spec_l11Plan.l1 : Nat → Int → Int → List S53 → Int → Int → List Int → Int → Int → Option (List S53 × Int × Int)
 | 0, _, _, _, _, _, _, _, _ => none
 | k + 1, m, s, u, l, z, j, x, y => if z < m then ((spec_l1Below.f j x y 5).bind fun E => ((spec_l1Below.f j E.2.1 E.2.2 3).bind fun G => (spec_l11Plan.l2 k m s u l z E.1 G.1 j G.2.1 G.2.2))) else (spec_l11Plan.l0 k m s u (wrap64 (l + 1)) j x y)
def spec_l11Plan.l2 : Nat → Int → Int → List S53 → Int → Int → Int → Int → List Int → Int → Int → Option (List S53 × Int × Int)
 | 0, _, _, _, _, _, _, _, _, _, _ => none
 | k + 1, m, s, u, l, z, B, D, j, x, y => if D > 0 then (spec_l11Plan.j3 k m s u l z B D (decide (B < s)) j x y) else (spec_l11Plan.j3 k m s u l z B D false j x y)
def spec_l11Plan.j3 : Nat → Int → Int → List S53 → Int → Int → Int → Int → Bool → List Int → Int → Int → Option (List S53 × Int × Int)
 | 0, _, _, _, _, _, _, _, _, _, _, _ => none
 | k + 1, m, s, u, l, z, B, D, M, j, x, y => if M = true then ((spec_l1Below.f j x y 9).bind fun I => ((spec_Min.f s (wrap64 ((wrap64 (B + 2)) + I.1))).bind fun L => (if u.length < 4398046511104 then ((spec_l1Below.f j I.2.1 I.2.2 6).bind fun J => (spec_l11Plan.l2 k m s (u ++ [(⟨l, z, B, L⟩ : S53)]) l z (wrap64 ((wrap64 (L + 1)) + J.1)) (wrap64 (D - 1)) j J.2.1 J.2.2)) else (none)))) else (spec_l11Plan.l1 k m s u l (wrap64 (z + 1)) j x y)
end
def spec_l11Plan.f (k : Nat) (m : List Int) (s u j l : Int) : Option (List S53 × Int × Int) := spec_l11Plan.l0 k j l (([] : List S53)) 0 m s u
theorem spec_l11Plan.calls (k g : Nat) (l : List Int) (b3 b4 y z : Int) (E : List S53) (G I : Int) (m w : World) (hI : IsS102 m w g l b3 b4) (hB : Below m.heap.size m w) (h : spec_l11Plan.f k l b3 b4 y z = some (E, G, I)) :
  Calls Try.prog 114 #[.pointer (some ⟨g, 0, none⟩), iv_ y, iv_ z] w fun e w' => ∃ e5 : Value, e = .returned (e5) ∧ Kd.R k53 53 w' w.heap.size (fun _ => True) e5 E ∧ IsS102 m w' g l G I ∧ Below m.heap.size m w' ∧ KeepBut w w' g none := by
 have g5 := Try.underlying53
 have j := Aside0.mk hI
 have HK := Aside0.mk (KeepBut.refl w g none)
 have HL := Aside0.mk hB.size
 clear hI
 have g4 := Aside0.mk hB.size
 have HB := Aside0.mk hB
 clear hB
 have H := h
 clear h
 unfold spec_l11Plan.f at H
 replace H : ∃ y_ : List S53, Aside0 (y_ = (([] : List S53))) ∧ (spec_l11Plan.l0 k y z y_ 0 l b3 b4) = some (E, G, I) := ⟨_, ⟨rfl⟩, yh_ H⟩
 obtain ⟨g2, d4, H⟩ := H
 have H' := Aside0.mk H
 clear H
 go_enter Try.func114, Try.ntmps114
 go_wp2_with (first | ((with_reducible refine gate_dst (N := 13) rfl ?_); refine Kd.R_lit k53 _ 53 ?hg (N := 13) ?hd (xs := ([] : List S53)) (inner := []) (ok := fun _ => True) (okp := fun _ => True) ?hr ?hp (fun _ hk => hk) trivial (Below.refl _ _) (Nat.le_refl _) (by simp) ?_; (case hd => rfl); (case hg => rfl); (case hr => first | (go_simp; done) | (go_simp; rfl)); (case hp => exact (Reps.none _ _)); intro g6 w4 a6 hb hg_ hnew_; clear hg_ hnew_; (first | rw [← d4.out] at a6 | (simp only [Int.reduceToNat] at a6; rw [← d4.out] at a6)); refine sh4_ (Kd.R_lower a6 (keep_size (w := w) (g := g) (row := none) (kb_ HK))) (IsS102.below (is_ j) hb) (KeepBut.trans (kb_ HK) (KeepBut.of_below hb g none) (.inl rfl)) (below_step (by repeat (first | (with_reducible first | exact HB.out | apply below_alloc | apply pw_below_drewN | apply below_drew1 | refine below_set ?_ (IsS102.ge j.out)) | exact HB.out)) hb) ?_; clear j HK HB hb a6; intro f1 j HK HB))
 go_loopg [7, 8] k (fun kq v7 v8 w' => ∃ (c0 : List S53) (u : Int) (b7 : Int) (b8 : Int), v8 = iv_ u ∧ Aside0 (spec_l11Plan.l0 kq y z c0 u l b7 b8 = some (E, G, I)) ∧ Aside0 (kq ≤ k) ∧ Aside0 (Kd.R k53 53 w' w.heap.size (fun _ => True) v7 c0) ∧ Aside0 (IsS102 m w' g l b7 b8) ∧ Aside0 (KeepBut w w' g none) ∧ Aside0 (Below m.heap.size m w'))
 case atStart => exact ⟨(g2), (0), (b3), (b4), (by first | rfl | (simp; done) | (simp [*]; done)), H', ⟨Nat.le_refl _⟩, ⟨ra_ f1⟩, ⟨(is_ j)⟩, ⟨(kb_ HK)⟩, ⟨by repeat (first | (with_reducible first | exact HB.out | apply below_alloc | apply pw_below_drewN | apply below_drew1 | refine below_set ?_ (IsS102.ge j.out)) | exact HB.out)⟩⟩
 case round =>
  clear H'
  obtain ⟨c0, u, b7, b8, rfl, HA, T, s, j, HK, HB⟩ := hrel
  cases gk with
  | zero => exact absurd HA.out (by simp [spec_l11Plan.l0])
  | succ k1 =>
   have H := HA.out
   clear HA
   simp only [spec_l11Plan.l0] at H
   by_cases c6 : u < y
   ·rw [if_pos c6] at H
    have f4 := decide_eq_true c6
    clear c6
    have H' := Aside0.mk H
    clear H
    go_wp2
    go_loopg [7, 9] k1 (fun kq v7 v9 w' => ∃ (a9 : List S53) (x : Int) (a0 : Int) (a3 : Int), v9 = iv_ x ∧ Aside0 (spec_l11Plan.l1 kq y z a9 u x l a0 a3 = some (E, G, I)) ∧ Aside0 (kq ≤ k1) ∧ Aside0 (Kd.R k53 53 w' w.heap.size (fun _ => True) v7 a9) ∧ Aside0 (IsS102 m w' g l a0 a3) ∧ Aside0 (KeepBut w w' g none) ∧ Aside0 (Below m.heap.size m w'))
    case atStart => exact ⟨(c0), (wrap64 (u + 1)), (b7), (b8), (by first | rfl | (simp; done) | (simp [*]; done)), H', ⟨Nat.le_refl _⟩, ⟨ra_ s⟩, ⟨(is_ j)⟩, ⟨(kb_ HK)⟩, ⟨by repeat (first | (with_reducible first | exact HB.out | apply below_alloc | apply pw_below_drewN | apply below_drew1 | refine below_set ?_ (IsS102.ge j.out)) | exact HB.out)⟩⟩
    case round =>
     clear H'
     obtain ⟨a9, x, a0, a3, rfl, HA, U, s, j, HK, HB⟩ := hrel
     cases gk with
     | zero => exact absurd HA.out (by simp [spec_l11Plan.l1])
     | succ k2 =>
      have H := HA.out
      clear HA
      simp only [spec_l11Plan.l1] at H
      by_cases c7 : x < y
      ·rw [if_pos c7] at H
       have f5 := decide_eq_true c7
       clear c7
       replace H := bs_ H
       obtain ⟨⟨d7, d2, d3⟩, A8, H⟩ := H
       dsimp only at H
       replace H := bs_ H
       obtain ⟨⟨d8, d9, e0⟩, A9, H⟩ := H
       dsimp only at H
       have H' := Aside0.mk H
       clear H
       go_wp2_with (first | ((with_reducible refine gate_callee (f := 60) rfl ?_); refine goesL_ (some 27) rfl rfl Try.func60 (by kernel_rfl) rfl #[.pointer (some ⟨g, 0, none⟩), iv_ 5] rfl mp_ ?_; (with_reducible refine (spec_l1Below.calls g l a0 a3 5 d7 d2 d3 m _ ?side1 ?side2 A8.out).mono ?_); (case side1 => exact is_ j); (case side2 => repeat (first | (with_reducible first | exact HB.out | apply below_alloc | apply pw_below_drewN | apply below_drew1 | refine below_set ?_ (IsS102.ge j.out)) | exact HB.out)); rintro e g8 ⟨rfl, hi, hb, hk⟩; refine ⟨_, rfl, sh4_ (Kd.R_mono (Kd.R_keep (IsS102.apart (show IsS102 m _ g l a0 a3 from (is_ j)) (ra_ s) (by decide)) hk (fun _ h => h.2)) (fun _ h => h.1)) (KeepBut.trans (kb_ HK) hk (.inl rfl)) hb hi ?_⟩; clear s HK HB j hb hk hi; intro s HK HB j) | ((with_reducible refine gate_callee (f := 60) rfl ?_); refine goesL_ (some 29) rfl rfl Try.func60 (by kernel_rfl) rfl #[.pointer (some ⟨g, 0, none⟩), iv_ 3] rfl mp_ ?_; (with_reducible refine (spec_l1Below.calls g l d2 d3 3 d8 d9 e0 m _ ?side1 ?side2 A9.out).mono ?_); (case side1 => exact is_ j); (case side2 => repeat (first | (with_reducible first | exact HB.out | apply below_alloc | apply pw_below_drewN | apply below_drew1 | refine below_set ?_ (IsS102.ge j.out)) | exact HB.out)); rintro e g9 ⟨rfl, hi, hb, hk⟩; refine ⟨_, rfl, sh4_ (Kd.R_mono (Kd.R_keep (IsS102.apart (show IsS102 m _ g l d2 d3 from (is_ j)) (ra_ s) (by decide)) hk (fun _ h => h.2)) (fun _ h => h.1)) (KeepBut.trans (kb_ HK) hk (.inl rfl)) hb hi ?_⟩; clear s HK HB j hb hk hi; intro s HK HB j))
       go_loopg [7, 10, 11] k2 (fun kq v7 f7 f8 w' => ∃ (D : List S53) (B : Int) (O : Int) (L : Int) (M : Int), f7 = iv_ B ∧ f8 = iv_ O ∧ Aside0 (spec_l11Plan.l2 kq y z D u x B O l L M = some (E, G, I)) ∧ Aside0 (kq ≤ k2) ∧ Aside0 (Kd.R k53 53 w' w.heap.size (fun _ => True) v7 D) ∧ Aside0 (IsS102 m w' g l L M) ∧ Aside0 (KeepBut w w' g none) ∧ Aside0 (Below m.heap.size m w'))
       case atStart => exact ⟨(a9), (d7), (d8), (d9), (e0), (by first | rfl | (simp; done) | (simp [*]; done)), (by first | rfl | (simp; done) | (simp [*]; done)), H', ⟨Nat.le_refl _⟩, ⟨ra_ s⟩, ⟨(is_ j)⟩, ⟨(kb_ HK)⟩, ⟨by repeat (first | (with_reducible first | exact HB.out | apply below_alloc | apply pw_below_drewN | apply below_drew1 | refine below_set ?_ (IsS102.ge j.out)) | exact HB.out)⟩⟩
       case round =>
        clear H'
        obtain ⟨D, B, O, L, M, rfl, rfl, HA, Y, s, j, HK, HB⟩ := hrel
        cases gk with
        | zero => exact absurd HA.out (by simp [spec_l11Plan.l2])
        | succ k3 =>
         have H := HA.out
         clear HA
         simp only [spec_l11Plan.l2] at H
         have c1 := Aside0.mk H
         clear H
         go_upto_region 10 with (fail)
         go_cut [36] (fun f9 wc => ∃ (kq : Nat) (b9 : Bool), f9 = .bool b9 ∧ Aside0 (spec_l11Plan.j3 kq y z D u x B O b9 l L M = some (E, G, I)) ∧ Aside0 (kq ≤ k3) ∧ Aside0 (Kd.R k53 53 wc w.heap.size (fun _ => True) u7 D) ∧ Aside0 (IsS102 m wc g l L M) ∧ Aside0 (KeepBut w wc g none) ∧ Aside0 (Below m.heap.size m wc))
         case first =>
          have H := c1.out
          clear c1
          by_cases Z : O > 0
          ·rw [if_pos Z] at H
           have a5 : decide (0 < O) = true := decide_eq_true Z
           clear Z
           (first | rw [a5] | (simp only [i64_w, i32_w]; rw [a5]) | skip)
           have H' := Aside0.mk H
           clear H
           go_wp2
           go_meet
           case rel => exact ⟨_, (decide (B < z)), (by first | rfl | (simp; done) | (simp [*]; done)), H', ⟨by have := T.out; have := U.out; have := Y.out; first | omega | exact Nat.le_refl _⟩, ⟨ra_ s⟩, ⟨(is_ j)⟩, ⟨(kb_ HK)⟩, ⟨by repeat (first | (with_reducible first | exact HB.out | apply below_alloc | apply pw_below_drewN | apply below_drew1 | refine below_set ?_ (IsS102.ge j.out)) | exact HB.out)⟩⟩
          ·rw [if_neg Z] at H
           have a5 : decide (0 < O) = false := decide_eq_false Z
           clear Z
           (first | rw [a5] | (simp only [i64_w, i32_w]; rw [a5]) | skip)
           have H' := Aside0.mk H
           clear H
           go_wp2
           go_meet
           case rel => exact ⟨_, (false), (by first | rfl | (simp; done) | (simp [*]; done)), H', ⟨by have := T.out; have := U.out; have := Y.out; first | omega | exact Nat.le_refl _⟩, ⟨ra_ s⟩, ⟨(is_ j)⟩, ⟨(kb_ HK)⟩, ⟨by repeat (first | (with_reducible first | exact HB.out | apply below_alloc | apply pw_below_drewN | apply below_drew1 | refine below_set ?_ (IsS102.ge j.out)) | exact HB.out)⟩⟩
         case rest =>
          clear c1
          obtain ⟨kq, b9, rfl, HA, b0, s, j, HK, HB⟩ := hcut
          cases kq with
          | zero => exact absurd HA.out (by simp [spec_l11Plan.j3])
          | succ a7 =>
           have H := HA.out
           clear HA
           simp only [spec_l11Plan.j3] at H
           by_cases b2 : b9 = true
           ·subst b2
            have H1 : ((spec_l1Below.f l L M 9).bind fun d0 => ((spec_Min.f z (wrap64 ((wrap64 (B + 2)) + d0.1))).bind fun J => (if D.length < 4398046511104 then ((spec_l1Below.f l d0.2.1 d0.2.2 6).bind fun X => (spec_l11Plan.l2 a7 y z (D ++ [(⟨u, x, B, J⟩ : S53)]) u x (wrap64 ((wrap64 (J + 1)) + X.1)) (wrap64 (O - 1)) l X.2.1 X.2.2)) else (none)))) = some (E, G, I) := by rw [if_pos rfl] at H; exact H
            clear H
            have H := H1
            clear H1
            replace H := bs_ H
            obtain ⟨⟨e1, b5, b6⟩, e6, H⟩ := H
            dsimp only at H
            replace H := bs_ H
            obtain ⟨J, e7, H⟩ := H
            replace H := ifn_ H
            obtain ⟨d5, H⟩ := H
            have f2 := Aside0.mk d5
            clear d5
            replace H : ∃ y_ : List S53, Aside0 (y_ = (D ++ [(⟨u, x, B, J⟩ : S53)])) ∧ ((spec_l1Below.f l b5 b6 6).bind fun X => (spec_l11Plan.l2 a7 y z y_ u x (wrap64 ((wrap64 (J + 1)) + X.1)) (wrap64 (O - 1)) l X.2.1 X.2.2)) = some (E, G, I) := ⟨_, ⟨rfl⟩, yh_ H⟩
            obtain ⟨g3, f3, H⟩ := H
            replace H := bs_ H
            obtain ⟨⟨e2, e3, e4⟩, e8, H⟩ := H
            dsimp only at H
            have H' := Aside0.mk H
            clear H
            go_wp2_with (first | ((with_reducible refine gate_callee (f := 60) rfl ?_); refine goesL_ (some 43) rfl rfl Try.func60 (by kernel_rfl) rfl #[.pointer (some ⟨g, 0, none⟩), iv_ 9] rfl mp_ ?_; (with_reducible refine (spec_l1Below.calls g l L M 9 e1 b5 b6 m _ ?side1 ?side2 e6.out).mono ?_); (case side1 => exact is_ j); (case side2 => repeat (first | (with_reducible first | exact HB.out | apply below_alloc | apply pw_below_drewN | apply below_drew1 | refine below_set ?_ (IsS102.ge j.out)) | exact HB.out)); rintro e h0 ⟨rfl, hi, hb, hk⟩; refine ⟨_, rfl, sh4_ (Kd.R_mono (Kd.R_keep (IsS102.apart (show IsS102 m _ g l L M from (is_ j)) (ra_ s) (by decide)) hk (fun _ h => h.2)) (fun _ h => h.1)) (KeepBut.trans (kb_ HK) hk (.inl rfl)) hb hi ?_⟩; clear s HK HB j hb hk hi; intro s HK HB j) | ((with_reducible refine gate_callee (f := 122) rfl ?_); refine gl_ 45 Try.func122 (spec_Min.calls z (wrap64 ((wrap64 (B + 2)) + e1)) J _ e7.out) ?_; rintro e w' ⟨rfl, ⟨nd, rfl⟩⟩; refine ⟨_, rfl, ?_⟩) | ((with_reducible refine gate_builtin (b := .append) (xs := #[.tmp 46, .tmp 52]) rfl ?_); at_builtin; refine Kd.R_append k53 w.heap.size rfl (.tmp 46) (.tmp 52) 50 53 (.agg #[(iv_ 0), (iv_ 0), (iv_ 0), (iv_ 0)]) 32 rfl Try.underlying50 info53 rfl (by decide) (by omega) u7 D (⟨u, x, B, J⟩ : S53) [iv_ u, iv_ x, iv_ B, iv_ J] (fun _ => True) (fun _ => False) rfl rfl ?aP (fun _ hk => hk.elim) ?aF ?aO (Below.refl _ _) ?aS ?aL ?_; (case aP => exact k53_mkM _ _ _ (⟨u, x, B, J⟩ : S53)); (case aF => exact (fun _ _ => trivial)); (case aO => exact (ra_ s)); (case aS => exact (keep_size (w := w) (g := g) (row := none) (kb_ HK))); (case aL => have := f2.out; omega); intro g7 h1 ho hb hg hat; rw [← f3.out] at ho; refine sh4_ (IsS102.grown (is_ j) hg (IsS102.own_ne j.out s.out (by decide))) (below_weaken (by repeat (first | (with_reducible first | exact HB.out | apply below_alloc | apply pw_below_drewN | apply below_drew1 | refine below_set ?_ (IsS102.ge j.out)) | exact HB.out)) HL.out hb) (KeepBut.trans (kb_ HK) (KeepBut.of_grown hg g) (Kd.R_base2 s.out)) ho ?_; clear j HB HK s ho hb hg hat; intro j HB HK b1) | ((with_reducible refine gate_callee (f := 60) rfl ?_); refine goesL_ (some 57) rfl rfl Try.func60 (by kernel_rfl) rfl #[.pointer (some ⟨g, 0, none⟩), iv_ 6] rfl mp_ ?_; (with_reducible refine (spec_l1Below.calls g l b5 b6 6 e2 e3 e4 m _ ?side1 ?side2 e8.out).mono ?_); (case side1 => exact is_ j); (case side2 => repeat (first | (with_reducible first | exact HB.out | apply below_alloc | apply pw_below_drewN | apply below_drew1 | refine below_set ?_ (IsS102.ge j.out)) | exact HB.out)); rintro e h2 ⟨rfl, hi, hb, hk⟩; refine ⟨_, rfl, sh4_ (Kd.R_mono (Kd.R_keep (IsS102.apart (show IsS102 m _ g l b5 b6 from (is_ j)) (ra_ b1) (by decide)) hk (fun _ h => h.2)) (fun _ h => h.1)) (KeepBut.trans (kb_ HK) hk (.inl rfl)) hb hi ?_⟩; clear b1 HK HB j hb hk hi; intro b1 HK HB j))
            go_roundg a7
            case measure => have := T.out; have := U.out; have := Y.out; have := b0.out; omega
            case rel => exact ⟨(g3), (wrap64 ((wrap64 (J + 1)) + e2)), (wrap64 (O - 1)), (e3), (e4), (by first | rfl | (simp; done) | (simp [*]; done)), (by first | rfl | (simp; done) | (simp [*]; done)), H', ⟨by have := T.out; have := U.out; have := Y.out; have := b0.out; omega⟩, ⟨ra_ b1⟩, ⟨(is_ j)⟩, ⟨(kb_ HK)⟩, ⟨by repeat (first | (with_reducible first | exact HB.out | apply below_alloc | apply pw_below_drewN | apply below_drew1 | refine below_set ?_ (IsS102.ge j.out)) | exact HB.out)⟩⟩
           ·replace b2 := Bool.eq_false_iff.mpr b2
            subst b2
            have H1 : (spec_l11Plan.l1 a7 y z D u (wrap64 (x + 1)) l L M) = some (E, G, I) := by rw [if_neg (show ¬ (false = true) by decide)] at H; exact H
            clear H
            have H := H1
            clear H1
            have H' := Aside0.mk H
            clear H
            go_wp2
            go_roundg a7
            case measure => have := T.out; have := U.out; have := Y.out; have := b0.out; omega
            case rel => exact ⟨(D), (wrap64 (x + 1)), (L), (M), (by first | rfl | (simp; done) | (simp [*]; done)), H', ⟨by have := T.out; have := U.out; have := Y.out; have := b0.out; omega⟩, ⟨ra_ s⟩, ⟨(is_ j)⟩, ⟨(kb_ HK)⟩, ⟨by repeat (first | (with_reducible first | exact HB.out | apply below_alloc | apply pw_below_drewN | apply below_drew1 | refine below_set ?_ (IsS102.ge j.out)) | exact HB.out)⟩⟩
      ·rw [if_neg c7] at H
       have f5 : decide (x < y) = false := decide_eq_false c7
       clear c7
       have H' := Aside0.mk H
       clear H
       go_wp2
       go_roundg k2
       case measure => have := T.out; have := U.out; omega
       case rel => exact ⟨(a9), (wrap64 (u + 1)), (a0), (a3), (by first | rfl | (simp; done) | (simp [*]; done)), H', ⟨by have := T.out; have := U.out; omega⟩, ⟨ra_ s⟩, ⟨(is_ j)⟩, ⟨(kb_ HK)⟩, ⟨by repeat (first | (with_reducible first | exact HB.out | apply below_alloc | apply pw_below_drewN | apply below_drew1 | refine below_set ?_ (IsS102.ge j.out)) | exact HB.out)⟩⟩
   ·rw [if_neg c6] at H
    have f4 : decide (u < y) = false := decide_eq_false c6
    clear c6
    simp only [Option.some.injEq, Prod.mk.injEq] at H
    obtain ⟨rfl, rfl, rfl⟩ := H
    go_wp2
    go_ret
    exact ⟨_, by first | (rw [hRT_.out]; rfl) | exact er_, ra_ s, (is_ j), by repeat (first | (with_reducible first | exact HB.out | apply below_alloc | apply pw_below_drewN | apply below_drew1 | refine below_set ?_ (IsS102.ge j.out)) | exact HB.out), (kb_ HK)⟩

/-! ### spec_l11Any: function 82 -/
def spec_l11Any.f (k : Nat) (s : List Int) (z B : Int) : Option (List S53 × Int × Int) := (spec_l11Plan.f k s z B 4 20).bind fun j => (if (j.1.length : Int) = 0 then (some (j.1, j.2.1, j.2.2)) else ((spec_l1Below.f s j.2.1 j.2.2 (j.1.length : Int)).bind fun l => ((spec_l1Below.f s l.2.1 l.2.2 8).bind fun m => (if m.1 = 0 then ((spec_l1Below.f s m.2.1 m.2.2 5).bind fun u => (if 0 ≤ l.1 then (if l.1 < (j.1.length : Int) then (some ((j.1.set (l.1 : Int).toNat (⟨wrap64 (u.1 - 1), (rd_T53 j.1 l.1).f1, (rd_T53 j.1 l.1).f2, (rd_T53 j.1 l.1).f3⟩ : S53)), u.2.1, u.2.2)) else (none)) else (none))) else (if m.1 = 1 then ((spec_l4Raw.f s m.2.1 m.2.2).bind fun x => (if 0 ≤ l.1 then (if l.1 < (j.1.length : Int) then (some ((j.1.set (l.1 : Int).toNat (⟨(rd_T53 j.1 l.1).f0, (rd_T53 j.1 l.1).f1, (rd_T53 j.1 l.1).f2, x.1⟩ : S53)), x.2.1, x.2.2)) else (none)) else (none))) else (if m.1 = 2 then (if 0 ≤ l.1 then (if l.1 < (j.1.length : Int) then (if j.1.length < 4398046511104 then (some ((j.1 ++ [(⟨(rd_T53 j.1 l.1).f0, (rd_T53 j.1 l.1).f1, (rd_T53 j.1 l.1).f2, (rd_T53 j.1 l.1).f3⟩ : S53)]), m.2.1, m.2.2)) else (none)) else (none)) else (none)) else (if m.1 = 3 then ((spec_l1Int.f s m.2.1 m.2.2 (([(-1), 4, 9223372036854775807] : List Int))).bind fun y => (if 0 ≤ l.1 then (if l.1 < (j.1.length : Int) then (some ((j.1.set (l.1 : Int).toNat (⟨(rd_T53 j.1 l.1).f0, y.1, (rd_T53 j.1 l.1).f2, (rd_T53 j.1 l.1).f3⟩ : S53)), y.2.1, y.2.2)) else (none)) else (none))) else (some (j.1, m.2.1, m.2.2)))))))))
theorem spec_l11Any.calls (k g : Nat) (y : List Int) (a1 a2 : Int) (r1 : List S53) (r2 r3 : Int) (x w : World) (hI : IsS102 x w g y a1 a2) (hB : Below x.heap.size x w) (h : spec_l11Any.f k y a1 a2 = some (r1, r2, r3)) :
  Calls Try.prog 82 #[.pointer (some ⟨g, 0, none⟩)] w fun e w' => ∃ j5 : Value, e = .returned (j5) ∧ Kd.R k53 53 w' w.heap.size (fun _ => True) j5 r1 ∧ IsS102 x w' g y r2 r3 ∧ Below x.heap.size x w' ∧ KeepBut w w' g none := by
 have t4 := Try.underlying53
 have l := Aside0.mk hI
 have HK := Aside0.mk (KeepBut.refl w g none)
 have HL := Aside0.mk hB.size
 clear hI
 have p5 := Aside0.mk hB.size
 have HB := Aside0.mk hB
 clear hB
 have H := h
 clear h
 unfold spec_l11Any.f at H
 replace H := bs_ H
 obtain ⟨⟨s, B, D⟩, A2, H⟩ := H
 dsimp only at H
 by_cases c3 : (s.length : Int) = 0
 ·rw [if_pos c3] at H
  obtain ⟨l5, l6⟩ := bt_ c3
  clear c3
  simp only [Option.some.injEq, Prod.mk.injEq] at H
  obtain ⟨rfl, rfl, rfl⟩ := H
  go_enter Try.func82, Try.ntmps82
  go_wp2_with (first | ((with_reducible refine gate_callee (f := 114) rfl ?_); refine goesL_ (some 6) rfl rfl Try.func114 (by kernel_rfl) rfl #[.pointer (some ⟨g, 0, none⟩), iv_ 4, iv_ 20] rfl mp_ ?_; (with_reducible refine (spec_l11Plan.calls k g y a1 a2 4 20 s B D x _ ?side1 ?side2 A2.out).mono ?_); (case side1 => exact is_ l); (case side2 => repeat (first | (with_reducible first | exact HB.out | apply below_alloc | apply pw_below_drewN | apply below_drew1 | refine below_set ?_ (IsS102.ge l.out)) | exact HB.out)); rintro e w4 ⟨d0, rfl, z, hi, hb, hk⟩; refine ⟨_, rfl, sh4_ (Kd.R_lower z (keep_size (w := w) (g := g) (row := none) (kb_ HK))) (KeepBut.trans (kb_ HK) hk (.inl rfl)) hb hi ?_⟩; clear HK HB l hb hk hi z; intro u HK HB l; obtain ⟨p0, s0, m8⟩ := Kd.R_slice u.out; subst m8))
  go_ret
  exact ⟨_, by first | (rw [hRT_.out]; rfl) | exact er_, ra_ u, (is_ l), by repeat (first | (with_reducible first | exact HB.out | apply below_alloc | apply pw_below_drewN | apply below_drew1 | refine below_set ?_ (IsS102.ge l.out)) | exact HB.out), (kb_ HK)⟩
 ·rw [if_neg c3] at H
  obtain ⟨l5, l6⟩ := bn_ c3
  have q2 : ¬ (s = []) := fun h_ => c3 (by rw [h_]; rfl)
  replace H := bs_ H
  obtain ⟨⟨m, E, G⟩, A6, H⟩ := H
  dsimp only at H
  replace H := bs_ H
  obtain ⟨⟨a0, I, J⟩, A7, H⟩ := H
  dsimp only at H
  by_cases c8 : a0 = 0
  ·rw [if_pos c8] at H
   obtain ⟨l9, m0⟩ := bt_ c8
   clear c8
   replace H := bs_ H
   obtain ⟨⟨a7, i9, j0⟩, A9, H⟩ := H
   dsimp only at H
   replace H := ifn_ H
   obtain ⟨c10, H⟩ := H
   have p6 := decide_eq_true c10
   clear c10
   replace H := ifn_ H
   obtain ⟨g1, H⟩ := H
   have p7 := decide_eq_true g1
   clear g1
   replace H : ∃ y_ : List S53, Aside0 (y_ = (s.set (m : Int).toNat (⟨wrap64 (a7 - 1), (rd_T53 s m).f1, (rd_T53 s m).f2, (rd_T53 s m).f3⟩ : S53))) ∧ (some (y_, i9, j0)) = some (r1, r2, r3) := ⟨_, ⟨rfl⟩, yh_ H⟩
   obtain ⟨o3, k6, H⟩ := H
   simp only [Option.some.injEq, Prod.mk.injEq] at H
   obtain ⟨rfl, rfl, rfl⟩ := H
   go_enter Try.func82, Try.ntmps82
   go_wp2_with (first | ((with_reducible refine gate_callee (f := 114) rfl ?_); refine goesL_ (some 6) rfl rfl Try.func114 (by kernel_rfl) rfl #[.pointer (some ⟨g, 0, none⟩), iv_ 4, iv_ 20] rfl mp_ ?_; (with_reducible refine (spec_l11Plan.calls k g y a1 a2 4 20 s B D x _ ?side1 ?side2 A2.out).mono ?_); (case side1 => exact is_ l); (case side2 => repeat (first | (with_reducible first | exact HB.out | apply below_alloc | apply pw_below_drewN | apply below_drew1 | refine below_set ?_ (IsS102.ge l.out)) | exact HB.out)); rintro e v3 ⟨d0, rfl, z, hi, hb, hk⟩; refine ⟨_, rfl, sh4_ (Kd.R_lower z (keep_size (w := w) (g := g) (row := none) (kb_ HK))) (KeepBut.trans (kb_ HK) hk (.inl rfl)) hb hi ?_⟩; clear HK HB l hb hk hi z; intro u HK HB l; obtain ⟨o6, g9, m4⟩ := Kd.R_slice u.out; subst m4) | ((with_reducible refine gate_callee (f := 60) rfl ?_); refine goesL_ (some 14) rfl rfl Try.func60 (by kernel_rfl) rfl #[.pointer (some ⟨g, 0, none⟩), iv_ (s.length : Int)] rfl mp_ ?_; (with_reducible refine (spec_l1Below.calls g y B D (s.length : Int) m E G x _ ?side1 ?side2 A6.out).mono ?_); (case side1 => exact is_ l); (case side2 => repeat (first | (with_reducible first | exact HB.out | apply below_alloc | apply pw_below_drewN | apply below_drew1 | refine below_set ?_ (IsS102.ge l.out)) | exact HB.out)); rintro e v4 ⟨rfl, hi, hb, hk⟩; refine ⟨_, rfl, sh4_ (Kd.R_mono (Kd.R_keep (IsS102.apart (show IsS102 x _ g y B D from (is_ l)) (ra_ u) (by decide)) hk (fun _ h => h.2)) (fun _ h => h.1)) (KeepBut.trans (kb_ HK) hk (.inl rfl)) hb hi ?_⟩; clear u HK HB l hb hk hi; intro u HK HB l) | ((with_reducible refine gate_callee (f := 60) rfl ?_); refine goesL_ (some 16) rfl rfl Try.func60 (by kernel_rfl) rfl #[.pointer (some ⟨g, 0, none⟩), iv_ 8] rfl mp_ ?_; (with_reducible refine (spec_l1Below.calls g y E G 8 a0 I J x _ ?side1 ?side2 A7.out).mono ?_); (case side1 => exact is_ l); (case side2 => repeat (first | (with_reducible first | exact HB.out | apply below_alloc | apply pw_below_drewN | apply below_drew1 | refine below_set ?_ (IsS102.ge l.out)) | exact HB.out)); rintro e v5 ⟨rfl, hi, hb, hk⟩; refine ⟨_, rfl, sh4_ (Kd.R_mono (Kd.R_keep (IsS102.apart (show IsS102 x _ g y E G from (is_ l)) (ra_ u) (by decide)) hk (fun _ h => h.2)) (fun _ h => h.1)) (KeepBut.trans (kb_ HK) hk (.inl rfl)) hb hi ?_⟩; clear u HK HB l hb hk hi; intro u HK HB l) | ((with_reducible refine gate_callee (f := 60) rfl ?_); refine goesL_ (some 22) rfl rfl Try.func60 (by kernel_rfl) rfl #[.pointer (some ⟨g, 0, none⟩), iv_ 5] rfl mp_ ?_; (with_reducible refine (spec_l1Below.calls g y I J 5 a7 i9 j0 x _ ?side1 ?side2 A9.out).mono ?_); (case side1 => exact is_ l); (case side2 => repeat (first | (with_reducible first | exact HB.out | apply below_alloc | apply pw_below_drewN | apply below_drew1 | refine below_set ?_ (IsS102.ge l.out)) | exact HB.out)); rintro e U ⟨rfl, hi, hb, hk⟩; refine ⟨_, rfl, sh4_ (Kd.R_mono (Kd.R_keep (IsS102.apart (show IsS102 x _ g y I J from (is_ l)) (ra_ u) (by decide)) hk (fun _ h => h.2)) (fun _ h => h.1)) (KeepBut.trans (kb_ HK) hk (.inl rfl)) hb hi ?_⟩; clear u HK HB l hb hk hi; intro u HK HB l; have d9 : 0 ≤ (m : Int) := od_; have e3 : (m : Int) < ((s.length : Int) : Int) := od_; obtain ⟨O, r7, h1, h4, n1, r4, f4⟩ := Kd.R_form u.out (by omega); (first | cases h1 | (injection h1 with ea_ en_ ec_; (first | subst ea_ | (injection ea_ with ea_; subst ea_)); subst ec_; clear en_)); have k1 := Aside0.mk h4; have p2 := Aside0.mk f4; clear h4 n1 f4; obtain ⟨q5, n4, h7, b5, b8⟩ := Kd.R_elem u.out z53 (m : Int) d9 e3; obtain rfl := k53_openM h7; have t5 : U.cell? ⟨O, (m : Int).toNat * 4, none⟩ = some (iv_ ((rd_T53 s m).f0)) := b5 0 _ rfl; have t6 : U.cell? ⟨O, (m : Int).toNat * 4 + 1, none⟩ = some (iv_ ((rd_T53 s m).f1)) := b5 1 _ rfl; have t7 : U.cell? ⟨O, (m : Int).toNat * 4 + 2, none⟩ = some (iv_ ((rd_T53 s m).f2)) := b5 2 _ rfl; have t8 : U.cell? ⟨O, (m : Int).toNat * 4 + 3, none⟩ = some (iv_ ((rd_T53 s m).f3)) := b5 3 _ rfl; have s2 : U.frozen? ⟨O, (m : Int).toNat * 4, none⟩ = false := b8 0; have s3 : U.frozen? ⟨O, (m : Int).toNat * 4 + 1, none⟩ = false := b8 1; have s4 : U.frozen? ⟨O, (m : Int).toNat * 4 + 2, none⟩ = false := b8 2; have s5 : U.frozen? ⟨O, (m : Int).toNat * 4 + 3, none⟩ = false := b8 3; clear n4 b5 b8 h7; replace d9 := eq_true d9; replace e3 := eq_true e3; have f7 := Aside0.mk (show Kd.R k53 53 U w.heap.size (fun _ => True) (.slice (some ⟨O, 0, none⟩) s.length g9) s from (ra_ u)); obtain ⟨q6, i3, h8, d6, i6⟩ := Kd.R_elem f7.out z53 (m : Int) od_ (by have h_ : (m : Int) < ((s.length : Int) : Int) := od_; first | exact h_ | (have e_ := (Kd.R_reads' u.out).1; omega) | simpa using h_); obtain rfl := k53_openM h8; have d1 := Kd.R_seg f7.out (m : Int) od_ (by have h_ : (m : Int) < ((s.length : Int) : Int) := od_; first | exact h_ | (have e_ := (Kd.R_reads' u.out).1; omega) | simpa using h_) (seg := [iv_ (wrap64 (a7 - 1))]) (j := 0) i3 d6 (show 1 ≤ 4 from by decide) (x' := (⟨wrap64 (a7 - 1), (rd_T53 s m).f1, (rd_T53 s m).f2, (rd_T53 s m).f3⟩ : S53)) (k53_mkM _ _ _ (⟨wrap64 (a7 - 1), (rd_T53 s m).f1, (rd_T53 s m).f2, (rd_T53 s m).f3⟩ : S53) ) (fun _ hk => hk); have o0 := d6 0 _ rfl; (try simp only [show (k53).sz = 4 from rfl, Nat.mul_one, Nat.add_zero] at o0); have n7 := i6 0; (try simp only [show (k53).sz = 4 from rfl, Nat.mul_one, Nat.add_zero] at n7); clear i3 d6 i6 h8) | ((with_reducible refine gate_store (t := 3) (p := 25) rfl ?_); refine store_event (t := 3) (p := 25) (v := ?vo_w19) (w1 := (U.setCell ⟨O, (m : Int).toNat * 4, none⟩ (iv_ (wrap64 (a7 - 1))))) ?hg ?ho ?hn ?hr ?_; (case ho => rfl); (case hg => rfl); (case hn => rfl); (case hr => first | (go_simp; done) | (go_simp; rfl)); intro e7 hw; have hg : U.grownBy e7 (some O) := (by rw [hw]; exact d1.2); have hp_ : Kd.R k53 53 e7 w.heap.size (fun _ => True) (.slice (some ⟨O, 0, none⟩) s.length g9) o3 := (by rw [hw, k6.out]; exact d1.1); clear d1; refine sh4_ (IsS102.grown (is_ l) hg (IsS102.own_ne l.out u.out (by decide))) hp_ ((by rw [hw]; exact below_set (HB.out) (Nat.le_trans HL.out k1.out) : Below x.heap.size x e7)) (KeepBut.trans (kb_ HK) (KeepBut.of_grown hg g) (Kd.R_base2 u.out)) ?_; clear l u HB HK; intro l u HB HK; clear hg hw hp_))
   go_ret
   exact ⟨_, by first | (rw [hRT_.out]; rfl) | exact er_, ra_ u, (is_ l), by repeat (first | (with_reducible first | exact HB.out | apply below_alloc | apply pw_below_drewN | apply below_drew1 | refine below_set ?_ (IsS102.ge l.out)) | exact HB.out), (kb_ HK)⟩
  ·rw [if_neg c8] at H
   obtain ⟨l9, m0⟩ := bn_ c8
   by_cases b2 : a0 = 1
   ·rw [if_pos b2] at H
    obtain ⟨l1, l2⟩ := bt_ b2
    clear b2
    replace H := bs_ H
    obtain ⟨⟨a8, j1, j2⟩, j7, H⟩ := H
    dsimp only at H
    replace H := ifn_ H
    obtain ⟨g2, H⟩ := H
    have p8 := decide_eq_true g2
    clear g2
    replace H := ifn_ H
    obtain ⟨g3, H⟩ := H
    have p9 := decide_eq_true g3
    clear g3
    replace H : ∃ y_ : List S53, Aside0 (y_ = (s.set (m : Int).toNat (⟨(rd_T53 s m).f0, (rd_T53 s m).f1, (rd_T53 s m).f2, a8⟩ : S53))) ∧ (some (y_, j1, j2)) = some (r1, r2, r3) := ⟨_, ⟨rfl⟩, yh_ H⟩
    obtain ⟨o4, k7, H⟩ := H
    simp only [Option.some.injEq, Prod.mk.injEq] at H
    obtain ⟨rfl, rfl, rfl⟩ := H
    go_enter Try.func82, Try.ntmps82
    go_wp2_with (first | ((with_reducible refine gate_callee (f := 114) rfl ?_); refine goesL_ (some 6) rfl rfl Try.func114 (by kernel_rfl) rfl #[.pointer (some ⟨g, 0, none⟩), iv_ 4, iv_ 20] rfl mp_ ?_; (with_reducible refine (spec_l11Plan.calls k g y a1 a2 4 20 s B D x _ ?side1 ?side2 A2.out).mono ?_); (case side1 => exact is_ l); (case side2 => repeat (first | (with_reducible first | exact HB.out | apply below_alloc | apply pw_below_drewN | apply below_drew1 | refine below_set ?_ (IsS102.ge l.out)) | exact HB.out)); rintro e v6 ⟨d0, rfl, z, hi, hb, hk⟩; refine ⟨_, rfl, sh4_ (Kd.R_lower z (keep_size (w := w) (g := g) (row := none) (kb_ HK))) (KeepBut.trans (kb_ HK) hk (.inl rfl)) hb hi ?_⟩; clear HK HB l hb hk hi z; intro u HK HB l; obtain ⟨o7, h0, m5⟩ := Kd.R_slice u.out; subst m5) | ((with_reducible refine gate_callee (f := 60) rfl ?_); refine goesL_ (some 14) rfl rfl Try.func60 (by kernel_rfl) rfl #[.pointer (some ⟨g, 0, none⟩), iv_ (s.length : Int)] rfl mp_ ?_; (with_reducible refine (spec_l1Below.calls g y B D (s.length : Int) m E G x _ ?side1 ?side2 A6.out).mono ?_); (case side1 => exact is_ l); (case side2 => repeat (first | (with_reducible first | exact HB.out | apply below_alloc | apply pw_below_drewN | apply below_drew1 | refine below_set ?_ (IsS102.ge l.out)) | exact HB.out)); rintro e v7 ⟨rfl, hi, hb, hk⟩; refine ⟨_, rfl, sh4_ (Kd.R_mono (Kd.R_keep (IsS102.apart (show IsS102 x _ g y B D from (is_ l)) (ra_ u) (by decide)) hk (fun _ h => h.2)) (fun _ h => h.1)) (KeepBut.trans (kb_ HK) hk (.inl rfl)) hb hi ?_⟩; clear u HK HB l hb hk hi; intro u HK HB l) | ((with_reducible refine gate_callee (f := 60) rfl ?_); refine goesL_ (some 16) rfl rfl Try.func60 (by kernel_rfl) rfl #[.pointer (some ⟨g, 0, none⟩), iv_ 8] rfl mp_ ?_; (with_reducible refine (spec_l1Below.calls g y E G 8 a0 I J x _ ?side1 ?side2 A7.out).mono ?_); (case side1 => exact is_ l); (case side2 => repeat (first | (with_reducible first | exact HB.out | apply below_alloc | apply pw_below_drewN | apply below_drew1 | refine below_set ?_ (IsS102.ge l.out)) | exact HB.out)); rintro e v8 ⟨rfl, hi, hb, hk⟩; refine ⟨_, rfl, sh4_ (Kd.R_mono (Kd.R_keep (IsS102.apart (show IsS102 x _ g y E G from (is_ l)) (ra_ u) (by decide)) hk (fun _ h => h.2)) (fun _ h => h.1)) (KeepBut.trans (kb_ HK) hk (.inl rfl)) hb hi ?_⟩; clear u HK HB l hb hk hi; intro u HK HB l) | ((with_reducible refine gate_callee (f := 50) rfl ?_); refine goesL_ (some 31) rfl rfl Try.func50 (by kernel_rfl) rfl #[.pointer (some ⟨g, 0, none⟩)] rfl mp_ ?_; (with_reducible refine (spec_l4Raw.calls g y I J a8 j1 j2 x _ ?side1 ?side2 j7.out).mono ?_); (case side1 => exact is_ l); (case side2 => repeat (first | (with_reducible first | exact HB.out | apply below_alloc | apply pw_below_drewN | apply below_drew1 | refine below_set ?_ (IsS102.ge l.out)) | exact HB.out)); rintro e X ⟨rfl, hi, hb, hk⟩; refine ⟨_, rfl, sh4_ (Kd.R_mono (Kd.R_keep (IsS102.apart (show IsS102 x _ g y I J from (is_ l)) (ra_ u) (by decide)) hk (fun _ h => h.2)) (fun _ h => h.1)) (KeepBut.trans (kb_ HK) hk (.inl rfl)) hb hi ?_⟩; clear u HK HB l hb hk hi; intro u HK HB l; have e0 : 0 ≤ (m : Int) := od_; have e4 : (m : Int) < ((s.length : Int) : Int) := od_; obtain ⟨T, r8, h2, h5, n2, r5, f5⟩ := Kd.R_form u.out (by omega); (first | cases h2 | (injection h2 with ea_ en_ ec_; (first | subst ea_ | (injection ea_ with ea_; subst ea_)); subst ec_; clear en_)); have k2 := Aside0.mk h5; have p3 := Aside0.mk f5; clear h5 n2 f5; obtain ⟨q7, n5, h9, b6, b9⟩ := Kd.R_elem u.out z53 (m : Int) e0 e4; obtain rfl := k53_openM h9; have t9 : X.cell? ⟨T, (m : Int).toNat * 4, none⟩ = some (iv_ ((rd_T53 s m).f0)) := b6 0 _ rfl; have u0 : X.cell? ⟨T, (m : Int).toNat * 4 + 1, none⟩ = some (iv_ ((rd_T53 s m).f1)) := b6 1 _ rfl; have u1 : X.cell? ⟨T, (m : Int).toNat * 4 + 2, none⟩ = some (iv_ ((rd_T53 s m).f2)) := b6 2 _ rfl; have u2 : X.cell? ⟨T, (m : Int).toNat * 4 + 3, none⟩ = some (iv_ ((rd_T53 s m).f3)) := b6 3 _ rfl; have s6 : X.frozen? ⟨T, (m : Int).toNat * 4, none⟩ = false := b9 0; have s7 : X.frozen? ⟨T, (m : Int).toNat * 4 + 1, none⟩ = false := b9 1; have s8 : X.frozen? ⟨T, (m : Int).toNat * 4 + 2, none⟩ = false := b9 2; have s9 : X.frozen? ⟨T, (m : Int).toNat * 4 + 3, none⟩ = false := b9 3; clear n5 b6 b9 h9; replace e0 := eq_true e0; replace e4 := eq_true e4; have f8 := Aside0.mk (show Kd.R k53 53 X w.heap.size (fun _ => True) (.slice (some ⟨T, 0, none⟩) s.length h0) s from (ra_ u)); obtain ⟨q8, i4, i0, d7, i7⟩ := Kd.R_elem f8.out z53 (m : Int) od_ (by have h_ : (m : Int) < ((s.length : Int) : Int) := od_; first | exact h_ | (have e_ := (Kd.R_reads' u.out).1; omega) | simpa using h_); obtain rfl := k53_openM i0; have d2 := Kd.R_seg f8.out (m : Int) od_ (by have h_ : (m : Int) < ((s.length : Int) : Int) := od_; first | exact h_ | (have e_ := (Kd.R_reads' u.out).1; omega) | simpa using h_) (seg := [iv_ a8]) (j := 3) i4 d7 (show 4 ≤ 4 from by decide) (x' := (⟨(rd_T53 s m).f0, (rd_T53 s m).f1, (rd_T53 s m).f2, a8⟩ : S53)) (k53_mkM _ _ _ (⟨(rd_T53 s m).f0, (rd_T53 s m).f1, (rd_T53 s m).f2, a8⟩ : S53) ) (fun _ hk => hk); have o1 := d7 3 _ rfl; (try simp only [show (k53).sz = 4 from rfl, Nat.mul_one, Nat.add_zero] at o1); have n8 := i7 3; (try simp only [show (k53).sz = 4 from rfl, Nat.mul_one, Nat.add_zero] at n8); clear i4 d7 i7 i0) | ((with_reducible refine gate_store (t := 3) (p := 33) rfl ?_); refine store_event (t := 3) (p := 33) (v := ?vo_w31) (w1 := (X.setCell ⟨T, (m : Int).toNat * 4 + 3, none⟩ (iv_ a8))) ?hg ?ho ?hn ?hr ?_; (case ho => rfl); (case hg => rfl); (case hn => rfl); (case hr => first | (go_simp; done) | (go_simp; rfl)); intro e8 hw; have hg : X.grownBy e8 (some T) := (by rw [hw]; exact d2.2); have hp_ : Kd.R k53 53 e8 w.heap.size (fun _ => True) (.slice (some ⟨T, 0, none⟩) s.length h0) o4 := (by rw [hw, k7.out]; exact d2.1); clear d2; refine sh4_ (IsS102.grown (is_ l) hg (IsS102.own_ne l.out u.out (by decide))) hp_ ((by rw [hw]; exact below_set (HB.out) (Nat.le_trans HL.out k2.out) : Below x.heap.size x e8)) (KeepBut.trans (kb_ HK) (KeepBut.of_grown hg g) (Kd.R_base2 u.out)) ?_; clear l u HB HK; intro l u HB HK; clear hg hw hp_))
    go_ret
    exact ⟨_, by first | (rw [hRT_.out]; rfl) | exact er_, ra_ u, (is_ l), by repeat (first | (with_reducible first | exact HB.out | apply below_alloc | apply pw_below_drewN | apply below_drew1 | refine below_set ?_ (IsS102.ge l.out)) | exact HB.out), (kb_ HK)⟩
   ·rw [if_neg b2] at H
    obtain ⟨l1, l2⟩ := bn_ b2
    by_cases b3 : a0 = 2
    ·rw [if_pos b3] at H
     obtain ⟨l3, l4⟩ := bt_ b3
     clear b3
     replace H := ifn_ H
     obtain ⟨g4, H⟩ := H
     have q0 := decide_eq_true g4
     clear g4
     replace H := ifn_ H
     obtain ⟨g5, H⟩ := H
     have q1 := decide_eq_true g5
     clear g5
     replace H := ifn_ H
     obtain ⟨g6, H⟩ := H
     have k5 := Aside0.mk g6
     clear g6
     replace H : ∃ y_ : List S53, Aside0 (y_ = (s ++ [(⟨(rd_T53 s m).f0, (rd_T53 s m).f1, (rd_T53 s m).f2, (rd_T53 s m).f3⟩ : S53)])) ∧ (some (y_, I, J)) = some (r1, r2, r3) := ⟨_, ⟨rfl⟩, yh_ H⟩
     obtain ⟨x4, k8, H⟩ := H
     simp only [Option.some.injEq, Prod.mk.injEq] at H
     obtain ⟨rfl, rfl, rfl⟩ := H
     go_enter Try.func82, Try.ntmps82
     go_wp2_with (first | ((with_reducible refine gate_callee (f := 114) rfl ?_); refine goesL_ (some 6) rfl rfl Try.func114 (by kernel_rfl) rfl #[.pointer (some ⟨g, 0, none⟩), iv_ 4, iv_ 20] rfl mp_ ?_; (with_reducible refine (spec_l11Plan.calls k g y a1 a2 4 20 s B D x _ ?side1 ?side2 A2.out).mono ?_); (case side1 => exact is_ l); (case side2 => repeat (first | (with_reducible first | exact HB.out | apply below_alloc | apply pw_below_drewN | apply below_drew1 | refine below_set ?_ (IsS102.ge l.out)) | exact HB.out)); rintro e v9 ⟨d0, rfl, z, hi, hb, hk⟩; refine ⟨_, rfl, sh4_ (Kd.R_lower z (keep_size (w := w) (g := g) (row := none) (kb_ HK))) (KeepBut.trans (kb_ HK) hk (.inl rfl)) hb hi ?_⟩; clear HK HB l hb hk hi z; intro u HK HB l; obtain ⟨o8, m1, m6⟩ := Kd.R_slice u.out; subst m6) | ((with_reducible refine gate_callee (f := 60) rfl ?_); refine goesL_ (some 14) rfl rfl Try.func60 (by kernel_rfl) rfl #[.pointer (some ⟨g, 0, none⟩), iv_ (s.length : Int)] rfl mp_ ?_; (with_reducible refine (spec_l1Below.calls g y B D (s.length : Int) m E G x _ ?side1 ?side2 A6.out).mono ?_); (case side1 => exact is_ l); (case side2 => repeat (first | (with_reducible first | exact HB.out | apply below_alloc | apply pw_below_drewN | apply below_drew1 | refine below_set ?_ (IsS102.ge l.out)) | exact HB.out)); rintro e w2 ⟨rfl, hi, hb, hk⟩; refine ⟨_, rfl, sh4_ (Kd.R_mono (Kd.R_keep (IsS102.apart (show IsS102 x _ g y B D from (is_ l)) (ra_ u) (by decide)) hk (fun _ h => h.2)) (fun _ h => h.1)) (KeepBut.trans (kb_ HK) hk (.inl rfl)) hb hi ?_⟩; clear u HK HB l hb hk hi; intro u HK HB l) | ((with_reducible refine gate_callee (f := 60) rfl ?_); refine goesL_ (some 16) rfl rfl Try.func60 (by kernel_rfl) rfl #[.pointer (some ⟨g, 0, none⟩), iv_ 8] rfl mp_ ?_; (with_reducible refine (spec_l1Below.calls g y E G 8 a0 I J x _ ?side1 ?side2 A7.out).mono ?_); (case side1 => exact is_ l); (case side2 => repeat (first | (with_reducible first | exact HB.out | apply below_alloc | apply pw_below_drewN | apply below_drew1 | refine below_set ?_ (IsS102.ge l.out)) | exact HB.out)); rintro e w3 ⟨rfl, hi, hb, hk⟩; refine ⟨_, rfl, sh4_ (Kd.R_mono (Kd.R_keep (IsS102.apart (show IsS102 x _ g y E G from (is_ l)) (ra_ u) (by decide)) hk (fun _ h => h.2)) (fun _ h => h.1)) (KeepBut.trans (kb_ HK) hk (.inl rfl)) hb hi ?_⟩; clear u HK HB l hb hk hi; intro u HK HB l; have e2 : 0 ≤ (m : Int) := od_; have e6 : m < (s.length : Int) := od_; obtain ⟨l0, m3, u7, u8, u9, v0⟩ := at_T53 (Kd.R_reads' u.out).2.2 m e2 e6; cases m3; replace e2 := eq_true e2; replace e6 := eq_true e6) | ((with_reducible refine gate_builtin (b := .append) (xs := #[.tmp 36, .tmp 41]) rfl ?_); at_builtin; refine Kd.R_append k53 w.heap.size rfl (.tmp 36) (.tmp 41) 50 53 (.agg #[(iv_ 0), (iv_ 0), (iv_ 0), (iv_ 0)]) 32 rfl Try.underlying50 info53 rfl (by decide) (by omega) (.slice (some l0) s.length m1) s (⟨(rd_T53 s m).f0, (rd_T53 s m).f1, (rd_T53 s m).f2, (rd_T53 s m).f3⟩ : S53) [iv_ ((rd_T53 s m).f0), iv_ ((rd_T53 s m).f1), iv_ ((rd_T53 s m).f2), iv_ ((rd_T53 s m).f3)] (fun _ => True) (fun _ => False) rfl rfl ?aP (fun _ hk => hk.elim) ?aF ?aO (Below.refl _ _) ?aS ?aL ?_; (case aP => exact k53_mkM _ _ _ (⟨(rd_T53 s m).f0, (rd_T53 s m).f1, (rd_T53 s m).f2, (rd_T53 s m).f3⟩ : S53)); (case aF => exact (fun _ _ => trivial)); (case aO => exact (ra_ u)); (case aS => exact (keep_size (w := w) (g := g) (row := none) (kb_ HK))); (case aL => have := k5.out; omega); intro v1 w6 ho hb hg hat; rw [← k8.out] at ho; refine sh4_ (IsS102.grown (is_ l) hg (IsS102.own_ne l.out u.out (by decide))) (below_weaken (by repeat (first | (with_reducible first | exact HB.out | apply below_alloc | apply pw_below_drewN | apply below_drew1 | refine below_set ?_ (IsS102.ge l.out)) | exact HB.out)) HL.out hb) (KeepBut.trans (kb_ HK) (KeepBut.of_grown hg g) (Kd.R_base2 u.out)) ho ?_; clear l HB HK u ho hb hg hat; intro l HB HK k4))
     go_ret
     exact ⟨_, by first | (rw [hRT_.out]; rfl) | exact er_, ra_ k4, (is_ l), by repeat (first | (with_reducible first | exact HB.out | apply below_alloc | apply pw_below_drewN | apply below_drew1 | refine below_set ?_ (IsS102.ge l.out)) | exact HB.out), (kb_ HK)⟩
    ·rw [if_neg b3] at H
     obtain ⟨l3, l4⟩ := bn_ b3
     by_cases b4 : a0 = 3
     ·rw [if_pos b4] at H
      obtain ⟨l7, l8⟩ := bt_ b4
      clear b4
      replace H : ∃ y_ : List Int, Aside0 (y_ = (([(-1), 4, 9223372036854775807] : List Int))) ∧ ((spec_l1Int.f y I J y_).bind fun d4 => (if 0 ≤ m then (if m < (s.length : Int) then (some ((s.set (m : Int).toNat (⟨(rd_T53 s m).f0, d4.1, (rd_T53 s m).f2, (rd_T53 s m).f3⟩ : S53)), d4.2.1, d4.2.2)) else (none)) else (none))) = some (r1, r2, r3) := ⟨_, ⟨rfl⟩, yh_ H⟩
      obtain ⟨j6, g0, H⟩ := H
      replace H := bs_ H
      obtain ⟨⟨a9, j3, j4⟩, j8, H⟩ := H
      dsimp only at H
      replace H := ifn_ H
      obtain ⟨g7, H⟩ := H
      have q3 := decide_eq_true g7
      clear g7
      replace H := ifn_ H
      obtain ⟨g8, H⟩ := H
      have q4 := decide_eq_true g8
      clear g8
      replace H : ∃ y_ : List S53, Aside0 (y_ = (s.set (m : Int).toNat (⟨(rd_T53 s m).f0, a9, (rd_T53 s m).f2, (rd_T53 s m).f3⟩ : S53))) ∧ (some (y_, j3, j4)) = some (r1, r2, r3) := ⟨_, ⟨rfl⟩, yh_ H⟩
      obtain ⟨o5, k9, H⟩ := H
      simp only [Option.some.injEq, Prod.mk.injEq] at H
      obtain ⟨rfl, rfl, rfl⟩ := H
      go_enter Try.func82, Try.ntmps82
      go_wp2_with (first | ((with_reducible refine gate_callee (f := 114) rfl ?_); refine goesL_ (some 6) rfl rfl Try.func114 (by kernel_rfl) rfl #[.pointer (some ⟨g, 0, none⟩), iv_ 4, iv_ 20] rfl mp_ ?_; (with_reducible refine (spec_l11Plan.calls k g y a1 a2 4 20 s B D x _ ?side1 ?side2 A2.out).mono ?_); (case side1 => exact is_ l); (case side2 => repeat (first | (with_reducible first | exact HB.out | apply below_alloc | apply pw_below_drewN | apply below_drew1 | refine below_set ?_ (IsS102.ge l.out)) | exact HB.out)); rintro e w7 ⟨d0, rfl, z, hi, hb, hk⟩; refine ⟨_, rfl, sh4_ (Kd.R_lower z (keep_size (w := w) (g := g) (row := none) (kb_ HK))) (KeepBut.trans (kb_ HK) hk (.inl rfl)) hb hi ?_⟩; clear HK HB l hb hk hi z; intro u HK HB l; obtain ⟨o9, d5, m7⟩ := Kd.R_slice u.out; subst m7) | ((with_reducible refine gate_callee (f := 60) rfl ?_); refine goesL_ (some 14) rfl rfl Try.func60 (by kernel_rfl) rfl #[.pointer (some ⟨g, 0, none⟩), iv_ (s.length : Int)] rfl mp_ ?_; (with_reducible refine (spec_l1Below.calls g y B D (s.length : Int) m E G x _ ?side1 ?side2 A6.out).mono ?_); (case side1 => exact is_ l); (case side2 => repeat (first | (with_reducible first | exact HB.out | apply below_alloc | apply pw_below_drewN | apply below_drew1 | refine below_set ?_ (IsS102.ge l.out)) | exact HB.out)); rintro e w8 ⟨rfl, hi, hb, hk⟩; refine ⟨_, rfl, sh4_ (Kd.R_mono (Kd.R_keep (IsS102.apart (show IsS102 x _ g y B D from (is_ l)) (ra_ u) (by decide)) hk (fun _ h => h.2)) (fun _ h => h.1)) (KeepBut.trans (kb_ HK) hk (.inl rfl)) hb hi ?_⟩; clear u HK HB l hb hk hi; intro u HK HB l) | ((with_reducible refine gate_callee (f := 60) rfl ?_); refine goesL_ (some 16) rfl rfl Try.func60 (by kernel_rfl) rfl #[.pointer (some ⟨g, 0, none⟩), iv_ 8] rfl mp_ ?_; (with_reducible refine (spec_l1Below.calls g y E G 8 a0 I J x _ ?side1 ?side2 A7.out).mono ?_); (case side1 => exact is_ l); (case side2 => repeat (first | (with_reducible first | exact HB.out | apply below_alloc | apply pw_below_drewN | apply below_drew1 | refine below_set ?_ (IsS102.ge l.out)) | exact HB.out)); rintro e w9 ⟨rfl, hi, hb, hk⟩; refine ⟨_, rfl, sh4_ (Kd.R_mono (Kd.R_keep (IsS102.apart (show IsS102 x _ g y E G from (is_ l)) (ra_ u) (by decide)) hk (fun _ h => h.2)) (fun _ h => h.1)) (KeepBut.trans (kb_ HK) hk (.inl rfl)) hb hi ?_⟩; clear u HK HB l hb hk hi; intro u HK HB l) | ((with_reducible refine gate_dst (N := 48) rfl ?_); refine Kd.R_lit (Kd.int .i64) _ 3 ?hg (N := 48) ?hd (xs := ([(-1), 4, 9223372036854775807] : List Int)) (inner := [iv_ (-1), iv_ 4, iv_ 9223372036854775807]) (ok := fun _ => True) (okp := fun _ => True) ?hr ?hp (fun _ hk => hk) trivial (Below.refl _ _) (Nat.le_refl _) (by simp) ?_; (case hd => rfl); (case hg => rfl); (case hr => first | (go_simp; done) | (go_simp; rfl)); (case hp => exact (Reps.one (show Kd.M (Kd.int .i64) _ _ _ (-1) [iv_ (-1)] from rfl) (Reps.one (show Kd.M (Kd.int .i64) _ _ _ 4 [iv_ 4] from rfl) (Reps.one (show Kd.M (Kd.int .i64) _ _ _ 9223372036854775807 [iv_ 9223372036854775807] from rfl) (Reps.none _ _))))); intro v2 x0 c1 hb hg_ hnew_; clear hg_ hnew_; (first | rw [← g0.out] at c1 | (simp only [Int.reduceToNat] at c1; rw [← g0.out] at c1)); refine sh5_ (Kd.R_below (ra_ u) hb) (Kd.R_lower c1 (keep_size (w := w) (g := g) (row := none) (kb_ HK))) (IsS102.below (is_ l) hb) (KeepBut.trans (kb_ HK) (KeepBut.of_below hb g none) (.inl rfl)) (below_step (by repeat (first | (with_reducible first | exact HB.out | apply below_alloc | apply pw_below_drewN | apply below_drew1 | refine below_set ?_ (IsS102.ge l.out)) | exact HB.out)) hb) ?_; clear u l HK HB hb c1; intro u Z l HK HB; obtain ⟨k0, m2, m9⟩ := Kd.R_slice Z.out; subst m9) | ((with_reducible refine gate_callee (f := 91) rfl ?_); refine goesL_ (some 49) rfl rfl Try.func91 (by kernel_rfl) rfl #[.pointer (some ⟨g, 0, none⟩), .slice k0 j6.length m2] rfl mp_ ?_; (with_reducible refine (spec_l1Int.calls g y I J _ _ j6 a9 j3 j4 x _ ?side1 ?side2 ?side3 ?side4 ?side5 j8.out).mono ?_); (case side1 => exact is_ l); (case side2 => repeat (first | (with_reducible first | exact HB.out | apply below_alloc | apply pw_below_drewN | apply below_drew1 | refine below_set ?_ (IsS102.ge l.out)) | exact HB.out)); (case side3 => repeat (first | exact (Kd.R_reads' Z.out).2.2 | (with_reducible refine Kd.C_alloc ?_ _) | (with_reducible refine Kd.C_drewN ?_ _) | (with_reducible refine Kd.C_drew ?_))); (case side4 => exact (Kd.R_reads' Z.out).2.1); (case side5 => exact far_slice (IsS102.own_ne l.out Z.out (by decide))); rintro e Y ⟨rfl, hi, hb, hk⟩; refine ⟨_, rfl, sh5_ (Kd.R_mono (Kd.R_keep (IsS102.apart (show IsS102 x _ g y I J from (is_ l)) (ra_ u) (by decide)) hk (fun _ h => h.2)) (fun _ h => h.1)) (Kd.R_mono (Kd.R_keep (IsS102.apart (show IsS102 x _ g y I J from (is_ l)) (ra_ Z) (by decide)) hk (fun _ h => h.2)) (fun _ h => h.1)) (KeepBut.trans (kb_ HK) hk (.inl rfl)) hb hi ?_⟩; clear u Z HK HB l hb hk hi; intro u Z HK HB l; have e1 : 0 ≤ (m : Int) := od_; have e5 : (m : Int) < ((s.length : Int) : Int) := od_; obtain ⟨L, r9, h3, h6, n3, r6, f6⟩ := Kd.R_form u.out (by omega); (first | cases h3 | (injection h3 with ea_ en_ ec_; (first | subst ea_ | (injection ea_ with ea_; subst ea_)); subst ec_; clear en_)); have k3 := Aside0.mk h6; have p4 := Aside0.mk f6; clear h6 n3 f6; obtain ⟨q9, n6, i1, b7, c0⟩ := Kd.R_elem u.out z53 (m : Int) e1 e5; obtain rfl := k53_openM i1; have u3 : Y.cell? ⟨L, (m : Int).toNat * 4, none⟩ = some (iv_ ((rd_T53 s m).f0)) := b7 0 _ rfl; have u4 : Y.cell? ⟨L, (m : Int).toNat * 4 + 1, none⟩ = some (iv_ ((rd_T53 s m).f1)) := b7 1 _ rfl; have u5 : Y.cell? ⟨L, (m : Int).toNat * 4 + 2, none⟩ = some (iv_ ((rd_T53 s m).f2)) := b7 2 _ rfl; have u6 : Y.cell? ⟨L, (m : Int).toNat * 4 + 3, none⟩ = some (iv_ ((rd_T53 s m).f3)) := b7 3 _ rfl; have t0 : Y.frozen? ⟨L, (m : Int).toNat * 4, none⟩ = false := c0 0; have t1 : Y.frozen? ⟨L, (m : Int).toNat * 4 + 1, none⟩ = false := c0 1; have t2 : Y.frozen? ⟨L, (m : Int).toNat * 4 + 2, none⟩ = false := c0 2; have t3 : Y.frozen? ⟨L, (m : Int).toNat * 4 + 3, none⟩ = false := c0 3; clear n6 b7 c0 i1; replace e1 := eq_true e1; replace e5 := eq_true e5; have f9 := Aside0.mk (show Kd.R k53 53 Y w.heap.size (fun _ => True) (.slice (some ⟨L, 0, none⟩) s.length d5) s from (ra_ u)); obtain ⟨r0, i5, i2, d8, i8⟩ := Kd.R_elem f9.out z53 (m : Int) od_ (by have h_ : (m : Int) < ((s.length : Int) : Int) := od_; first | exact h_ | (have e_ := (Kd.R_reads' u.out).1; omega) | simpa using h_); obtain rfl := k53_openM i2; have d3 := Kd.R_seg f9.out (m : Int) od_ (by have h_ : (m : Int) < ((s.length : Int) : Int) := od_; first | exact h_ | (have e_ := (Kd.R_reads' u.out).1; omega) | simpa using h_) (seg := [iv_ a9]) (j := 1) i5 d8 (show 2 ≤ 4 from by decide) (x' := (⟨(rd_T53 s m).f0, a9, (rd_T53 s m).f2, (rd_T53 s m).f3⟩ : S53)) (k53_mkM _ _ _ (⟨(rd_T53 s m).f0, a9, (rd_T53 s m).f2, (rd_T53 s m).f3⟩ : S53) ) (fun _ hk => hk); have o2 := d8 1 _ rfl; (try simp only [show (k53).sz = 4 from rfl, Nat.mul_one, Nat.add_zero] at o2); have n9 := i8 1; (try simp only [show (k53).sz = 4 from rfl, Nat.mul_one, Nat.add_zero] at n9); clear i5 d8 i8 i2) | ((with_reducible refine gate_store (t := 3) (p := 51) rfl ?_); refine store_event (t := 3) (p := 51) (v := ?vo_w55) (w1 := (Y.setCell ⟨L, (m : Int).toNat * 4 + 1, none⟩ (iv_ a9))) ?hg ?ho ?hn ?hr ?_; (case ho => rfl); (case hg => rfl); (case hn => rfl); (case hr => first | (go_simp; done) | (go_simp; rfl)); intro e9 hw; have hg : Y.grownBy e9 (some L) := (by rw [hw]; exact d3.2); have hp_ : Kd.R k53 53 e9 w.heap.size (fun _ => True) (.slice (some ⟨L, 0, none⟩) s.length d5) o5 := (by rw [hw, k9.out]; exact d3.1); clear d3; refine sh5_ (IsS102.grown (is_ l) hg (IsS102.own_ne l.out u.out (by decide))) hp_ (Kd.R_over' (v := (.slice (some ⟨L, 0, none⟩) s.length d5)) (ra_ Z) (Kd.R_typed u.out) (by decide) hg) ((by rw [hw]; exact below_set (HB.out) (Nat.le_trans HL.out k3.out) : Below x.heap.size x e9)) (KeepBut.trans (kb_ HK) (KeepBut.of_grown hg g) (Kd.R_base2 u.out)) ?_; clear l u Z HB HK; intro l u Z HB HK; clear hg hw hp_))
      go_ret
      exact ⟨_, by first | (rw [hRT_.out]; rfl) | exact er_, ra_ u, (is_ l), by repeat (first | (with_reducible first | exact HB.out | apply below_alloc | apply pw_below_drewN | apply below_drew1 | refine below_set ?_ (IsS102.ge l.out)) | exact HB.out), (kb_ HK)⟩
     ·rw [if_neg b4] at H
      obtain ⟨l7, l8⟩ := bn_ b4
      simp only [Option.some.injEq, Prod.mk.injEq] at H
      obtain ⟨rfl, rfl, rfl⟩ := H
      go_enter Try.func82, Try.ntmps82
      go_wp2_with (first | ((with_reducible refine gate_callee (f := 114) rfl ?_); refine goesL_ (some 6) rfl rfl Try.func114 (by kernel_rfl) rfl #[.pointer (some ⟨g, 0, none⟩), iv_ 4, iv_ 20] rfl mp_ ?_; (with_reducible refine (spec_l11Plan.calls k g y a1 a2 4 20 s B D x _ ?side1 ?side2 A2.out).mono ?_); (case side1 => exact is_ l); (case side2 => repeat (first | (with_reducible first | exact HB.out | apply below_alloc | apply pw_below_drewN | apply below_drew1 | refine below_set ?_ (IsS102.ge l.out)) | exact HB.out)); rintro e x1 ⟨d0, rfl, z, hi, hb, hk⟩; refine ⟨_, rfl, sh4_ (Kd.R_lower z (keep_size (w := w) (g := g) (row := none) (kb_ HK))) (KeepBut.trans (kb_ HK) hk (.inl rfl)) hb hi ?_⟩; clear HK HB l hb hk hi z; intro u HK HB l; obtain ⟨p1, s1, n0⟩ := Kd.R_slice u.out; subst n0) | ((with_reducible refine gate_callee (f := 60) rfl ?_); refine goesL_ (some 14) rfl rfl Try.func60 (by kernel_rfl) rfl #[.pointer (some ⟨g, 0, none⟩), iv_ (s.length : Int)] rfl mp_ ?_; (with_reducible refine (spec_l1Below.calls g y B D (s.length : Int) m E G x _ ?side1 ?side2 A6.out).mono ?_); (case side1 => exact is_ l); (case side2 => repeat (first | (with_reducible first | exact HB.out | apply below_alloc | apply pw_below_drewN | apply below_drew1 | refine below_set ?_ (IsS102.ge l.out)) | exact HB.out)); rintro e x2 ⟨rfl, hi, hb, hk⟩; refine ⟨_, rfl, sh4_ (Kd.R_mono (Kd.R_keep (IsS102.apart (show IsS102 x _ g y B D from (is_ l)) (ra_ u) (by decide)) hk (fun _ h => h.2)) (fun _ h => h.1)) (KeepBut.trans (kb_ HK) hk (.inl rfl)) hb hi ?_⟩; clear u HK HB l hb hk hi; intro u HK HB l) | ((with_reducible refine gate_callee (f := 60) rfl ?_); refine goesL_ (some 16) rfl rfl Try.func60 (by kernel_rfl) rfl #[.pointer (some ⟨g, 0, none⟩), iv_ 8] rfl mp_ ?_; (with_reducible refine (spec_l1Below.calls g y E G 8 a0 I J x _ ?side1 ?side2 A7.out).mono ?_); (case side1 => exact is_ l); (case side2 => repeat (first | (with_reducible first | exact HB.out | apply below_alloc | apply pw_below_drewN | apply below_drew1 | refine below_set ?_ (IsS102.ge l.out)) | exact HB.out)); rintro e x3 ⟨rfl, hi, hb, hk⟩; refine ⟨_, rfl, sh4_ (Kd.R_mono (Kd.R_keep (IsS102.apart (show IsS102 x _ g y E G from (is_ l)) (ra_ u) (by decide)) hk (fun _ h => h.2)) (fun _ h => h.1)) (KeepBut.trans (kb_ HK) hk (.inl rfl)) hb hi ?_⟩; clear u HK HB l hb hk hi; intro u HK HB l))
      go_ret
      exact ⟨_, by first | (rw [hRT_.out]; rfl) | exact er_, ra_ u, (is_ l), by repeat (first | (with_reducible first | exact HB.out | apply below_alloc | apply pw_below_drewN | apply below_drew1 | refine below_set ?_ (IsS102.ge l.out)) | exact HB.out), (kb_ HK)⟩

/-! ### spec_DrawCanSpeak: function 39 -/
def spec_DrawCanSpeak.f (k : Nat) (x : List Int) : Option (List S53 × Int × Int × Int) := (spec_l1New.f k x).bind fun j => ((spec_l11Any.f k j.1 j.2.1 j.2.2).bind fun l => ((spec_l1Below.f j.1 l.2.1 l.2.2 5).bind fun m => ((spec_l1Below.f j.1 m.2.1 m.2.2 5).bind fun s => ((spec_l1Below.f j.1 s.2.1 s.2.2 24).bind fun u => (some (l.1, wrap64 (m.1 - 1), wrap64 (s.1 - 1), wrap64 (u.1 - 1)))))))
theorem spec_DrawCanSpeak.calls (k : Nat) (x : Option Addr) (y : Nat) (u : List Int) (O : List S53) (T U X : Int) (w : World) (M : Kd.C (Kd.int .u8) w x u.length u) (J : u.length ≤ y) (h : spec_DrawCanSpeak.f k u = some (O, T, U, X)) :
  Calls Try.prog 39 #[.slice x u.length y] w fun e w' => ∃ a0 : Value, e = .returned (.tuple #[a0, iv_ T, iv_ U, iv_ X]) ∧ Kd.R k53 53 w' w.heap.size (fun _ => True) a0 O ∧ Below w.heap.size w w' := by
 have a7 := Aside0.mk M
 have a6 := Aside0.mk J
 clear M J
 have HB := Aside0.mk (Below.refl w.heap.size w)
 have H := h
 clear h
 unfold spec_DrawCanSpeak.f at H
 replace H := bs_ H
 obtain ⟨⟨s, Y, Z⟩, A2, H⟩ := H
 dsimp only at H
 replace H := bs_ H
 obtain ⟨⟨a9, z, B⟩, A3, H⟩ := H
 dsimp only at H
 replace H := bs_ H
 obtain ⟨⟨b0, D, E⟩, A4, H⟩ := H
 dsimp only at H
 replace H := bs_ H
 obtain ⟨⟨b1, G, I⟩, A5, H⟩ := H
 dsimp only at H
 replace H := bs_ H
 obtain ⟨⟨b2, b3, b4⟩, A6, H⟩ := H
 dsimp only at H
 simp only [Option.some.injEq, Prod.mk.injEq] at H
 obtain ⟨rfl, rfl, rfl, rfl⟩ := H
 go_enter Try.func39, Try.ntmps39
 go_wp2_with (first | ((with_reducible refine gate_callee (f := 49) rfl ?_); refine goesL_ (some 11) rfl rfl Try.func49 (by kernel_rfl) rfl #[.slice x u.length y] rfl mp_ ?_; (with_reducible refine (spec_l1New.calls k _ _ u s Y Z w _ ?side1 ?side2 ?side3 A2.out).mono ?_); (case side1 => exact bl_ HB); (case side2 => exact a7.out); (case side3 => exact a6.out); rintro e w7 ⟨l, rfl, hi, hb, a8⟩; refine ⟨_, rfl, sh2_ hb hi ?_⟩; clear HB hb a8 hi; intro HB j) | ((with_reducible refine gate_callee (f := 82) rfl ?_); refine goesL_ (some 13) rfl rfl Try.func82 (by kernel_rfl) rfl #[.pointer (some ⟨l, 0, none⟩)] rfl mp_ ?_; (with_reducible refine (spec_l11Any.calls k l s Y Z a9 z B w _ ?side1 ?side2 A3.out).mono ?_); (case side1 => exact is_ j); (case side2 => repeat (first | (with_reducible first | exact HB.out | apply below_alloc | apply pw_below_drewN | apply below_drew1 | refine below_set ?_ (IsS102.ge j.out)) | exact HB.out)); rintro e w8 ⟨b5, rfl, L, hi, hb, hk⟩; refine ⟨_, rfl, sh3_ (Kd.R_lower L (below_size (by repeat (first | (with_reducible first | exact HB.out | apply below_alloc | apply pw_below_drewN | apply below_drew1 | refine below_set ?_ (IsS102.ge j.out)) | exact HB.out)))) hb hi ?_⟩; clear HB j hb hk hi L; intro m HB j) | ((with_reducible refine gate_callee (f := 60) rfl ?_); refine goesL_ (some 15) rfl rfl Try.func60 (by kernel_rfl) rfl #[.pointer (some ⟨l, 0, none⟩), iv_ 5] rfl mp_ ?_; (with_reducible refine (spec_l1Below.calls l s z B 5 b0 D E w _ ?side1 ?side2 A4.out).mono ?_); (case side1 => exact is_ j); (case side2 => repeat (first | (with_reducible first | exact HB.out | apply below_alloc | apply pw_below_drewN | apply below_drew1 | refine below_set ?_ (IsS102.ge j.out)) | exact HB.out)); rintro e w9 ⟨rfl, hi, hb, hk⟩; refine ⟨_, rfl, sh3_ (Kd.R_mono (Kd.R_keep (IsS102.apart (show IsS102 w _ l s z B from (is_ j)) (ra_ m) (by decide)) hk (fun _ h => h.2)) (fun _ h => h.1)) hb hi ?_⟩; clear m HB j hb hk hi; intro m HB j) | ((with_reducible refine gate_callee (f := 60) rfl ?_); refine goesL_ (some 18) rfl rfl Try.func60 (by kernel_rfl) rfl #[.pointer (some ⟨l, 0, none⟩), iv_ 5] rfl mp_ ?_; (with_reducible refine (spec_l1Below.calls l s D E 5 b1 G I w _ ?side1 ?side2 A5.out).mono ?_); (case side1 => exact is_ j); (case side2 => repeat (first | (with_reducible first | exact HB.out | apply below_alloc | apply pw_below_drewN | apply below_drew1 | refine below_set ?_ (IsS102.ge j.out)) | exact HB.out)); rintro e b6 ⟨rfl, hi, hb, hk⟩; refine ⟨_, rfl, sh3_ (Kd.R_mono (Kd.R_keep (IsS102.apart (show IsS102 w _ l s D E from (is_ j)) (ra_ m) (by decide)) hk (fun _ h => h.2)) (fun _ h => h.1)) hb hi ?_⟩; clear m HB j hb hk hi; intro m HB j) | ((with_reducible refine gate_callee (f := 60) rfl ?_); refine goesL_ (some 24) rfl rfl Try.func60 (by kernel_rfl) rfl #[.pointer (some ⟨l, 0, none⟩), iv_ 24] rfl mp_ ?_; (with_reducible refine (spec_l1Below.calls l s G I 24 b2 b3 b4 w _ ?side1 ?side2 A6.out).mono ?_); (case side1 => exact is_ j); (case side2 => repeat (first | (with_reducible first | exact HB.out | apply below_alloc | apply pw_below_drewN | apply below_drew1 | refine below_set ?_ (IsS102.ge j.out)) | exact HB.out)); rintro e b7 ⟨rfl, hi, hb, hk⟩; refine ⟨_, rfl, sh3_ (Kd.R_mono (Kd.R_keep (IsS102.apart (show IsS102 w _ l s G I from (is_ j)) (ra_ m) (by decide)) hk (fun _ h => h.2)) (fun _ h => h.1)) hb hi ?_⟩; clear m HB j hb hk hi; intro m HB j))
 refine bodyPost_ret (results_list (rs := [.tmp 2, .tmp 3, .tmp 4, .tmp 5]) rfl (by simp) (.tmp (.tmp (.tmp (.tmp .nil))))) rfl ?_
 exact ⟨_, by first | (rw [hRT_.out]; rfl) | exact er_, ra_ m, by repeat (first | (with_reducible first | exact HB.out | apply below_alloc | apply pw_below_drewN | apply below_drew1 | refine below_set ?_ (IsS102.ge j.out)) | exact HB.out)⟩

/-! ### impl_spanOf: function 86 -/
def impl_spanOf.f (m s j l : Int) : Option (Int × Int) := some (j, l)
theorem impl_spanOf.calls (u x l m z B : Int) (w : World) (h : impl_spanOf.f u x l m = some (z, B)) :
  Calls Try.prog 86 #[.agg #[iv_ u, iv_ x, iv_ l, iv_ m]] w fun e w' => e = .returned (.agg #[iv_ z, iv_ B]) ∧ Below w.heap.size w w' := by
 have U := Try.underlying53
 have X := Try.underlying82
 have HB := Aside0.mk (Below.refl w.heap.size w)
 have H := h
 clear h
 unfold impl_spanOf.f at H
 simp only [Option.some.injEq, Prod.mk.injEq] at H
 obtain ⟨rfl, rfl⟩ := H
 go_enter Try.func86, Try.ntmps86
 go_wp2_with (first | ((with_reducible refine gd_ 1 ?_); refine bx_ 1 53 #[iv_ u, iv_ x, iv_ l, iv_ m] ?_; intro J hg Y hbox hb; refine sh3_ (below_step (bl_ HB) hb) hbox (ge_ hg (bl_ HB)) ?_; clear HB hb hbox hg; intro HB j s) | ((with_reducible refine gd_ 2 ?_); refine bx_ 2 82 #[iv_ 0, iv_ 0] ?_; intro I hg Z hbox hb; refine sh6_ (blk_below (bk_ j) hb) (below_step (bl1_ HB s) hb) hbox (ge_ hg (bl1_ HB s)) (nl_ hg (bk_ j)) (ng_ hg (bk_ j)) ?_; clear j HB hb hbox hg; intro j HB y D E G; have O := E.out; have T := G.out; have L := cf4_ j; have M := cf2_ y))
 refine bodyPost_ret (results_cell_row rfl _ _ I 82 #[iv_ l, iv_ m] (0, 0) _ rfl (bp_ y) Try.underlying82 rfl (by kernel_rfl)) rfl ?_
 exact ⟨by first | (rw [hRT_.out]; rfl) | exact er_, bl2_ HB s D⟩

/-! ### impl_IsContact: function 83 -/
def impl_IsContact.f (j l s u x : Int) : Option (Bool) := if j ≥ 0 then (if j < l then (if l < x then ((impl_spanOf.f j l s u).bind fun m => ((impl_IsSpan.f m.1 m.2).bind fun y => (some y))) else (some false)) else (some false)) else (some false)
theorem impl_IsContact.calls (l s u x y : Int) (r : Bool) (w : World) (h : impl_IsContact.f l s u x y = some r) :
  Calls Try.prog 83 #[.agg #[iv_ l, iv_ s, iv_ u, iv_ x], iv_ y] w fun e w' => e = .returned (.bool r) ∧ Below w.heap.size w w' := by
 have Y := Try.underlying53
 have HB := Aside0.mk (Below.refl w.heap.size w)
 have H := h
 clear h
 unfold impl_IsContact.f at H
 by_cases c3 : l ≥ 0
 ·rw [if_pos c3] at H
  have I : decide (0 ≤ l) = true := decide_eq_true c3
  clear c3
  by_cases c4 : l < s
  ·rw [if_pos c4] at H
   have J := decide_eq_true c4
   clear c4
   by_cases c5 : s < y
   ·rw [if_pos c5] at H
    have L := decide_eq_true c5
    clear c5
    replace H := bs_ H
    obtain ⟨⟨B, D⟩, E, H⟩ := H
    dsimp only at H
    replace H := bs_ H
    obtain ⟨M, G, H⟩ := H
    obtain rfl := Option.some.inj H
    go_enter Try.func83, Try.ntmps83
    go_wp2_with (first | ((with_reducible refine gd_ 2 ?_); refine bx_ 2 53 #[iv_ l, iv_ s, iv_ u, iv_ x] ?_; intro z hg w8 hbox hb; refine sh3_ (below_step (bl_ HB) hb) hbox (ge_ hg (bl_ HB)) ?_; clear HB hb hbox hg; intro HB j m; have X := cf4_ j) | (go_at_call 86; (with_reducible refine (impl_spanOf.calls l s u x B D _ E.out).mono ?_); rintro e Z ⟨rfl, hb⟩; refine sh2_ (blk_below (bk_ j) hb) (below_step (bl1_ HB m) hb) ?_; clear j HB hb; intro j HB) | (go_at_call 99; (with_reducible refine (impl_IsSpan.calls B D M _ G.out).mono ?_); rintro e a0 ⟨rfl, hb⟩; refine sh2_ (blk_below (bk_ j) hb) (below_step (bl1_ HB m) hb) ?_; clear j HB hb; intro j HB))
    go_ret
    exact ⟨by first | (rw [hRT_.out]; rfl) | exact er_, bl1_ HB m⟩
   ·rw [if_neg c5] at H
    have L := decide_eq_false c5
    clear c5
    obtain rfl := Option.some.inj H
    go_enter Try.func83, Try.ntmps83
    go_wp2_with (first | ((with_reducible refine gd_ 2 ?_); refine bx_ 2 53 #[iv_ l, iv_ s, iv_ u, iv_ x] ?_; intro z hg a2 hbox hb; refine sh3_ (below_step (bl_ HB) hb) hbox (ge_ hg (bl_ HB)) ?_; clear HB hb hbox hg; intro HB j m; have O := cf4_ j))
    go_ret
    exact ⟨by first | (rw [hRT_.out]; rfl) | exact er_, bl1_ HB m⟩
  ·rw [if_neg c4] at H
   have J := decide_eq_false c4
   clear c4
   obtain rfl := Option.some.inj H
   go_enter Try.func83, Try.ntmps83
   go_wp2_with (first | ((with_reducible refine gd_ 2 ?_); refine bx_ 2 53 #[iv_ l, iv_ s, iv_ u, iv_ x] ?_; intro z hg a3 hbox hb; refine sh3_ (below_step (bl_ HB) hb) hbox (ge_ hg (bl_ HB)) ?_; clear HB hb hbox hg; intro HB j m; have T := cf4_ j))
   go_ret
   exact ⟨by first | (rw [hRT_.out]; rfl) | exact er_, bl1_ HB m⟩
 ·rw [if_neg c3] at H
  have I : decide (0 ≤ l) = false := decide_eq_false c3
  clear c3
  obtain rfl := Option.some.inj H
  go_enter Try.func83, Try.ntmps83
  go_wp2_with (first | ((with_reducible refine gd_ 2 ?_); refine bx_ 2 53 #[iv_ l, iv_ s, iv_ u, iv_ x] ?_; intro z hg a4 hbox hb; refine sh3_ (below_step (bl_ HB) hb) hbox (ge_ hg (bl_ HB)) ?_; clear HB hb hbox hg; intro HB j m; have U := cf4_ j))
  go_ret
  exact ⟨by first | (rw [hRT_.out]; rfl) | exact er_, bl1_ HB m⟩

/-! ### cmp_Or_int: function 84 -/
def cmp_Or_int.l0 : Nat → Int → List Int → Int → Int → Option (Int)
 | 0, _, _, _, _ => none
 | k + 1, m, l, s, j => if j < s then (if 0 ≤ j then (if j < (l.length : Int) then (if (rd l j) = m then (cmp_Or_int.l0 k m l s (wrap64 (j + 1))) else (some (rd l j))) else (none)) else (none)) else (some m)
def cmp_Or_int.f (k : Nat) (j : List Int) : Option (Int) := cmp_Or_int.l0 k 0 j (j.length : Int) 0
theorem cmp_Or_int.calls (k : Nat) (x : Option Addr) (B : Nat) (l : List Int) (r : Int) (w : World) (E : Kd.C (Kd.int .i64) w x l.length l) (D : l.length ≤ B) (h : cmp_Or_int.f k l = some r) :
  Calls Try.prog 84 #[.slice x l.length B] w fun e w' => e = .returned (iv_ r) ∧ Drawn0 w w' := by
 have z := Aside0.mk E
 have U := Aside0.mk D
 clear E D
 have H := h
 clear h
 unfold cmp_Or_int.f at H
 have H' := Aside0.mk H
 clear H
 go_enter Try.func84, Try.ntmps84
 go_wp2
 go_loopg [8] k (fun kq T w' => ∃ (j : Int), T = iv_ j ∧ Aside0 (cmp_Or_int.l0 kq 0 l (l.length : Int) j = some r) ∧ Aside0 (kq ≤ k) ∧ Drawn0 w w')
 case atStart => exact ⟨(0), (by first | rfl | (simp; done) | (simp [*]; done)), H', ⟨Nat.le_refl _⟩, by repeat (first | exact Drawn0.refl _ | apply Drawn0.step)⟩
 case round =>
  clear H'
  obtain ⟨j, rfl, HA, y, ⟨Z, rfl⟩⟩ := hrel
  cases gk with
  | zero => exact absurd HA.out (by simp [cmp_Or_int.l0])
  | succ O =>
   have H := HA.out
   clear HA
   simp only [cmp_Or_int.l0] at H
   by_cases c2 : j < (l.length : Int)
   ·rw [if_pos c2] at H
    have I := decide_eq_true c2
    clear c2
    replace H := ifn_ H
    obtain ⟨c3, H⟩ := H
    have X := decide_eq_true c3
    clear c3
    replace H := ifn_ H
    obtain ⟨c4, H⟩ := H
    have Y := decide_eq_true c4
    clear c4
    by_cases c5 : (rd l j) = 0
    ·rw [if_pos c5] at H
     obtain ⟨J, L⟩ := bt_ c5
     clear c5
     have H' := Aside0.mk H
     clear H
     have m : 0 ≤ (j : Int) := od_
     have s : j < (l.length : Int) := od_
     obtain ⟨G, u, M⟩ := Kd.at_int z.out j m s
     cases u
     replace m := eq_true m
     replace s := eq_true s
     go_wp2
     go_roundg O
     case measure => have := y.out; omega
     case rel => exact ⟨(wrap64 (j + 1)), (by first | rfl | (simp; done) | (simp [*]; done)), H', ⟨by have := y.out; omega⟩, by repeat (first | exact Drawn0.refl _ | apply Drawn0.step)⟩
    ·rw [if_neg c5] at H
     obtain ⟨J, L⟩ := bn_ c5
     obtain rfl := Option.some.inj H
     have m : 0 ≤ (j : Int) := od_
     have s : j < (l.length : Int) := od_
     obtain ⟨G, u, M⟩ := Kd.at_int z.out j m s
     cases u
     replace m := eq_true m
     replace s := eq_true s
     go_wp2
     go_ret
     exact ⟨by first | rfl | (simp; done) | (simp [*]; done), by repeat (first | exact Drawn0.refl _ | apply Drawn0.step)⟩
   ·rw [if_neg c2] at H
    have I := decide_eq_false c2
    clear c2
    obtain rfl := Option.some.inj H
    go_wp2
    go_ret
    exact ⟨by first | rfl | (simp; done) | (simp [*]; done), by repeat (first | exact Drawn0.refl _ | apply Drawn0.step)⟩

/-! ### cmp_isNaN_int: function 115 -/
def cmp_isNaN_int.f (j : Int) : Option (Bool) := some (j != j)
theorem cmp_isNaN_int.calls (j : Int) (r : Bool) (w : World) (h : cmp_isNaN_int.f j = some r) :
  Calls Try.prog 115 #[iv_ j] w fun e w' => e = .returned (.bool r) ∧ Drawn0 w w' := by
 have H := h
 clear h
 unfold cmp_isNaN_int.f at H
 obtain rfl := Option.some.inj H
 go_enter Try.func115, Try.ntmps115
 go_wp2
 go_ret
 exact ⟨by first | rfl | (simp; done) | (simp [*]; done), by repeat (first | exact Drawn0.refl _ | apply Drawn0.step)⟩

/-! ### cmp_Compare_int: function 85 -/
def cmp_Compare_int.f (j l : Int) : Option (Int) := (cmp_isNaN_int.f j).bind fun s => ((cmp_isNaN_int.f l).bind fun m => (if s = true then (if m = true then (some 0) else (some (-1))) else (if m = true then (some 1) else (if j < l then (some (-1)) else (if j > l then (some 1) else (some 0))))))
theorem cmp_Compare_int.calls (j l r : Int) (w : World) (h : cmp_Compare_int.f j l = some r) :
  Calls Try.prog 85 #[iv_ j, iv_ l] w fun e w' => e = .returned (iv_ r) ∧ Drawn0 w w' := by
 have H := h
 clear h
 unfold cmp_Compare_int.f at H
 replace H := bs_ H
 obtain ⟨B, s, H⟩ := H
 replace H := bs_ H
 obtain ⟨x, u, H⟩ := H
 by_cases c5 : B = true
 ·subst c5
  rw [if_pos rfl] at H
  by_cases c6 : x = true
  ·subst c6
   rw [if_pos rfl] at H
   obtain rfl := Option.some.inj H
   go_enter Try.func85, Try.ntmps85
   go_wp2_with (first | ((with_reducible refine gate_callee (f := 115) rfl ?_); refine gl_ 8 Try.func115 (cmp_isNaN_int.calls j true _ s.out) ?_; rintro e w' ⟨rfl, ⟨nd, rfl⟩⟩; refine ⟨_, rfl, ?_⟩) | ((with_reducible refine gate_callee (f := 115) rfl ?_); refine gl_ 10 Try.func115 (cmp_isNaN_int.calls l true _ u.out) ?_; rintro e w' ⟨rfl, ⟨nd, rfl⟩⟩; refine ⟨_, rfl, ?_⟩))
   go_ret
   exact ⟨by first | rfl | (simp; done) | (simp [*]; done), by repeat (first | exact Drawn0.refl _ | apply Drawn0.step)⟩
  ·replace c6 := Bool.eq_false_iff.mpr c6
   subst c6
   have m : (some (-1)) = some r := by rw [if_neg (show ¬ (false = true) by decide)] at H; exact H
   clear H
   have H := m
   clear m
   obtain rfl := Option.some.inj H
   go_enter Try.func85, Try.ntmps85
   go_wp2_with (first | ((with_reducible refine gate_callee (f := 115) rfl ?_); refine gl_ 8 Try.func115 (cmp_isNaN_int.calls j true _ s.out) ?_; rintro e w' ⟨rfl, ⟨nd, rfl⟩⟩; refine ⟨_, rfl, ?_⟩) | ((with_reducible refine gate_callee (f := 115) rfl ?_); refine gl_ 10 Try.func115 (cmp_isNaN_int.calls l false _ u.out) ?_; rintro e w' ⟨rfl, ⟨nd, rfl⟩⟩; refine ⟨_, rfl, ?_⟩))
   go_ret
   exact ⟨by first | rfl | (simp; done) | (simp [*]; done), by repeat (first | exact Drawn0.refl _ | apply Drawn0.step)⟩
 ·replace c5 := Bool.eq_false_iff.mpr c5
  subst c5
  have m : (if x = true then (some 1) else (if j < l then (some (-1)) else (if j > l then (some 1) else (some 0)))) = some r := by rw [if_neg (show ¬ (false = true) by decide)] at H; exact H
  clear H
  have H := m
  clear m
  by_cases c7 : x = true
  ·subst c7
   rw [if_pos rfl] at H
   obtain rfl := Option.some.inj H
   go_enter Try.func85, Try.ntmps85
   go_wp2_with (first | ((with_reducible refine gate_callee (f := 115) rfl ?_); refine gl_ 8 Try.func115 (cmp_isNaN_int.calls j false _ s.out) ?_; rintro e w' ⟨rfl, ⟨nd, rfl⟩⟩; refine ⟨_, rfl, ?_⟩) | ((with_reducible refine gate_callee (f := 115) rfl ?_); refine gl_ 10 Try.func115 (cmp_isNaN_int.calls l true _ u.out) ?_; rintro e w' ⟨rfl, ⟨nd, rfl⟩⟩; refine ⟨_, rfl, ?_⟩))
   go_ret
   exact ⟨by first | rfl | (simp; done) | (simp [*]; done), by repeat (first | exact Drawn0.refl _ | apply Drawn0.step)⟩
  ·replace c7 := Bool.eq_false_iff.mpr c7
   subst c7
   have m : (if j < l then (some (-1)) else (if j > l then (some 1) else (some 0))) = some r := by rw [if_neg (show ¬ (false = true) by decide)] at H; exact H
   clear H
   have H := m
   clear m
   by_cases c8 : j < l
   ·rw [if_pos c8] at H
    have y := decide_eq_true c8
    clear c8
    obtain rfl := Option.some.inj H
    go_enter Try.func85, Try.ntmps85
    go_wp2_with (first | ((with_reducible refine gate_callee (f := 115) rfl ?_); refine gl_ 8 Try.func115 (cmp_isNaN_int.calls j false _ s.out) ?_; rintro e w' ⟨rfl, ⟨nd, rfl⟩⟩; refine ⟨_, rfl, ?_⟩) | ((with_reducible refine gate_callee (f := 115) rfl ?_); refine gl_ 10 Try.func115 (cmp_isNaN_int.calls l false _ u.out) ?_; rintro e w' ⟨rfl, ⟨nd, rfl⟩⟩; refine ⟨_, rfl, ?_⟩))
    go_ret
    exact ⟨by first | rfl | (simp; done) | (simp [*]; done), by repeat (first | exact Drawn0.refl _ | apply Drawn0.step)⟩
   ·rw [if_neg c8] at H
    have y := decide_eq_false c8
    clear c8
    by_cases c9 : j > l
    ·rw [if_pos c9] at H
     have z : decide (l < j) = true := decide_eq_true c9
     clear c9
     obtain rfl := Option.some.inj H
     go_enter Try.func85, Try.ntmps85
     go_wp2_with (first | ((with_reducible refine gate_callee (f := 115) rfl ?_); refine gl_ 8 Try.func115 (cmp_isNaN_int.calls j false _ s.out) ?_; rintro e w' ⟨rfl, ⟨nd, rfl⟩⟩; refine ⟨_, rfl, ?_⟩) | ((with_reducible refine gate_callee (f := 115) rfl ?_); refine gl_ 10 Try.func115 (cmp_isNaN_int.calls l false _ u.out) ?_; rintro e w' ⟨rfl, ⟨nd, rfl⟩⟩; refine ⟨_, rfl, ?_⟩))
     go_ret
     exact ⟨by first | rfl | (simp; done) | (simp [*]; done), by repeat (first | exact Drawn0.refl _ | apply Drawn0.step)⟩
    ·rw [if_neg c9] at H
     have z : decide (l < j) = false := decide_eq_false c9
     clear c9
     obtain rfl := Option.some.inj H
     go_enter Try.func85, Try.ntmps85
     go_wp2_with (first | ((with_reducible refine gate_callee (f := 115) rfl ?_); refine gl_ 8 Try.func115 (cmp_isNaN_int.calls j false _ s.out) ?_; rintro e w' ⟨rfl, ⟨nd, rfl⟩⟩; refine ⟨_, rfl, ?_⟩) | ((with_reducible refine gate_callee (f := 115) rfl ?_); refine gl_ 10 Try.func115 (cmp_isNaN_int.calls l false _ u.out) ?_; rintro e w' ⟨rfl, ⟨nd, rfl⟩⟩; refine ⟨_, rfl, ?_⟩))
     go_ret
     exact ⟨by first | rfl | (simp; done) | (simp [*]; done), by repeat (first | exact Drawn0.refl _ | apply Drawn0.step)⟩

end Go.Proofs.Ytopbkdcicidajaa.PFnContacts
