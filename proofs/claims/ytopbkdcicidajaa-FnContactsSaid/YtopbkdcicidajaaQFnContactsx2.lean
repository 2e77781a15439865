-- Written by a program of this session for this claim (the kit's printer with changes).
import Derived.Test.YtopbkdcicidajaaQFnContactsx0
import Derived.Test.YtopbkdcicidajaaQFnContactsx1
namespace Go.Proofs.Ytopbkdcicidajaa.PFnContacts
open Go.RowKit Go.Proofs.YtopbkdcicidajaaW.PrintWords Go.Proofs.YtopbkdcicidajaaW.PrintLast Go.Proofs.YtopbkdcicidajaaW.PrintMore
attribute [local go_sem] max2_int min2_int max_two min_two max_three min_three max_four min_four   -- for this text's walks alone
set_option linter.unusedVariables false
set_option maxHeartbeats 8000000
set_option maxRecDepth 100000
set_option linter.unusedSimpArgs false

/-! ### impl_LimitOf: function 11 -/
mutual
def impl_LimitOf.j0 : Nat → Int → Int → Bool → Bool → Bool → Int → List S72 → List S74 → Int → Int → Int → Int → Int → List S88 → Int → Option (Int)
 | 0, _, _, _, _, _, _, _, _, _, _, _, _, _, _, _ => none
 | k + 1, l, m, y, s, O, z, B, D, u, x, j, E, G, I, J => if O = true then (some (-1)) else (if y = true then (if s = true then (impl_LimitOf.j1 k l m y s (l == m) z B D u x j E G I J) else (impl_LimitOf.j1 k l m y s false z B D u x j E G I J)) else (impl_LimitOf.j1 k l m y s false z B D u x j E G I J))
def impl_LimitOf.j1 : Nat → Int → Int → Bool → Bool → Bool → Int → List S72 → List S74 → Int → Int → Int → Int → Int → List S88 → Int → Option (Int)
 | 0, _, _, _, _, _, _, _, _, _, _, _, _, _, _, _ => none
 | k + 1, l, m, y, s, T, z, B, D, u, x, j, E, G, I, J => if T = true then (some u) else (if y = true then (if s = true then ((impl_areNeighbors.f z B D u x j E G I J l m).bind fun L => (impl_LimitOf.j2 k l m y s L z B D u x j E G I J)) else (impl_LimitOf.j2 k l m y s false z B D u x j E G I J)) else (impl_LimitOf.j2 k l m y s false z B D u x j E G I J))
def impl_LimitOf.j2 : Nat → Int → Int → Bool → Bool → Bool → Int → List S72 → List S74 → Int → Int → Int → Int → Int → List S88 → Int → Option (Int)
 | 0, _, _, _, _, _, _, _, _, _, _, _, _, _, _, _ => none
 | k + 1, l, m, y, s, U, z, B, D, u, x, j, E, G, I, J => if U = true then (some x) else (if (y != s) = true then (if l = m then (some j) else ((impl_areNeighbors.f z B D u x j E G I J l m).bind fun M => (if M = true then (some j) else (some (-1))))) else (some (-1)))
end
def impl_LimitOf.f (k : Nat) (j : Int) (z : List S72) (B : List S74) (l m s u x : Int) (D : List S88) (y M L : Int) : Option (Int) := (impl_PlaneOf.f j z B l m s u x D y M).bind fun I => ((impl_PlaneOf.f j z B l m s u x D y L).bind fun J => ((impl_isSatellite.f j z B l m s u x D y M).bind fun G => ((impl_isSatellite.f j z B l m s u x D y L).bind fun E => (if M = L then (impl_LimitOf.j0 k I J G E true j z B l m s u x D y) else (if G = true then (if E = true then (impl_LimitOf.j0 k I J G E false j z B l m s u x D y) else ((impl_IsSite.f j z B l m s u x D y L).bind fun O => (impl_LimitOf.j0 k I J G E (!O) j z B l m s u x D y))) else ((impl_IsSite.f j z B l m s u x D y M).bind fun T => (if T = true then (if E = true then (impl_LimitOf.j0 k I J G E false j z B l m s u x D y) else ((impl_IsSite.f j z B l m s u x D y L).bind fun U => (impl_LimitOf.j0 k I J G E (!U) j z B l m s u x D y))) else (impl_LimitOf.j0 k I J G E true j z B l m s u x D y))))))))
def impl_LimitOf.T1 : Bool × List (List Nat × List Nat) := (true, [([], []), ([], []), ([0, 1], [0, 1]), ([], []), ([], []), ([3, 4, 2], [3, 4]), ([2, 5, 0, 1, 2], [2]), ([5, 6, 0, 1, 2, 3, 4, 5, 6], [5])])
def impl_LimitOf.B1 : List Nat := [0, 0, 3, 0, 0, 31, 63, 127]
theorem impl_LimitOf.tab1 : rtab .any (opsOf Try.f11 1) = impl_LimitOf.T1 := by kernel_rfl
theorem impl_LimitOf.bits1 : waitsOk impl_LimitOf.T1.2 impl_LimitOf.B1 = true := by kernel_rfl
def impl_LimitOf.T2 : Bool × List (List Nat × List Nat) := (true, [([], []), ([], []), ([0, 1], [0, 1]), ([], []), ([], []), ([3, 4, 2], [3, 4]), ([2, 5, 0, 1, 2], [2]), ([5, 6, 0, 1, 2, 3, 4, 5, 6], [5])])
def impl_LimitOf.B2 : List Nat := [0, 0, 3, 0, 0, 31, 63, 127]
theorem impl_LimitOf.tab2 : rtab .any (opsOf Try.f11 2) = impl_LimitOf.T2 := by kernel_rfl
theorem impl_LimitOf.bits2 : waitsOk impl_LimitOf.T2.2 impl_LimitOf.B2 = true := by kernel_rfl
theorem impl_LimitOf.calls (k : Nat) (x : Int) (a6 : Option Addr) (a9 : Nat) (l : List S72) (a7 : Option Addr) (b0 : Nat) (m : List S74) (y z u B D : Int) (a8 : Option Addr) (b1 : Nat) (s : List S88) (E a1 a2 r : Int) (w : World) (f6 : Kd.C k72 w a6 l.length l) (f3 : l.length ≤ a9) (f7 : Kd.C k74 w a7 m.length m) (f4 : m.length ≤ b0) (f8 : Kd.C k88 w a8 s.length s) (f5 : s.length ≤ b1) (h : impl_LimitOf.f k x l m y z u B D s E a1 a2 = some r) :
  Calls Try.prog 11 #[.agg #[iv_ x, .slice a6 l.length a9, .slice a7 m.length b0, iv_ y, iv_ z, iv_ u, iv_ B, iv_ D, .slice a8 s.length b1, iv_ E], iv_ a1, iv_ a2] w fun e w' => e = .returned (iv_ r) ∧ Below w.heap.size w w' := by
 have j4 := Try.underlying28
 have Y := Aside0.mk f6
 have T := Aside0.mk f3
 clear f6 f3
 have Z := Aside0.mk f7
 have U := Aside0.mk f4
 clear f7 f4
 have a0 := Aside0.mk f8
 have X := Aside0.mk f5
 clear f8 f5
 have HB := Aside0.mk (Below.refl w.heap.size w)
 have H := h
 clear h
 unfold impl_LimitOf.f at H
 replace H := bs_ H
 obtain ⟨L, A4, H⟩ := H
 replace H := bs_ H
 obtain ⟨M, A5, H⟩ := H
 replace H := bs_ H
 obtain ⟨O, A6, H⟩ := H
 replace H := bs_ H
 obtain ⟨I, A7, H⟩ := H
 have e8 := Aside0.mk H
 clear H
 go_enter Try.func11, Try.ntmps11
 try go_wp2_with (first | ((with_reducible refine gd_ 3 ?_); refine bx_ 3 28 #[iv_ x, .slice a6 l.length a9, .slice a7 m.length b0, iv_ y, iv_ z, iv_ u, iv_ B, iv_ D, .slice a8 s.length b1, iv_ E] ?_; intro b9 hg w9 hbox hb; refine sh3_ (below_step (bl_ HB) hb) hbox (ge_ hg (bl_ HB)) ?_; clear HB hb hbox hg; intro HB j J))
 refine sh2_ (blk_drew j.out) (below_drew1 HB.out) ?_
 clear j HB
 intro j HB
 refine start_ (n := 8) (S := fun w' => Cz10 w' b9 (iv_ x) (.slice a6 l.length a9) (.slice a7 m.length b0) (iv_ y) (iv_ z) (iv_ u) (iv_ B) (iv_ D) (.slice a8 s.length b1) (iv_ E)) (ds := []) (bo_ 8 0) (by kernel_rfl) rfl rfl (cz10_ j) (fun hHeld => ?_); refine with_tabW impl_LimitOf.tab1 impl_LimitOf.bits1 (fun HT_ HW_ => ?_)
 generalize w9.drew = j6 at j HB hHeld ⊢
 refine pur_ 1 (bo_ 8 2) (some 12) HT_ ?_
 refine pur_ 4 (bo_ 8 18) (some 15) HT_ ?_
 refine tak_ 0 (bo_ 8 19) (some 11) HT_ HW_ hHeld ?_
 refine tak_ 3 (bo_ 8 27) (some 14) HT_ HW_ hHeld ?_
 refine onc_ 2 (bo_ 8 31) (some 13) HT_ Try.func52 (impl_PlaneOf.calls x _ _ l _ _ m y z u B D _ _ s E a1 L _ (ck_ Y HB) T.out (ck_ Z HB) U.out (ck_ a0 HB) X.out A4.out) ?_
 rintro e j7 ⟨rfl, hb⟩
 refine sh2_ (blk_below (bk_ j) hb) (below_step (bl1_ HB J) hb) ?_
 clear j HB hb
 intro j HB
 refine ⟨_, _, rfl, (cz10_ j), pt_, fun hHeld => ?_⟩
 refine onc_ 5 (bo_ 8 63) (some 16) HT_ Try.func52 (impl_PlaneOf.calls x _ _ l _ _ m y z u B D _ _ s E a2 M _ (ck_ Y HB) T.out (ck_ Z HB) U.out (ck_ a0 HB) X.out A5.out) ?_
 rintro e h5 ⟨rfl, hb⟩
 refine sh2_ (blk_below (bk_ j) hb) (below_step (bl1_ HB J) hb) ?_
 clear j HB hb
 intro j HB
 refine ⟨_, _, rfl, (cz10_ j), pt_, fun hHeld => ?_⟩
 refine pur_ 6 (bo_ 8 127) (some 7) HT_ ?_
 refine pur_ 7 (bo_ 8 255) (some 8) HT_ ?_
 refine done_ (done_of HT_.out (by kernel_rfl)) ?_
 try go_wp2
 refine sh2_ (blk_drew j.out) (below_drew1 HB.out) ?_
 clear j HB
 intro j HB
 refine start_ (n := 8) (S := fun w' => Cz10 w' b9 (iv_ x) (.slice a6 l.length a9) (.slice a7 m.length b0) (iv_ y) (iv_ z) (iv_ u) (iv_ B) (iv_ D) (.slice a8 s.length b1) (iv_ E)) (ds := []) (bo_ 8 0) (by kernel_rfl) rfl rfl (cz10_ j) (fun hHeld => ?_); refine with_tabW impl_LimitOf.tab2 impl_LimitOf.bits2 (fun HT_ HW_ => ?_)
 generalize h5.drew = j8 at j HB hHeld ⊢
 refine pur_ 1 (bo_ 8 2) (some 18) HT_ ?_
 refine pur_ 4 (bo_ 8 18) (some 21) HT_ ?_
 refine tak_ 0 (bo_ 8 19) (some 17) HT_ HW_ hHeld ?_
 refine tak_ 3 (bo_ 8 27) (some 20) HT_ HW_ hHeld ?_
 refine onc_ 2 (bo_ 8 31) (some 19) HT_ Try.func53 (impl_isSatellite.calls x _ _ l _ _ m y z u B D _ _ s E a1 O _ (ck_ Y HB) T.out (ck_ Z HB) U.out (ck_ a0 HB) X.out A6.out) ?_
 rintro e j9 ⟨rfl, hb⟩
 refine sh2_ (blk_below (bk_ j) hb) (below_step (bl1_ HB J) hb) ?_
 clear j HB hb
 intro j HB
 refine ⟨_, _, rfl, (cz10_ j), pt_, fun hHeld => ?_⟩
 refine onc_ 5 (bo_ 8 63) (some 22) HT_ Try.func53 (impl_isSatellite.calls x _ _ l _ _ m y z u B D _ _ s E a2 I _ (ck_ Y HB) T.out (ck_ Z HB) U.out (ck_ a0 HB) X.out A7.out) ?_
 rintro e k0 ⟨rfl, hb⟩
 refine sh2_ (blk_below (bk_ j) hb) (below_step (bl1_ HB J) hb) ?_
 clear j HB hb
 intro j HB
 refine ⟨_, _, rfl, (cz10_ j), pt_, fun hHeld => ?_⟩
 refine pur_ 6 (bo_ 8 127) (some 9) HT_ ?_
 refine pur_ 7 (bo_ 8 255) (some 10) HT_ ?_
 refine done_ (done_of HT_.out (by kernel_rfl)) ?_
 go_upto_region 3 with (fail)
 go_cut [45] (fun h2 wc => ∃ (kq : Nat) (e2 : Bool), h2 = .bool e2 ∧ Aside0 (impl_LimitOf.j0 kq L M O I e2 x l m y z u B D s E = some r) ∧ Aside0 (kq ≤ k) ∧ Aside0 (wc.heap[b9]? = some (.cells #[iv_ x, (.slice a6 l.length a9), (.slice a7 m.length b0), iv_ y, iv_ z, iv_ u, iv_ B, iv_ D, (.slice a8 s.length b1), iv_ E] 28 (0, 0))) ∧ Aside0 (Below w.heap.size w wc))
 case first =>
  have H := e8.out
  clear e8
  by_cases b6 : a1 = a2
  ·rw [if_pos b6] at H
   obtain ⟨b7, g6⟩ := bt_ b6
   clear b6
   (first | rw [b7] | (simp only [i64_w, i32_w]; rw [b7]) | skip)
   have H' := Aside0.mk H
   clear H
   go_wp2
   go_meet
   case rel => exact ⟨_, (true), (by first | rfl | (simp; done) | (simp [*]; done)), H', ⟨by first | omega | exact Nat.le_refl _⟩, ⟨(bk_ j)⟩, ⟨bl1_ HB J⟩⟩
  ·rw [if_neg b6] at H
   obtain ⟨b7, g6⟩ := bn_ b6
   (first | rw [b7] | (simp only [i64_w, i32_w]; rw [b7]) | skip)
   by_cases c0 : O = true
   ·subst c0
    rw [if_pos rfl] at H
    by_cases c1 : I = true
    ·subst c1
     rw [if_pos rfl] at H
     have H' := Aside0.mk H
     clear H
     go_wp2
     go_meet
     case rel => exact ⟨_, (false), (by first | rfl | (simp; done) | (simp [*]; done)), H', ⟨by first | omega | exact Nat.le_refl _⟩, ⟨(bk_ j)⟩, ⟨bl1_ HB J⟩⟩
    ·replace c1 := Bool.eq_false_iff.mpr c1
     subst c1
     have G : ((impl_IsSite.f x l m y z u B D s E a2).bind fun e0 => (impl_LimitOf.j0 k L M true false (!e0) x l m y z u B D s E)) = some r := by rw [if_neg (show ¬ (false = true) by decide)] at H; exact H
     clear H
     have H := G
     clear G
     replace H := bs_ H
     obtain ⟨e0, f9, H⟩ := H
     have H' := Aside0.mk H
     clear H
     have h9 := cf10_ j
     go_wp2_with (first | (go_at_call 54; (with_reducible refine (impl_IsSite.calls x _ _ l _ _ m y z u B D _ _ s E a2 e0 _ ?side1 ?side2 ?side3 ?side4 ?side5 ?side6 f9.out).mono ?_); (case side1 => exact ck_ Y HB); (case side2 => exact T.out); (case side3 => exact ck_ Z HB); (case side4 => exact U.out); (case side5 => exact ck_ a0 HB); (case side6 => exact X.out); rintro e k1 ⟨rfl, hb⟩; refine sh2_ (blk_below (bk_ j) hb) (below_step (bl1_ HB J) hb) ?_; clear j HB hb; intro j HB))
     go_meet
     case rel => exact ⟨_, (!e0), (by first | rfl | (simp; done) | (simp [*]; done)), H', ⟨by first | omega | exact Nat.le_refl _⟩, ⟨(bk_ j)⟩, ⟨bl1_ HB J⟩⟩
   ·replace c0 := Bool.eq_false_iff.mpr c0
    subst c0
    have G : ((impl_IsSite.f x l m y z u B D s E a1).bind fun f0 => (if f0 = true then (if I = true then (impl_LimitOf.j0 k L M false I false x l m y z u B D s E) else ((impl_IsSite.f x l m y z u B D s E a2).bind fun b5 => (impl_LimitOf.j0 k L M false I (!b5) x l m y z u B D s E))) else (impl_LimitOf.j0 k L M false I true x l m y z u B D s E))) = some r := by rw [if_neg (show ¬ (false = true) by decide)] at H; exact H
    clear H
    have H := G
    clear G
    replace H := bs_ H
    obtain ⟨f0, e5, H⟩ := H
    by_cases d0 : f0 = true
    ·subst d0
     rw [if_pos rfl] at H
     by_cases d1 : I = true
     ·subst d1
      rw [if_pos rfl] at H
      have H' := Aside0.mk H
      clear H
      have i0 := cf10_ j
      go_wp2_with (first | (go_at_call 54; (with_reducible refine (impl_IsSite.calls x _ _ l _ _ m y z u B D _ _ s E a1 true _ ?side1 ?side2 ?side3 ?side4 ?side5 ?side6 e5.out).mono ?_); (case side1 => exact ck_ Y HB); (case side2 => exact T.out); (case side3 => exact ck_ Z HB); (case side4 => exact U.out); (case side5 => exact ck_ a0 HB); (case side6 => exact X.out); rintro e k2 ⟨rfl, hb⟩; refine sh2_ (blk_below (bk_ j) hb) (below_step (bl1_ HB J) hb) ?_; clear j HB hb; intro j HB))
      go_meet
      case rel => exact ⟨_, (false), (by first | rfl | (simp; done) | (simp [*]; done)), H', ⟨by first | omega | exact Nat.le_refl _⟩, ⟨(bk_ j)⟩, ⟨bl1_ HB J⟩⟩
     ·replace d1 := Bool.eq_false_iff.mpr d1
      subst d1
      have G : ((impl_IsSite.f x l m y z u B D s E a2).bind fun b5 => (impl_LimitOf.j0 k L M false false (!b5) x l m y z u B D s E)) = some r := by rw [if_neg (show ¬ (false = true) by decide)] at H; exact H
      clear H
      have H := G
      clear G
      replace H := bs_ H
      obtain ⟨b5, g0, H⟩ := H
      have H' := Aside0.mk H
      clear H
      have i1 := cf10_ j
      go_wp2_with (first | (go_at_call 54; (with_reducible refine (impl_IsSite.calls x _ _ l _ _ m y z u B D _ _ s E a1 true _ ?side1 ?side2 ?side3 ?side4 ?side5 ?side6 e5.out).mono ?_); (case side1 => exact ck_ Y HB); (case side2 => exact T.out); (case side3 => exact ck_ Z HB); (case side4 => exact U.out); (case side5 => exact ck_ a0 HB); (case side6 => exact X.out); rintro e k3 ⟨rfl, hb⟩; refine sh2_ (blk_below (bk_ j) hb) (below_step (bl1_ HB J) hb) ?_; clear j HB hb; intro j HB; have i2 := cf10_ j) | (go_at_call 54; (with_reducible refine (impl_IsSite.calls x _ _ l _ _ m y z u B D _ _ s E a2 b5 _ ?side1 ?side2 ?side3 ?side4 ?side5 ?side6 g0.out).mono ?_); (case side1 => exact ck_ Y HB); (case side2 => exact T.out); (case side3 => exact ck_ Z HB); (case side4 => exact U.out); (case side5 => exact ck_ a0 HB); (case side6 => exact X.out); rintro e k4 ⟨rfl, hb⟩; refine sh2_ (blk_below (bk_ j) hb) (below_step (bl1_ HB J) hb) ?_; clear j HB hb; intro j HB))
      go_meet
      case rel => exact ⟨_, (!b5), (by first | rfl | (simp; done) | (simp [*]; done)), H', ⟨by first | omega | exact Nat.le_refl _⟩, ⟨(bk_ j)⟩, ⟨bl1_ HB J⟩⟩
    ·replace d0 := Bool.eq_false_iff.mpr d0
     subst d0
     have G : (impl_LimitOf.j0 k L M false I true x l m y z u B D s E) = some r := by rw [if_neg (show ¬ (false = true) by decide)] at H; exact H
     clear H
     have H := G
     clear G
     have H' := Aside0.mk H
     clear H
     have i3 := cf10_ j
     go_wp2_with (first | (go_at_call 54; (with_reducible refine (impl_IsSite.calls x _ _ l _ _ m y z u B D _ _ s E a1 false _ ?side1 ?side2 ?side3 ?side4 ?side5 ?side6 e5.out).mono ?_); (case side1 => exact ck_ Y HB); (case side2 => exact T.out); (case side3 => exact ck_ Z HB); (case side4 => exact U.out); (case side5 => exact ck_ a0 HB); (case side6 => exact X.out); rintro e k5 ⟨rfl, hb⟩; refine sh2_ (blk_below (bk_ j) hb) (below_step (bl1_ HB J) hb) ?_; clear j HB hb; intro j HB))
     go_meet
     case rel => exact ⟨_, (true), (by first | rfl | (simp; done) | (simp [*]; done)), H', ⟨by first | omega | exact Nat.le_refl _⟩, ⟨(bk_ j)⟩, ⟨bl1_ HB J⟩⟩
 case rest =>
  clear e8
  obtain ⟨kq, e2, rfl, HA, b2, j, HB⟩ := hcut
  cases kq with
  | zero => exact absurd HA.out (by simp [impl_LimitOf.j0])
  | succ b4 =>
   have H := HA.out
   clear HA
   simp only [impl_LimitOf.j0] at H
   by_cases d2 : e2 = true
   ·subst d2
    rw [if_pos rfl] at H
    obtain rfl := Option.some.inj H
    go_wp2
    go_ret
    exact ⟨by first | (rw [hRT_.out]; rfl) | exact er_, bl1_ HB J⟩
   ·replace d2 := Bool.eq_false_iff.mpr d2
    subst d2
    have G : (if O = true then (if I = true then (impl_LimitOf.j1 b4 L M O I (L == M) x l m y z u B D s E) else (impl_LimitOf.j1 b4 L M O I false x l m y z u B D s E)) else (impl_LimitOf.j1 b4 L M O I false x l m y z u B D s E)) = some r := by rw [if_neg (show ¬ (false = true) by decide)] at H; exact H
    clear H
    have H := G
    clear G
    have e6 := Aside0.mk H
    clear H
    go_upto_region 5 with (fail)
    go_cut [46] (fun h3 wc => ∃ (kq : Nat) (e3 : Bool), h3 = .bool e3 ∧ Aside0 (impl_LimitOf.j1 kq L M O I e3 x l m y z u B D s E = some r) ∧ Aside0 (kq ≤ b4) ∧ Aside0 (wc.heap[b9]? = some (.cells #[iv_ x, (.slice a6 l.length a9), (.slice a7 m.length b0), iv_ y, iv_ z, iv_ u, iv_ B, iv_ D, (.slice a8 s.length b1), iv_ E] 28 (0, 0))) ∧ Aside0 (Below w.heap.size w wc))
    case first =>
     have H := e6.out
     clear e6
     by_cases d3 : O = true
     ·subst d3
      rw [if_pos rfl] at H
      by_cases d4 : I = true
      ·subst d4
       rw [if_pos rfl] at H
       have H' := Aside0.mk H
       clear H
       go_wp2
       go_meet
       case rel => exact ⟨_, ((L == M)), (by first | rfl | (simp; done) | (simp [*]; done)), H', ⟨by have := b2.out; first | omega | exact Nat.le_refl _⟩, ⟨(bk_ j)⟩, ⟨bl1_ HB J⟩⟩
      ·replace d4 := Bool.eq_false_iff.mpr d4
       subst d4
       have G : (impl_LimitOf.j1 b4 L M true false false x l m y z u B D s E) = some r := by rw [if_neg (show ¬ (false = true) by decide)] at H; exact H
       clear H
       have H := G
       clear G
       have H' := Aside0.mk H
       clear H
       go_wp2
       go_meet
       case rel => exact ⟨_, (false), (by first | rfl | (simp; done) | (simp [*]; done)), H', ⟨by have := b2.out; first | omega | exact Nat.le_refl _⟩, ⟨(bk_ j)⟩, ⟨bl1_ HB J⟩⟩
     ·replace d3 := Bool.eq_false_iff.mpr d3
      subst d3
      have G : (impl_LimitOf.j1 b4 L M false I false x l m y z u B D s E) = some r := by rw [if_neg (show ¬ (false = true) by decide)] at H; exact H
      clear H
      have H := G
      clear G
      have H' := Aside0.mk H
      clear H
      go_wp2
      go_meet
      case rel => exact ⟨_, (false), (by first | rfl | (simp; done) | (simp [*]; done)), H', ⟨by have := b2.out; first | omega | exact Nat.le_refl _⟩, ⟨(bk_ j)⟩, ⟨bl1_ HB J⟩⟩
    case rest =>
     clear e6
     obtain ⟨kq, e3, rfl, HA, e9, j, HB⟩ := hcut
     cases kq with
     | zero => exact absurd HA.out (by simp [impl_LimitOf.j1])
     | succ b3 =>
      have H := HA.out
      clear HA
      simp only [impl_LimitOf.j1] at H
      by_cases d5 : e3 = true
      ·subst d5
       rw [if_pos rfl] at H
       obtain rfl := Option.some.inj H
       have i4 := cf10_ j
       go_wp2
       go_ret
       exact ⟨by first | (rw [hRT_.out]; rfl) | exact er_, bl1_ HB J⟩
      ·replace d5 := Bool.eq_false_iff.mpr d5
       subst d5
       have G : (if O = true then (if I = true then ((impl_areNeighbors.f x l m y z u B D s E L M).bind fun e1 => (impl_LimitOf.j2 b3 L M O I e1 x l m y z u B D s E)) else (impl_LimitOf.j2 b3 L M O I false x l m y z u B D s E)) else (impl_LimitOf.j2 b3 L M O I false x l m y z u B D s E)) = some r := by rw [if_neg (show ¬ (false = true) by decide)] at H; exact H
       clear H
       have H := G
       clear G
       have e7 := Aside0.mk H
       clear H
       go_upto_region 7 with (fail)
       go_cut [58] (fun h4 wc => ∃ (kq : Nat) (e4 : Bool), h4 = .bool e4 ∧ Aside0 (impl_LimitOf.j2 kq L M O I e4 x l m y z u B D s E = some r) ∧ Aside0 (kq ≤ b3) ∧ Aside0 (wc.heap[b9]? = some (.cells #[iv_ x, (.slice a6 l.length a9), (.slice a7 m.length b0), iv_ y, iv_ z, iv_ u, iv_ B, iv_ D, (.slice a8 s.length b1), iv_ E] 28 (0, 0))) ∧ Aside0 (Below w.heap.size w wc))
       case first =>
        have H := e7.out
        clear e7
        by_cases d6 : O = true
        ·subst d6
         rw [if_pos rfl] at H
         by_cases d7 : I = true
         ·subst d7
          rw [if_pos rfl] at H
          replace H := bs_ H
          obtain ⟨e1, g2, H⟩ := H
          have H' := Aside0.mk H
          clear H
          have i5 := cf10_ j
          go_wp2_with (first | (go_at_call 55; (with_reducible refine (impl_areNeighbors.calls x _ _ l _ _ m y z u B D _ _ s E L M e1 _ ?side1 ?side2 ?side3 ?side4 ?side5 ?side6 g2.out).mono ?_); (case side1 => exact ck_ Y HB); (case side2 => exact T.out); (case side3 => exact ck_ Z HB); (case side4 => exact U.out); (case side5 => exact ck_ a0 HB); (case side6 => exact X.out); rintro e k6 ⟨rfl, hb⟩; refine sh2_ (blk_below (bk_ j) hb) (below_step (bl1_ HB J) hb) ?_; clear j HB hb; intro j HB))
          go_meet
          case rel => exact ⟨_, (e1), (by first | rfl | (simp; done) | (simp [*]; done)), H', ⟨by have := b2.out; have := e9.out; first | omega | exact Nat.le_refl _⟩, ⟨(bk_ j)⟩, ⟨bl1_ HB J⟩⟩
         ·replace d7 := Bool.eq_false_iff.mpr d7
          subst d7
          have G : (impl_LimitOf.j2 b3 L M true false false x l m y z u B D s E) = some r := by rw [if_neg (show ¬ (false = true) by decide)] at H; exact H
          clear H
          have H := G
          clear G
          have H' := Aside0.mk H
          clear H
          go_wp2
          go_meet
          case rel => exact ⟨_, (false), (by first | rfl | (simp; done) | (simp [*]; done)), H', ⟨by have := b2.out; have := e9.out; first | omega | exact Nat.le_refl _⟩, ⟨(bk_ j)⟩, ⟨bl1_ HB J⟩⟩
        ·replace d6 := Bool.eq_false_iff.mpr d6
         subst d6
         have G : (impl_LimitOf.j2 b3 L M false I false x l m y z u B D s E) = some r := by rw [if_neg (show ¬ (false = true) by decide)] at H; exact H
         clear H
         have H := G
         clear G
         have H' := Aside0.mk H
         clear H
         go_wp2
         go_meet
         case rel => exact ⟨_, (false), (by first | rfl | (simp; done) | (simp [*]; done)), H', ⟨by have := b2.out; have := e9.out; first | omega | exact Nat.le_refl _⟩, ⟨(bk_ j)⟩, ⟨bl1_ HB J⟩⟩
       case rest =>
        clear e7
        obtain ⟨kq, e4, rfl, HA, h7, j, HB⟩ := hcut
        cases kq with
        | zero => exact absurd HA.out (by simp [impl_LimitOf.j2])
        | succ j5 =>
         have H := HA.out
         clear HA
         simp only [impl_LimitOf.j2] at H
         by_cases d8 : e4 = true
         ·subst d8
          rw [if_pos rfl] at H
          obtain rfl := Option.some.inj H
          have i6 := cf10_ j
          go_wp2
          go_ret
          exact ⟨by first | (rw [hRT_.out]; rfl) | exact er_, bl1_ HB J⟩
         ·replace d8 := Bool.eq_false_iff.mpr d8
          subst d8
          have G : (if (O != I) = true then (if L = M then (some u) else ((impl_areNeighbors.f x l m y z u B D s E L M).bind fun f1 => (if f1 = true then (some u) else (some (-1))))) else (some (-1))) = some r := by rw [if_neg (show ¬ (false = true) by decide)] at H; exact H
          clear H
          have H := G
          clear G
          by_cases a3 : (O != I) = true
          ·rw [if_pos a3] at H
           have g7 : (O != I) = true := a3
           (try (have g8 : decide (O = I) = false := by simpa using a3))
           (try (have g9 : (O == I) = false := by simpa using a3))
           (try (have h8 : ¬ (O = I) := by simpa using a3))
           clear a3
           by_cases b8 : L = M
           ·rw [if_pos b8] at H
            obtain ⟨h0, h1⟩ := bt_ b8
            clear b8
            obtain rfl := Option.some.inj H
            have i7 := cf10_ j
            go_wp2
            go_ret
            exact ⟨by first | (rw [hRT_.out]; rfl) | exact er_, bl1_ HB J⟩
           ·rw [if_neg b8] at H
            obtain ⟨h0, h1⟩ := bn_ b8
            replace H := bs_ H
            obtain ⟨f1, f2, H⟩ := H
            by_cases d9 : f1 = true
            ·subst d9
             rw [if_pos rfl] at H
             obtain rfl := Option.some.inj H
             have i8 := cf10_ j
             go_wp2_with (first | (go_at_call 55; (with_reducible refine (impl_areNeighbors.calls x _ _ l _ _ m y z u B D _ _ s E L M true _ ?side1 ?side2 ?side3 ?side4 ?side5 ?side6 f2.out).mono ?_); (case side1 => exact ck_ Y HB); (case side2 => exact T.out); (case side3 => exact ck_ Z HB); (case side4 => exact U.out); (case side5 => exact ck_ a0 HB); (case side6 => exact X.out); rintro e k7 ⟨rfl, hb⟩; refine sh2_ (blk_below (bk_ j) hb) (below_step (bl1_ HB J) hb) ?_; clear j HB hb; intro j HB; have i9 := cf10_ j))
             go_ret
             exact ⟨by first | (rw [hRT_.out]; rfl) | exact er_, bl1_ HB J⟩
            ·replace d9 := Bool.eq_false_iff.mpr d9
             subst d9
             have G : (some (-1)) = some r := by rw [if_neg (show ¬ (false = true) by decide)] at H; exact H
             clear H
             have H := G
             clear G
             obtain rfl := Option.some.inj H
             have j3 := cf10_ j
             go_wp2_with (first | (go_at_call 55; (with_reducible refine (impl_areNeighbors.calls x _ _ l _ _ m y z u B D _ _ s E L M false _ ?side1 ?side2 ?side3 ?side4 ?side5 ?side6 f2.out).mono ?_); (case side1 => exact ck_ Y HB); (case side2 => exact T.out); (case side3 => exact ck_ Z HB); (case side4 => exact U.out); (case side5 => exact ck_ a0 HB); (case side6 => exact X.out); rintro e k8 ⟨rfl, hb⟩; refine sh2_ (blk_below (bk_ j) hb) (below_step (bl1_ HB J) hb) ?_; clear j HB hb; intro j HB))
             go_ret
             exact ⟨by first | (rw [hRT_.out]; rfl) | exact er_, bl1_ HB J⟩
          ·rw [if_neg a3] at H
           have g7 : (O != I) = false := by simpa using a3
           (try (have g8 : decide (O = I) = true := by simpa using a3))
           (try (have g9 : (O == I) = true := by simpa using a3))
           clear a3
           obtain rfl := Option.some.inj H
           go_wp2
           go_ret
           exact ⟨by first | (rw [hRT_.out]; rfl) | exact er_, bl1_ HB J⟩

/-! ### impl_Mod: function 96 -/
def impl_Mod.f (l j : Int) : Option (Int) := (impl_InRange.f j 1 1000000000000).bind fun m => (if m = true then (if j = 0 then (none) else (if (Int.tmod l j) < 0 then (some (wrap64 ((Int.tmod l j) + j))) else (some (Int.tmod l j)))) else (some 0))
theorem impl_Mod.calls (m j r : Int) (w : World) (h : impl_Mod.f m j = some r) :
  Calls Try.prog 96 #[iv_ m, iv_ j] w fun e w' => e = .returned (iv_ r) ∧ Drawn0 w w' := by
 have H := h
 clear h
 unfold impl_Mod.f at H
 replace H := bs_ H
 obtain ⟨x, l, H⟩ := H
 by_cases c4 : x = true
 ·subst c4
  rw [if_pos rfl] at H
  by_cases c5 : j = 0
  ·rw [if_pos c5] at H
   exact absurd H (by simp)
  ·rw [if_neg c5] at H
   obtain ⟨y, z⟩ := bn_ c5
   by_cases c6 : (Int.tmod m j) < 0
   ·rw [if_pos c6] at H
    have u := decide_eq_true c6
    clear c6
    obtain rfl := Option.some.inj H
    go_enter Try.func96, Try.ntmps96
    go_wp2_with (first | ((with_reducible refine gate_callee (f := 93) rfl ?_); refine gl_ 7 Try.func93 (impl_InRange.calls j 1 1000000000000 true _ l.out) ?_; rintro e w' ⟨rfl, ⟨nd, rfl⟩⟩; refine ⟨_, rfl, ?_⟩))
    go_ret
    exact ⟨by first | rfl | (simp; done) | (simp [*]; done), by repeat (first | exact Drawn0.refl _ | apply Drawn0.step)⟩
   ·rw [if_neg c6] at H
    have u := decide_eq_false c6
    clear c6
    obtain rfl := Option.some.inj H
    go_enter Try.func96, Try.ntmps96
    go_wp2_with (first | ((with_reducible refine gate_callee (f := 93) rfl ?_); refine gl_ 7 Try.func93 (impl_InRange.calls j 1 1000000000000 true _ l.out) ?_; rintro e w' ⟨rfl, ⟨nd, rfl⟩⟩; refine ⟨_, rfl, ?_⟩))
    go_ret
    exact ⟨by first | rfl | (simp; done) | (simp [*]; done), by repeat (first | exact Drawn0.refl _ | apply Drawn0.step)⟩
 ·replace c4 := Bool.eq_false_iff.mpr c4
  subst c4
  have s : (some 0) = some r := by rw [if_neg (show ¬ (false = true) by decide)] at H; exact H
  clear H
  have H := s
  clear s
  obtain rfl := Option.some.inj H
  go_enter Try.func96, Try.ntmps96
  go_wp2_with (first | ((with_reducible refine gate_callee (f := 93) rfl ?_); refine gl_ 7 Try.func93 (impl_InRange.calls j 1 1000000000000 false _ l.out) ?_; rintro e w' ⟨rfl, ⟨nd, rfl⟩⟩; refine ⟨_, rfl, ?_⟩))
  go_ret
  exact ⟨by first | rfl | (simp; done) | (simp [*]; done), by repeat (first | exact Drawn0.refl _ | apply Drawn0.step)⟩

/-! ### impl_AngleOf: function 58 -/
def impl_AngleOf.f (j : Int) : Option (Int) := (impl_Mod.f j 360).bind fun l => (some l)
theorem impl_AngleOf.calls (j r : Int) (w : World) (h : impl_AngleOf.f j = some r) :
  Calls Try.prog 58 #[iv_ j] w fun e w' => e = .returned (iv_ r) ∧ Drawn0 w w' := by
 have H := h
 clear h
 unfold impl_AngleOf.f at H
 replace H := bs_ H
 obtain ⟨m, l, H⟩ := H
 obtain rfl := Option.some.inj H
 go_enter Try.func58, Try.ntmps58
 go_wp2_with (first | ((with_reducible refine gate_callee (f := 96) rfl ?_); refine gl_ 4 Try.func96 (impl_Mod.calls j 360 m _ l.out) ?_; rintro e w' ⟨rfl, ⟨nd, rfl⟩⟩; refine ⟨_, rfl, ?_⟩))
 go_ret
 exact ⟨by first | rfl | (simp; done) | (simp [*]; done), by repeat (first | exact Drawn0.refl _ | apply Drawn0.step)⟩

/-! ### impl_speedOf: function 95 -/
def impl_speedOf.f (m s j u : Int) : Option (Int) := (impl_InRange.f j (-60) 60).bind fun l => (if l = true then (some j) else (some 0))
theorem impl_speedOf.calls (l m j s r : Int) (w : World) (h : impl_speedOf.f l m j s = some r) :
  Calls Try.prog 95 #[.agg #[iv_ l, iv_ m, iv_ j, iv_ s]] w fun e w' => e = .returned (iv_ r) ∧ Below w.heap.size w w' := by
 have I := Try.underlying72
 have HB := Aside0.mk (Below.refl w.heap.size w)
 have H := h
 clear h
 unfold impl_speedOf.f at H
 replace H := bs_ H
 obtain ⟨D, y, H⟩ := H
 by_cases c3 : D = true
 ·subst c3
  rw [if_pos rfl] at H
  obtain rfl := Option.some.inj H
  go_enter Try.func95, Try.ntmps95
  go_wp2_with (first | ((with_reducible refine gd_ 1 ?_); refine bx_ 1 72 #[iv_ l, iv_ m, iv_ j, iv_ s] ?_; intro B hg J hbox hb; refine sh3_ (below_step (bl_ HB) hb) hbox (ge_ hg (bl_ HB)) ?_; clear HB hb hbox hg; intro HB u x; have E := cf4_ u) | ((with_reducible refine gate_callee (f := 93) rfl ?_); refine gl_ 5 Try.func93 (impl_InRange.calls j (-60) 60 true _ y.out) ?_; rintro e w' ⟨rfl, ⟨nd, rfl⟩⟩; refine ⟨_, rfl, ?_⟩))
  go_ret
  exact ⟨by first | (rw [hRT_.out]; rfl) | exact er_, bl1_ HB x⟩
 ·replace c3 := Bool.eq_false_iff.mpr c3
  subst c3
  have z : (some 0) = some r := by rw [if_neg (show ¬ (false = true) by decide)] at H; exact H
  clear H
  have H := z
  clear z
  obtain rfl := Option.some.inj H
  go_enter Try.func95, Try.ntmps95
  go_wp2_with (first | ((with_reducible refine gd_ 1 ?_); refine bx_ 1 72 #[iv_ l, iv_ m, iv_ j, iv_ s] ?_; intro B hg L hbox hb; refine sh3_ (below_step (bl_ HB) hb) hbox (ge_ hg (bl_ HB)) ?_; clear HB hb hbox hg; intro HB u x; have G := cf4_ u) | ((with_reducible refine gate_callee (f := 93) rfl ?_); refine gl_ 5 Try.func93 (impl_InRange.calls j (-60) 60 false _ y.out) ?_; rintro e w' ⟨rfl, ⟨nd, rfl⟩⟩; refine ⟨_, rfl, ?_⟩))
  go_ret
  exact ⟨by first | (rw [hRT_.out]; rfl) | exact er_, bl1_ HB x⟩

end Go.Proofs.Ytopbkdcicidajaa.PFnContacts
