-- Written by a program of this session for this claim (the kit's printer with changes).
import Derived.Test.YtopbkdcicidajaaQFnSilencex0
import Derived.Test.YtopbkdcicidajaaQFnSilencex5
import Derived.Test.YtopbkdcicidajaaQFnSilencex6
import Derived.Test.YtopbkdcicidajaaQFnSilencex8
import Derived.Test.YtopbkdcicidajaaQFnSilencex11
namespace Go.Proofs.Ytopbkdcicidajaa.PFnSilence
open Go.RowKit Go.Proofs.YtopbkdcicidajaaW.PrintWords Go.Proofs.YtopbkdcicidajaaW.PrintLast Go.Proofs.YtopbkdcicidajaaW.PrintMore
attribute [local go_sem] max2_int min2_int max_two min_two max_three min_three max_four min_four   -- for this text's walks alone
set_option linter.unusedVariables false
set_option maxHeartbeats 8000000
set_option maxRecDepth 100000
set_option linter.unusedSimpArgs false

/-! ### spec_QuietSpans: function 73 -/
def spec_QuietSpans.l0 : Nat → Int → List S82 → Int → Int → Int → List S72 → List S74 → Int → Int → Int → Int → Int → List S88 → Int → Option (List S82)
 | 0, _, _, _, _, _, _, _, _, _, _, _, _, _, _ => none
 | k + 1, l, J, m, j, s, u, x, y, z, B, D, E, G, I => if j < m then ((spec_MayDisturb.f k s u x y z B D E G I l j).bind fun L => (if L = true then ((spec_l4Put.f J j).bind fun M => (spec_QuietSpans.l0 k l M m (wrap64 (j + 1)) s u x y z B D E G I)) else (spec_QuietSpans.l0 k l J m (wrap64 (j + 1)) s u x y z B D E G I))) else (some J)
def spec_QuietSpans.f (k : Nat) (l : Int) (G : List S72) (I : List S74) (m s u x y : Int) (J : List S88) (z B D E : Int) : Option (List S82) := (spec_l8Ticks.f D E).bind fun j => (spec_QuietSpans.l0 k B (([] : List S82)) j.2 j.1 l G I m s u x y J z)
theorem spec_QuietSpans.calls (k : Nat) (z : Int) (U : Option Addr) (a5 : Nat) (m : List S72) (X : Option Addr) (a6 : Nat) (s : List S74) (B D E G I : Int) (Y : Option Addr) (a7 : Nat) (u : List S88) (J M a2 a3 : Int) (r : List S82) (w : World) (d4 : Kd.C k72 w U m.length m) (d0 : m.length ≤ a5) (d5 : Kd.C k74 w X s.length s) (d1 : s.length ≤ a6) (d6 : Kd.C k88 w Y u.length u) (d2 : u.length ≤ a7) (h : spec_QuietSpans.f k z m s B D E G I u J M a2 a3 = some r) :
  Calls Try.prog 73 #[.agg #[iv_ z, .slice U m.length a5, .slice X s.length a6, iv_ B, iv_ D, iv_ E, iv_ G, iv_ I, .slice Y u.length a7, iv_ J], iv_ M, iv_ a2, iv_ a3] w fun e w' => ∃ d9 : Value, e = .returned (d9) ∧ Kd.R k82 82 w' w.heap.size (fun _ => True) d9 r ∧ Below w.heap.size w w' := by
 have f3 := Try.underlying28
 have b7 := Aside0.mk d4
 have b4 := Aside0.mk d0
 clear d4 d0
 have b8 := Aside0.mk d5
 have b5 := Aside0.mk d1
 clear d5 d1
 have b9 := Aside0.mk d6
 have b6 := Aside0.mk d2
 clear d6 d2
 have HB := Aside0.mk (Below.refl w.heap.size w)
 have H := h
 clear h
 unfold spec_QuietSpans.f at H
 replace H : ∃ y_ : List S82, Aside0 (y_ = (([] : List S82))) ∧ ((spec_l8Ticks.f a2 a3).bind fun c1 => (spec_QuietSpans.l0 k M y_ c1.2 c1.1 z m s B D E G I u J)) = some r := ⟨_, ⟨rfl⟩, yh_ H⟩
 obtain ⟨f0, c0, H⟩ := H
 replace H := bs_ H
 obtain ⟨⟨d7, a9⟩, A5, H⟩ := H
 dsimp only at H
 have H' := Aside0.mk H
 clear H
 go_enter Try.func73, Try.ntmps73
 go_wp2_with (first | ((with_reducible refine gd_ 4 ?_); refine bx_ 4 28 #[iv_ z, .slice U m.length a5, .slice X s.length a6, iv_ B, iv_ D, iv_ E, iv_ G, iv_ I, .slice Y u.length a7, iv_ J] ?_; intro e6 hg w6 hbox hb; refine sh3_ (below_step (bl_ HB) hb) hbox (ge_ hg (bl_ HB)) ?_; clear HB hb hbox hg; intro HB j y) | ((with_reducible refine gate_dst (N := 13) rfl ?_); refine Kd.R_lit k82 _ 82 ?hg (N := 13) ?hd (xs := ([] : List S82)) (inner := []) (ok := fun _ => True) (okp := fun _ => True) ?hr ?hp (fun _ hk => hk) trivial (Below.refl _ _) (Nat.le_refl _) (by simp) ?_; (case hd => rfl); (case hg => rfl); (case hr => first | (go_simp; done) | (go_simp; rfl)); (case hp => exact (Reps.none _ _)); intro f4 w7 O hb hg_ hnew_; clear hg_ hnew_; (first | rw [← c0.out] at O | (simp only [Int.reduceToNat] at O; rw [← c0.out] at O)); refine sh3_ (Kd.R_lower O (below_size (bl1_ HB y))) (blk_below (bk_ j) hb) (below_step (bl1_ HB y) hb) ?_; clear j HB hb O; intro e2 j HB) | ((with_reducible refine gate_callee (f := 107) rfl ?_); refine gl_ 17 Try.func107 (spec_l8Ticks.calls a2 a3 d7 a9 _ A5.out) ?_; rintro e w' ⟨rfl, ⟨nd, rfl⟩⟩; refine ⟨_, rfl, ?_⟩))
 go_loopg [9, 12] k (fun kq v9 e8 w' => ∃ (L : List S82) (x : Int), e8 = iv_ x ∧ Aside0 (spec_QuietSpans.l0 kq M L a9 x z m s B D E G I u J = some r) ∧ Aside0 (kq ≤ k) ∧ Aside0 (Kd.R k82 82 w' w.heap.size (fun _ => True) v9 L) ∧ Aside0 (w'.heap[e6]? = some (.cells #[iv_ z, (.slice U m.length a5), (.slice X s.length a6), iv_ B, iv_ D, iv_ E, iv_ G, iv_ I, (.slice Y u.length a7), iv_ J] 28 (0, 0))) ∧ Aside0 (Below w.heap.size w w'))
 case atStart => exact ⟨(f0), (d7), (by first | rfl | (simp; done) | (simp [*]; done)), H', ⟨Nat.le_refl _⟩, ⟨ra_ e2⟩, ⟨by (with_reducible repeat (first | refine blk_drewN ?_ _ | refine blk_drew ?_ | refine blk_alloc ?_ _)); exact j.out⟩, ⟨bl1_ HB y⟩⟩
 case round =>
  clear H'
  obtain ⟨L, x, rfl, HA, Z, l, j, HB⟩ := hrel
  cases gk with
  | zero => exact absurd HA.out (by simp [spec_QuietSpans.l0])
  | succ T =>
   have H := HA.out
   clear HA
   simp only [spec_QuietSpans.l0] at H
   by_cases c9 : x < a9
   ·rw [if_pos c9] at H
    have e4 := decide_eq_true c9
    clear c9
    replace H := bs_ H
    obtain ⟨e7, b2, H⟩ := H
    by_cases a8 : e7 = true
    ·subst a8
     rw [if_pos rfl] at H
     replace H := bs_ H
     obtain ⟨d8, e0, H⟩ := H
     have H' := Aside0.mk H
     clear H
     have f1 := cf10_ j
     go_wp2_with (first | ((with_reducible refine gate_callee (f := 109) rfl ?_); refine gl_ 29 Try.func109 (spec_MayDisturb.calls T z _ _ m _ _ s B D E G I _ _ u J M x true _ (ck_ b7 HB) b4.out (ck_ b8 HB) b5.out (ck_ b9 HB) b6.out b2.out) ?_; rintro e f6 ⟨rfl, hb⟩; refine ⟨_, rfl, sh3_ (Kd.R_below (ra_ l) hb) (blk_below (bk_ j) hb) (below_step (bl1_ HB y) hb) ?_⟩; clear l j HB hb; intro l j HB; obtain ⟨b0, b1, e5⟩ := Kd.R_slice l.out; subst e5) | ((with_reducible refine gate_callee (f := 106) rfl ?_); refine goesL_ (some 32) rfl rfl Try.func106 (by kernel_rfl) rfl #[.slice b0 L.length b1, iv_ x] rfl mp_ ?_; (with_reducible refine (spec_l4Put.calls (fun k_ => some k_ = (.slice b0 L.length b1 : Value).ownBlock) (.slice b0 L.length b1) L x d8 w _ ?side1 ?side2 e0.out).mono ?_); (case side1 => repeat (first | (with_reducible first | exact HB.out | apply below_alloc | apply pw_below_drewN | apply below_drew1 | refine below_set ?_ y.out) | exact HB.out)); (case side2 => exact Kd.R_tight rfl l.out); rintro e f7 ⟨f5, rfl, d3, hb, hkp⟩; refine ⟨_, rfl, sh3_ (blk_kept (bk_ j) hkp (fun hs_ => (fun e_ => (Kd.R_ne l.out j.out (by decide)) e_) hs_)) (Kd.R_mono (ok' := fun k_ => True) d3 (fun k_ hk_ => trivial)) hb ?_⟩; clear j HB l hb hkp d3; intro j e3 HB))
     go_roundg T
     case measure => have := Z.out; omega
     case rel => exact ⟨(d8), (wrap64 (x + 1)), (by first | rfl | (simp; done) | (simp [*]; done)), H', ⟨by have := Z.out; omega⟩, ⟨ra_ e3⟩, ⟨by (with_reducible repeat (first | refine blk_drewN ?_ _ | refine blk_drew ?_ | refine blk_alloc ?_ _)); exact j.out⟩, ⟨bl1_ HB y⟩⟩
    ·replace a8 := Bool.eq_false_iff.mpr a8
     subst a8
     have H1 : (spec_QuietSpans.l0 T M L a9 (wrap64 (x + 1)) z m s B D E G I u J) = some r := by rw [if_neg (show ¬ (false = true) by decide)] at H; exact H
     clear H
     have H := H1
     clear H1
     have H' := Aside0.mk H
     clear H
     have f2 := cf10_ j
     go_wp2_with (first | ((with_reducible refine gate_callee (f := 109) rfl ?_); refine gl_ 29 Try.func109 (spec_MayDisturb.calls T z _ _ m _ _ s B D E G I _ _ u J M x false _ (ck_ b7 HB) b4.out (ck_ b8 HB) b5.out (ck_ b9 HB) b6.out b2.out) ?_; rintro e f8 ⟨rfl, hb⟩; refine ⟨_, rfl, sh3_ (Kd.R_below (ra_ l) hb) (blk_below (bk_ j) hb) (below_step (bl1_ HB y) hb) ?_⟩; clear l j HB hb; intro l j HB))
     go_roundg T
     case measure => have := Z.out; omega
     case rel => exact ⟨(L), (wrap64 (x + 1)), (by first | rfl | (simp; done) | (simp [*]; done)), H', ⟨by have := Z.out; omega⟩, ⟨ra_ l⟩, ⟨by (with_reducible repeat (first | refine blk_drewN ?_ _ | refine blk_drew ?_ | refine blk_alloc ?_ _)); exact j.out⟩, ⟨bl1_ HB y⟩⟩
   ·rw [if_neg c9] at H
    have e4 := decide_eq_false c9
    clear c9
    obtain rfl := Option.some.inj H
    go_wp2
    go_ret
    exact ⟨_, by first | (rw [hRT_.out]; rfl) | exact er_, ra_ l, bl1_ HB y⟩

/-! ### spec_SpeakingSpans: function 28 -/
def spec_SpeakingSpans.f (k : Nat) (j : Int) (D : List S72) (E : List S74) (l m s u x : Int) (G : List S88) (y I J z B : Int) : Option (List S82) := (spec_SureWindows.f k j D E l m s u x G y I J z B).bind fun L => ((spec_QuietSpans.f k j D E l m s u x G y I z B).bind fun M => ((spec_CutSpans.f k L M).bind fun O => ((spec_QuietSpans.f k j D E l m s u x G y J z B).bind fun T => ((spec_CutSpans.f k O T).bind fun U => (some U)))))
def spec_SpeakingSpans.T1 : Bool × List (List Nat × List Nat) := (true, [([], []), ([], []), ([], []), ([], []), ([], []), ([0, 1, 2, 3, 4], [0, 1, 2, 3, 4]), ([], []), ([], []), ([], []), ([], []), ([6, 7, 8, 9, 5], [6, 7, 8, 9]), ([5, 10, 10], [5, 10]), ([11, 11, 0, 1, 2, 3, 4, 5, 6, 7, 8, 9, 10, 11], [11])])
def spec_SpeakingSpans.B1 : List Nat := [0, 0, 0, 0, 0, 31, 0, 0, 0, 0, 1023, 2047, 4095]
theorem spec_SpeakingSpans.tab1 : rtab .any (opsOf Try.f28 1) = spec_SpeakingSpans.T1 := by kernel_rfl
theorem spec_SpeakingSpans.bits1 : waitsOk spec_SpeakingSpans.T1.2 spec_SpeakingSpans.B1 = true := by kernel_rfl
theorem spec_SpeakingSpans.calls (k : Nat) (E : Int) (X : Option Addr) (a6 : Nat) (y : List S72) (Y : Option Addr) (a7 : Nat) (z : List S74) (G I J L M : Int) (Z : Option Addr) (a8 : Nat) (B : List S88) (O a1 a2 T U : Int) (r : List S82) (w : World) (d0 : Kd.C k72 w X y.length y) (b9 : y.length ≤ a6) (d1 : Kd.C k74 w Y z.length z) (c0 : z.length ≤ a7) (d2 : Kd.C k88 w Z B.length B) (c1 : B.length ≤ a8) (h : spec_SpeakingSpans.f k E y z G I J L M B O a1 a2 T U = some r) :
  Calls Try.prog 28 #[.agg #[iv_ E, .slice X y.length a6, .slice Y z.length a7, iv_ G, iv_ I, iv_ J, iv_ L, iv_ M, .slice Z B.length a8, iv_ O], iv_ a1, iv_ a2, iv_ T, iv_ U] w fun e w' => ∃ d7 : Value, e = .returned (d7) ∧ Kd.R k82 82 w' w.heap.size (fun _ => True) d7 r ∧ Below w.heap.size w w' := by
 have f8 := Try.underlying28
 have b2 := Aside0.mk d0
 have a9 := Aside0.mk b9
 clear d0 b9
 have b3 := Aside0.mk d1
 have b0 := Aside0.mk c0
 clear d1 c0
 have b4 := Aside0.mk d2
 have b1 := Aside0.mk c1
 clear d2 c1
 have HB := Aside0.mk (Below.refl w.heap.size w)
 have H := h
 clear h
 unfold spec_SpeakingSpans.f at H
 replace H := bs_ H
 obtain ⟨d3, A6, H⟩ := H
 replace H := bs_ H
 obtain ⟨d4, A7, H⟩ := H
 replace H := bs_ H
 obtain ⟨d5, A8, H⟩ := H
 replace H := bs_ H
 obtain ⟨d6, A9, H⟩ := H
 replace H := bs_ H
 obtain ⟨e7, d8, H⟩ := H
 obtain rfl := Option.some.inj H
 go_enter Try.func28, Try.ntmps28
 try go_wp2_with (first | ((with_reducible refine gd_ 5 ?_); refine bx_ 5 28 #[iv_ E, .slice X y.length a6, .slice Y z.length a7, iv_ G, iv_ I, iv_ J, iv_ L, iv_ M, .slice Z B.length a8, iv_ O] ?_; intro e6 hg e8 hbox hb; refine sh3_ (below_step (bl_ HB) hb) hbox (ge_ hg (bl_ HB)) ?_; clear HB hb hbox hg; intro HB j u))
 refine sh2_ (blk_drew j.out) (below_drew1 HB.out) ?_
 clear j HB
 intro j HB
 refine start_ (n := 13) (S := fun w' => Cz10 w' e6 (iv_ E) (.slice X y.length a6) (.slice Y z.length a7) (iv_ G) (iv_ I) (iv_ J) (iv_ L) (iv_ M) (.slice Z B.length a8) (iv_ O)) (ds := []) (bo_ 13 0) (by kernel_rfl) rfl rfl (cz10_ j) (fun hHeld => ?_); refine with_tabW spec_SpeakingSpans.tab1 spec_SpeakingSpans.bits1 (fun HT_ HW_ => ?_)
 generalize e8.drew = g4 at j HB hHeld ⊢
 refine pur_ 1 (bo_ 13 2) (some 13) HT_ ?_
 refine pur_ 2 (bo_ 13 6) (some 14) HT_ ?_
 refine pur_ 3 (bo_ 13 14) (some 15) HT_ ?_
 refine pur_ 4 (bo_ 13 30) (some 16) HT_ ?_
 refine pur_ 7 (bo_ 13 158) (some 19) HT_ ?_
 refine pur_ 8 (bo_ 13 414) (some 20) HT_ ?_
 refine pur_ 9 (bo_ 13 926) (some 21) HT_ ?_
 refine tak_ 0 (bo_ 13 927) (some 12) HT_ HW_ hHeld ?_
 refine tak_ 6 (bo_ 13 991) (some 18) HT_ HW_ hHeld ?_
 refine onc_ 5 (bo_ 13 1023) (some 17) HT_ Try.func72 (spec_SureWindows.calls k E _ _ y _ _ z G I J L M _ _ B O a1 a2 T U d3 _ (ck_ b2 HB) a9.out (ck_ b3 HB) b0.out (ck_ b4 HB) b1.out A6.out) ?_
 rintro e g5 ⟨f9, rfl, l, hb⟩
 refine sh3_ (Kd.R_lower l (below_size (bl1_ HB u))) (blk_below (bk_ j) hb) (below_step (bl1_ HB u) hb) ?_
 clear j HB hb l
 intro m j HB
 refine ⟨_, _, rfl, (cz10_ j), pt_, fun hHeld => ?_⟩
 refine onc_ 10 (bo_ 13 2047) (some 22) HT_ Try.func73 (spec_QuietSpans.calls k E _ _ y _ _ z G I J L M _ _ B O a1 T U d4 _ (ck_ b2 HB) a9.out (ck_ b3 HB) b0.out (ck_ b4 HB) b1.out A7.out) ?_
 rintro e g6 ⟨g0, rfl, l, hb⟩
 refine sh4_ (Kd.R_elder' (ra_ m) (Kd.R_base l) hb) (Kd.R_lower (Kd.R_new' l (Kd.R_lt (ra_ m))) (below_size (bl1_ HB u))) (blk_below (bk_ j) hb) (below_step (bl1_ HB u) hb) ?_
 clear m j HB hb l
 intro m s j HB
 obtain ⟨e9, f3, b7⟩ := Kd.R_slice m.out
 (first | subst b7 | (injection b7 with f1_ f2_ f3_; have b5 := f1_.symm; have b6 := f3_.symm; clear f1_ f2_ f3_; subst b5; subst b6))
 obtain ⟨f0, f4, b8⟩ := Kd.R_slice s.out
 (first | subst b8 | (injection b8 with f1_ f2_ f3_; have b5 := f1_.symm; have b6 := f3_.symm; clear f1_ f2_ f3_; subst b5; subst b6))
 refine ⟨_, _, rfl, (cz10_ j), pt_, fun hHeld => ?_⟩
 refine onc_ 11 (bo_ 13 4095) (some 23) HT_ Try.func71 (spec_CutSpans.calls k _ _ d3 _ _ d4 d5 _ (cr_ m) (rl_ m) (cr_ s) (rl_ s) A8.out) ?_
 rintro e g7 ⟨g1, rfl, l, hb⟩
 refine sh5_ (Kd.R_elder' (ra_ m) (Kd.R_base l) hb) (Kd.R_elder' (ra_ s) (Kd.R_base l) hb) (Kd.R_lower (Kd.R_new' (Kd.R_new' l (Kd.R_lt (ra_ m))) (Kd.R_lt (ra_ s))) (below_size (bl1_ HB u))) (blk_below (bk_ j) hb) (below_step (bl1_ HB u) hb) ?_
 clear m s j HB hb l
 intro m s x j HB
 refine ⟨_, _, rfl, (cz10_ j), pt_, fun hHeld => ?_⟩
 refine pur_ 12 (bo_ 13 8191) (some 11) HT_ ?_
 refine done_ (done_of HT_.out (by kernel_rfl)) ?_
 have f7 := cf10_ j
 try go_wp2_with (first | ((with_reducible refine gate_callee (f := 73) rfl ?_); refine gl_ 29 Try.func73 (spec_QuietSpans.calls k E _ _ y _ _ z G I J L M _ _ B O a2 T U d6 _ (ck_ b2 HB) a9.out (ck_ b3 HB) b0.out (ck_ b4 HB) b1.out A9.out) ?_; rintro e g8 ⟨g2, rfl, l, hb⟩; refine ⟨_, rfl, sh6_ (Kd.R_elder' (ra_ m) (Kd.R_base l) hb) (Kd.R_elder' (ra_ s) (Kd.R_base l) hb) (Kd.R_elder' (ra_ x) (Kd.R_base l) hb) (Kd.R_lower (Kd.R_new' (Kd.R_new' (Kd.R_new' l (Kd.R_lt (ra_ m))) (Kd.R_lt (ra_ s))) (Kd.R_lt (ra_ x))) (below_size (bl1_ HB u))) (blk_below (bk_ j) hb) (below_step (bl1_ HB u) hb) ?_⟩; clear m s x j HB hb l; intro m s x D j HB; obtain ⟨f1, f5, e4⟩ := Kd.R_slice x.out; subst e4; obtain ⟨f2, f6, e5⟩ := Kd.R_slice D.out; subst e5) | ((with_reducible refine gate_callee (f := 71) rfl ?_); refine gl_ 30 Try.func71 (spec_CutSpans.calls k _ _ d5 _ _ d6 e7 _ (cr_ x) (rl_ x) (cr_ D) (rl_ D) d8.out) ?_; rintro e g9 ⟨g3, rfl, l, hb⟩; refine ⟨_, rfl, sh7_ (Kd.R_elder' (ra_ m) (Kd.R_base l) hb) (Kd.R_elder' (ra_ s) (Kd.R_base l) hb) (Kd.R_elder' (ra_ x) (Kd.R_base l) hb) (Kd.R_elder' (ra_ D) (Kd.R_base l) hb) (Kd.R_lower (Kd.R_new' (Kd.R_new' (Kd.R_new' (Kd.R_new' l (Kd.R_lt (ra_ m))) (Kd.R_lt (ra_ s))) (Kd.R_lt (ra_ x))) (Kd.R_lt (ra_ D))) (below_size (bl1_ HB u))) (blk_below (bk_ j) hb) (below_step (bl1_ HB u) hb) ?_⟩; clear m s x D j HB hb l; intro m s x D e3 j HB))
 go_ret
 exact ⟨_, by first | (rw [hRT_.out]; rfl) | exact er_, by (with_reducible repeat (first | apply Kd.R_alloc | apply Kd.R_drewN | apply Kd.R_drew)); exact Kd.R_mono e3.out (fun _ hk => trivial), bl1_ HB u⟩

/-! ### impl_Max: function 30 -/
def impl_Max.f (j l : Int) : Option (Int) := some (mx j l)
theorem impl_Max.calls (j l r : Int) (w : World) (h : impl_Max.f j l = some r) :
  Calls Try.prog 30 #[iv_ j, iv_ l] w fun e w' => e = .returned (iv_ r) ∧ Below w.heap.size w w' := by
 have HB := Aside0.mk (Below.refl w.heap.size w)
 have H := h
 clear h
 unfold impl_Max.f at H
 obtain ⟨ji3, hji3⟩ : ∃ j_ : Int, (mx j l) = j_ := ⟨_, rfl⟩
 replace H : (some ji3) = some r := by first | (rw [hji3] at H; exact H) | (simp only [hji3] at H ⊢; exact H)
 have m : (if j < l then l else j) = ji3 := hji3
 obtain rfl := Option.some.inj H
 go_enter Try.func30, Try.ntmps30
 go_wp2
 go_ret
 exact ⟨by first | rfl | (rw [hRT_.out]; rfl) | (simp [errW_none, errW_some] <;> rfl) | (simp only [← hji3]; first | rfl | (simp [errW_none, errW_some] <;> rfl)) | (simp [*, errW_none, errW_some] <;> rfl), bl_ HB⟩

/-! ### spec_l1Int: function 91 -/
def spec_l1Int.f (m : List Int) (s u : Int) (l : List Int) : Option (Int × Int × Int) := (spec_l1Below.f m s u (l.length : Int)).bind fun j => (if 0 ≤ j.1 then (if j.1 < (l.length : Int) then (some (rd l j.1, j.2.1, j.2.2)) else (none)) else (none))
theorem spec_l1Int.calls (g : Nat) (s : List Int) (D E : Int) (x : Option Addr) (G : Nat) (j : List Int) (M O T : Int) (m w : World) (hI : IsS102 m w g s D E) (hB : Below m.heap.size m w) (J : Kd.C (Kd.int .i64) w x j.length j) (I : j.length ≤ G) (y : ∀ ad, x = some ad → 0 < j.length → ad.block ≠ g) (h : spec_l1Int.f s D E j = some (M, O, T)) :
  Calls Try.prog 91 #[.pointer (some ⟨g, 0, none⟩), .slice x j.length G] w fun e w' => e = .returned (iv_ M) ∧ IsS102 m w' g s O T ∧ Below m.heap.size m w' ∧ KeepBut w w' g none := by
 have X := Aside0.mk J
 have a2 := Aside0.mk I
 clear J I
 have l := Aside0.mk hI
 have HK := Aside0.mk (KeepBut.refl w g none)
 have HL := Aside0.mk hB.size
 clear hI
 have a3 := Aside0.mk hB.size
 have HB := Aside0.mk hB
 clear hB
 have H := h
 clear h
 unfold spec_l1Int.f at H
 replace H := bs_ H
 obtain ⟨⟨u, a0, a1⟩, U, H⟩ := H
 dsimp only at H
 replace H := ifn_ H
 obtain ⟨c4, H⟩ := H
 have a4 := decide_eq_true c4
 clear c4
 replace H := ifn_ H
 obtain ⟨c5, H⟩ := H
 have a5 := decide_eq_true c5
 clear c5
 simp only [Option.some.injEq, Prod.mk.injEq] at H
 obtain ⟨rfl, rfl, rfl⟩ := H
 go_enter Try.func91, Try.ntmps91
 go_wp2_with (first | ((with_reducible refine gate_callee (f := 60) rfl ?_); refine goesL_ (some 9) rfl rfl Try.func60 (by kernel_rfl) rfl #[.pointer (some ⟨g, 0, none⟩), iv_ (j.length : Int)] rfl mp_ ?_; (with_reducible refine (spec_l1Below.calls g s D E (j.length : Int) u a0 a1 m _ ?side1 ?side2 U.out).mono ?_); (case side1 => repeat (first | (with_reducible first | exact l.out | apply IsS102.alloc | apply IsS102.drewN | apply IsS102.drew | apply IsS102.set_1 | apply IsS102.set_2) | exact l.out)); (case side2 => repeat (first | (with_reducible first | exact HB.out | apply below_alloc | apply pw_below_drewN | apply below_drew1 | refine below_set ?_ (IsS102.ge l.out)) | exact HB.out)); rintro e w6 ⟨rfl, hi, hb, hk⟩; refine ⟨_, rfl, sh3_ (KeepBut.trans (by repeat (first | (with_reducible first | exact HK.out | apply KeepBut.set_ | apply keep_drewN | apply keep_drew | apply keep_alloc) | exact HK.out)) hk (.inl rfl)) hb hi ?_⟩; clear HK HB l hb hk hi; intro HK HB l; have z : 0 ≤ (u : Int) := od_; have B : u < (j.length : Int) := od_; obtain ⟨Y, Z, L⟩ := Kd.at_int X.out u z B; cases Z; replace L := keep_cell HK.out L (by first | (rw [add_block]; exact y _ rfl (by omega)) | exact y _ rfl (by omega) | exact y Y rfl (by omega)); replace z := eq_true z; replace B := eq_true B))
 go_ret
 exact ⟨by first | (rw [hRT_.out]; rfl) | exact er_, by repeat (first | (with_reducible first | exact l.out | apply IsS102.alloc | apply IsS102.drewN | apply IsS102.drew | apply IsS102.set_1 | apply IsS102.set_2) | exact l.out), by repeat (first | (with_reducible first | exact HB.out | apply below_alloc | apply pw_below_drewN | apply below_drew1 | refine below_set ?_ (IsS102.ge l.out)) | exact HB.out), by repeat (first | (with_reducible first | exact HK.out | apply KeepBut.set_ | apply keep_drewN | apply keep_drew | apply keep_alloc) | exact HK.out)⟩

/-! ### spec_l4Raw: function 50 -/
def spec_l4Raw.f (s : List Int) (u x : Int) : Option (Int × Int × Int) := (spec_l1Once.f s u x 6).bind fun j => (if j.1 = true then ((spec_l1Int.f s j.2.1 j.2.2 (([(-1), 0, 1000, 1001, 9223372036854775807, (-9223372036854775808)] : List Int))).bind fun l => (some (l.1, l.2.1, l.2.2))) else ((spec_l1Below.f s j.2.1 j.2.2 40).bind fun m => (some (m.1, m.2.1, m.2.2))))
theorem spec_l4Raw.calls (g : Nat) (l : List Int) (I J D E G : Int) (m w : World) (hI : IsS102 m w g l I J) (hB : Below m.heap.size m w) (h : spec_l4Raw.f l I J = some (D, E, G)) :
  Calls Try.prog 50 #[.pointer (some ⟨g, 0, none⟩)] w fun e w' => e = .returned (iv_ D) ∧ IsS102 m w' g l E G ∧ Below m.heap.size m w' ∧ KeepBut w w' g none := by
 have j := Aside0.mk hI
 have HK := Aside0.mk (KeepBut.refl w g none)
 have HL := Aside0.mk hB.size
 clear hI
 have a9 := Aside0.mk hB.size
 have HB := Aside0.mk hB
 clear hB
 have H := h
 clear h
 unfold spec_l4Raw.f at H
 replace H := bs_ H
 obtain ⟨⟨a2, s, u⟩, O, H⟩ := H
 dsimp only at H
 by_cases c3 : a2 = true
 ·subst c3
  have z : ((spec_l1Int.f l s u (([(-1), 0, 1000, 1001, 9223372036854775807, (-9223372036854775808)] : List Int))).bind fun y => (some (y.1, y.2.1, y.2.2))) = some (D, E, G) := by rw [if_pos rfl] at H; exact H
  clear H
  have H := z
  clear z
  replace H : ∃ y_ : List Int, Aside0 (y_ = (([(-1), 0, 1000, 1001, 9223372036854775807, (-9223372036854775808)] : List Int))) ∧ ((spec_l1Int.f l s u y_).bind fun y => (some (y.1, y.2.1, y.2.2))) = some (D, E, G) := ⟨_, ⟨rfl⟩, yh_ H⟩
  obtain ⟨U, T, H⟩ := H
  replace H := bs_ H
  obtain ⟨⟨a3, a4, a5⟩, Y, H⟩ := H
  dsimp only at H
  simp only [Option.some.injEq, Prod.mk.injEq] at H
  obtain ⟨rfl, rfl, rfl⟩ := H
  go_enter Try.func50, Try.ntmps50
  go_wp2_with (first | ((with_reducible refine gate_callee (f := 77) rfl ?_); refine goesL_ (some 4) rfl rfl Try.func77 (by kernel_rfl) rfl #[.pointer (some ⟨g, 0, none⟩), iv_ 6] rfl mp_ ?_; (with_reducible refine (spec_l1Once.calls g l I J 6 true s u m _ ?side1 ?side2 O.out).mono ?_); (case side1 => repeat (first | (with_reducible first | exact j.out | apply IsS102.alloc | apply IsS102.drewN | apply IsS102.drew | apply IsS102.set_1 | apply IsS102.set_2) | exact j.out)); (case side2 => repeat (first | (with_reducible first | exact HB.out | apply below_alloc | apply pw_below_drewN | apply below_drew1 | refine below_set ?_ (IsS102.ge j.out)) | exact HB.out)); rintro e w5 ⟨rfl, hi, hb, hk⟩; refine ⟨_, rfl, sh3_ (KeepBut.trans (by repeat (first | (with_reducible first | exact HK.out | apply KeepBut.set_ | apply keep_drewN | apply keep_drew | apply keep_alloc) | exact HK.out)) hk (.inl rfl)) hb hi ?_⟩; clear HK HB j hb hk hi; intro HK HB j) | ((with_reducible refine gate_dst (N := 6) rfl ?_); refine Kd.R_lit (Kd.int .i64) _ 3 ?hg (N := 6) ?hd (xs := ([(-1), 0, 1000, 1001, 9223372036854775807, (-9223372036854775808)] : List Int)) (inner := [iv_ (-1), iv_ 0, iv_ 1000, iv_ 1001, iv_ 9223372036854775807, iv_ (-9223372036854775808)]) (ok := fun _ => True) (okp := fun _ => True) ?hr ?hp (fun _ hk => hk) trivial (Below.refl _ _) (Nat.le_refl _) (by simp) ?_; (case hd => rfl); (case hg => rfl); (case hr => first | (go_simp; done) | (go_simp; rfl)); (case hp => exact (Reps.one (show Kd.M (Kd.int .i64) _ _ _ (-1) [iv_ (-1)] from rfl) (Reps.one (show Kd.M (Kd.int .i64) _ _ _ 0 [iv_ 0] from rfl) (Reps.one (show Kd.M (Kd.int .i64) _ _ _ 1000 [iv_ 1000] from rfl) (Reps.one (show Kd.M (Kd.int .i64) _ _ _ 1001 [iv_ 1001] from rfl) (Reps.one (show Kd.M (Kd.int .i64) _ _ _ 9223372036854775807 [iv_ 9223372036854775807] from rfl) (Reps.one (show Kd.M (Kd.int .i64) _ _ _ (-9223372036854775808) [iv_ (-9223372036854775808)] from rfl) (Reps.none _ _)))))))); intro b0 w6 B hb hg_ hnew_; clear hg_ hnew_; (first | rw [← T.out] at B | (simp only [Int.reduceToNat] at B; rw [← T.out] at B)); refine sh4_ (Kd.R_lower B (keep_size (w := w) (g := g) (row := none) (by repeat (first | (with_reducible first | exact HK.out | apply KeepBut.set_ | apply keep_drewN | apply keep_drew | apply keep_alloc) | exact HK.out)))) (IsS102.below (by repeat (first | (with_reducible first | exact j.out | apply IsS102.alloc | apply IsS102.drewN | apply IsS102.drew | apply IsS102.set_1 | apply IsS102.set_2) | exact j.out)) hb) (KeepBut.trans (by repeat (first | (with_reducible first | exact HK.out | apply KeepBut.set_ | apply keep_drewN | apply keep_drew | apply keep_alloc) | exact HK.out)) (KeepBut.of_below hb g none) (.inl rfl)) (below_step (by repeat (first | (with_reducible first | exact HB.out | apply below_alloc | apply pw_below_drewN | apply below_drew1 | refine below_set ?_ (IsS102.ge j.out)) | exact HB.out)) hb) ?_; clear j HK HB hb B; intro x j HK HB; obtain ⟨Z, a0, a1⟩ := Kd.R_slice x.out; subst a1) | ((with_reducible refine gate_callee (f := 91) rfl ?_); refine goesL_ (some 7) rfl rfl Try.func91 (by kernel_rfl) rfl #[.pointer (some ⟨g, 0, none⟩), .slice Z U.length a0] rfl mp_ ?_; (with_reducible refine (spec_l1Int.calls g l s u _ _ U a3 a4 a5 m _ ?side1 ?side2 ?side3 ?side4 ?side5 Y.out).mono ?_); (case side1 => repeat (first | (with_reducible first | exact j.out | apply IsS102.alloc | apply IsS102.drewN | apply IsS102.drew | apply IsS102.set_1 | apply IsS102.set_2) | exact j.out)); (case side2 => repeat (first | (with_reducible first | exact HB.out | apply below_alloc | apply pw_below_drewN | apply below_drew1 | refine below_set ?_ (IsS102.ge j.out)) | exact HB.out)); (case side3 => repeat (first | exact (Kd.R_reads' x.out).2.2 | (with_reducible refine Kd.C_alloc ?_ _) | (with_reducible refine Kd.C_drewN ?_ _) | (with_reducible refine Kd.C_drew ?_))); (case side4 => exact (Kd.R_reads' x.out).2.1); (case side5 => exact far_slice (IsS102.own_ne j.out x.out (by decide))); rintro e w9 ⟨rfl, hi, hb, hk⟩; refine ⟨_, rfl, sh4_ (Kd.R_mono (Kd.R_keep (IsS102.apart (show IsS102 m _ g l s u from by repeat (first | (with_reducible first | exact j.out | apply IsS102.alloc | apply IsS102.drewN | apply IsS102.drew | apply IsS102.set_1 | apply IsS102.set_2) | exact j.out)) (ra_ x) (by decide)) hk (fun _ h => h.2)) (fun _ h => h.1)) (KeepBut.trans (by repeat (first | (with_reducible first | exact HK.out | apply KeepBut.set_ | apply keep_drewN | apply keep_drew | apply keep_alloc) | exact HK.out)) hk (.inl rfl)) hb hi ?_⟩; clear x HK HB j hb hk hi; intro x HK HB j))
  go_ret
  exact ⟨by first | (rw [hRT_.out]; rfl) | exact er_, by repeat (first | (with_reducible first | exact j.out | apply IsS102.alloc | apply IsS102.drewN | apply IsS102.drew | apply IsS102.set_1 | apply IsS102.set_2) | exact j.out), by repeat (first | (with_reducible first | exact HB.out | apply below_alloc | apply pw_below_drewN | apply below_drew1 | refine below_set ?_ (IsS102.ge j.out)) | exact HB.out), by repeat (first | (with_reducible first | exact HK.out | apply KeepBut.set_ | apply keep_drewN | apply keep_drew | apply keep_alloc) | exact HK.out)⟩
 ·replace c3 := Bool.eq_false_iff.mpr c3
  subst c3
  have z : ((spec_l1Below.f l s u 40).bind fun L => (some (L.1, L.2.1, L.2.2))) = some (D, E, G) := by rw [if_neg (show ¬ (false = true) by decide)] at H; exact H
  clear H
  have H := z
  clear z
  replace H := bs_ H
  obtain ⟨⟨a6, a7, a8⟩, X, H⟩ := H
  dsimp only at H
  simp only [Option.some.injEq, Prod.mk.injEq] at H
  obtain ⟨rfl, rfl, rfl⟩ := H
  go_enter Try.func50, Try.ntmps50
  go_wp2_with (first | ((with_reducible refine gate_callee (f := 77) rfl ?_); refine goesL_ (some 4) rfl rfl Try.func77 (by kernel_rfl) rfl #[.pointer (some ⟨g, 0, none⟩), iv_ 6] rfl mp_ ?_; (with_reducible refine (spec_l1Once.calls g l I J 6 false s u m _ ?side1 ?side2 O.out).mono ?_); (case side1 => repeat (first | (with_reducible first | exact j.out | apply IsS102.alloc | apply IsS102.drewN | apply IsS102.drew | apply IsS102.set_1 | apply IsS102.set_2) | exact j.out)); (case side2 => repeat (first | (with_reducible first | exact HB.out | apply below_alloc | apply pw_below_drewN | apply below_drew1 | refine below_set ?_ (IsS102.ge j.out)) | exact HB.out)); rintro e b1 ⟨rfl, hi, hb, hk⟩; refine ⟨_, rfl, sh3_ (KeepBut.trans (by repeat (first | (with_reducible first | exact HK.out | apply KeepBut.set_ | apply keep_drewN | apply keep_drew | apply keep_alloc) | exact HK.out)) hk (.inl rfl)) hb hi ?_⟩; clear HK HB j hb hk hi; intro HK HB j) | ((with_reducible refine gate_callee (f := 60) rfl ?_); refine goesL_ (some 9) rfl rfl Try.func60 (by kernel_rfl) rfl #[.pointer (some ⟨g, 0, none⟩), iv_ 40] rfl mp_ ?_; (with_reducible refine (spec_l1Below.calls g l s u 40 a6 a7 a8 m _ ?side1 ?side2 X.out).mono ?_); (case side1 => repeat (first | (with_reducible first | exact j.out | apply IsS102.alloc | apply IsS102.drewN | apply IsS102.drew | apply IsS102.set_1 | apply IsS102.set_2) | exact j.out)); (case side2 => repeat (first | (with_reducible first | exact HB.out | apply below_alloc | apply pw_below_drewN | apply below_drew1 | refine below_set ?_ (IsS102.ge j.out)) | exact HB.out)); rintro e b2 ⟨rfl, hi, hb, hk⟩; refine ⟨_, rfl, sh3_ (KeepBut.trans (by repeat (first | (with_reducible first | exact HK.out | apply KeepBut.set_ | apply keep_drewN | apply keep_drew | apply keep_alloc) | exact HK.out)) hk (.inl rfl)) hb hi ?_⟩; clear HK HB j hb hk hi; intro HK HB j))
  go_ret
  exact ⟨by first | (rw [hRT_.out]; rfl) | exact er_, by repeat (first | (with_reducible first | exact j.out | apply IsS102.alloc | apply IsS102.drewN | apply IsS102.drew | apply IsS102.set_1 | apply IsS102.set_2) | exact j.out), by repeat (first | (with_reducible first | exact HB.out | apply below_alloc | apply pw_below_drewN | apply below_drew1 | refine below_set ?_ (IsS102.ge j.out)) | exact HB.out), by repeat (first | (with_reducible first | exact HK.out | apply KeepBut.set_ | apply keep_drewN | apply keep_drew | apply keep_alloc) | exact HK.out)⟩

/-! ### spec_l5Angle: function 111 -/
def spec_l5Angle.f (s : List Int) (u x : Int) : Option (Int × Int × Int) := (spec_l1Once.f s u x 6).bind fun j => (if j.1 = true then ((spec_l1Int.f s j.2.1 j.2.2 (([(-1), (-360), (-361), 359, 360, 361, 9223372036854775807, (-9223372036854775808)] : List Int))).bind fun l => (some (l.1, l.2.1, l.2.2))) else ((spec_l1Below.f s j.2.1 j.2.2 360).bind fun m => (some (m.1, m.2.1, m.2.2))))
theorem spec_l5Angle.calls (g : Nat) (l : List Int) (I J D E G : Int) (m w : World) (hI : IsS102 m w g l I J) (hB : Below m.heap.size m w) (h : spec_l5Angle.f l I J = some (D, E, G)) :
  Calls Try.prog 111 #[.pointer (some ⟨g, 0, none⟩)] w fun e w' => e = .returned (iv_ D) ∧ IsS102 m w' g l E G ∧ Below m.heap.size m w' ∧ KeepBut w w' g none := by
 have j := Aside0.mk hI
 have HK := Aside0.mk (KeepBut.refl w g none)
 have HL := Aside0.mk hB.size
 clear hI
 have a9 := Aside0.mk hB.size
 have HB := Aside0.mk hB
 clear hB
 have H := h
 clear h
 unfold spec_l5Angle.f at H
 replace H := bs_ H
 obtain ⟨⟨a2, s, u⟩, O, H⟩ := H
 dsimp only at H
 by_cases c3 : a2 = true
 ·subst c3
  have z : ((spec_l1Int.f l s u (([(-1), (-360), (-361), 359, 360, 361, 9223372036854775807, (-9223372036854775808)] : List Int))).bind fun y => (some (y.1, y.2.1, y.2.2))) = some (D, E, G) := by rw [if_pos rfl] at H; exact H
  clear H
  have H := z
  clear z
  replace H : ∃ y_ : List Int, Aside0 (y_ = (([(-1), (-360), (-361), 359, 360, 361, 9223372036854775807, (-9223372036854775808)] : List Int))) ∧ ((spec_l1Int.f l s u y_).bind fun y => (some (y.1, y.2.1, y.2.2))) = some (D, E, G) := ⟨_, ⟨rfl⟩, yh_ H⟩
  obtain ⟨U, T, H⟩ := H
  replace H := bs_ H
  obtain ⟨⟨a3, a4, a5⟩, Y, H⟩ := H
  dsimp only at H
  simp only [Option.some.injEq, Prod.mk.injEq] at H
  obtain ⟨rfl, rfl, rfl⟩ := H
  go_enter Try.func111, Try.ntmps111
  go_wp2_with (first | ((with_reducible refine gate_callee (f := 77) rfl ?_); refine goesL_ (some 4) rfl rfl Try.func77 (by kernel_rfl) rfl #[.pointer (some ⟨g, 0, none⟩), iv_ 6] rfl mp_ ?_; (with_reducible refine (spec_l1Once.calls g l I J 6 true s u m _ ?side1 ?side2 O.out).mono ?_); (case side1 => repeat (first | (with_reducible first | exact j.out | apply IsS102.alloc | apply IsS102.drewN | apply IsS102.drew | apply IsS102.set_1 | apply IsS102.set_2) | exact j.out)); (case side2 => repeat (first | (with_reducible first | exact HB.out | apply below_alloc | apply pw_below_drewN | apply below_drew1 | refine below_set ?_ (IsS102.ge j.out)) | exact HB.out)); rintro e w5 ⟨rfl, hi, hb, hk⟩; refine ⟨_, rfl, sh3_ (KeepBut.trans (by repeat (first | (with_reducible first | exact HK.out | apply KeepBut.set_ | apply keep_drewN | apply keep_drew | apply keep_alloc) | exact HK.out)) hk (.inl rfl)) hb hi ?_⟩; clear HK HB j hb hk hi; intro HK HB j) | ((with_reducible refine gate_dst (N := 6) rfl ?_); refine Kd.R_lit (Kd.int .i64) _ 3 ?hg (N := 6) ?hd (xs := ([(-1), (-360), (-361), 359, 360, 361, 9223372036854775807, (-9223372036854775808)] : List Int)) (inner := [iv_ (-1), iv_ (-360), iv_ (-361), iv_ 359, iv_ 360, iv_ 361, iv_ 9223372036854775807, iv_ (-9223372036854775808)]) (ok := fun _ => True) (okp := fun _ => True) ?hr ?hp (fun _ hk => hk) trivial (Below.refl _ _) (Nat.le_refl _) (by simp) ?_; (case hd => rfl); (case hg => rfl); (case hr => first | (go_simp; done) | (go_simp; rfl)); (case hp => exact (Reps.one (show Kd.M (Kd.int .i64) _ _ _ (-1) [iv_ (-1)] from rfl) (Reps.one (show Kd.M (Kd.int .i64) _ _ _ (-360) [iv_ (-360)] from rfl) (Reps.one (show Kd.M (Kd.int .i64) _ _ _ (-361) [iv_ (-361)] from rfl) (Reps.one (show Kd.M (Kd.int .i64) _ _ _ 359 [iv_ 359] from rfl) (Reps.one (show Kd.M (Kd.int .i64) _ _ _ 360 [iv_ 360] from rfl) (Reps.one (show Kd.M (Kd.int .i64) _ _ _ 361 [iv_ 361] from rfl) (Reps.one (show Kd.M (Kd.int .i64) _ _ _ 9223372036854775807 [iv_ 9223372036854775807] from rfl) (Reps.one (show Kd.M (Kd.int .i64) _ _ _ (-9223372036854775808) [iv_ (-9223372036854775808)] from rfl) (Reps.none _ _)))))))))); intro b0 w6 B hb hg_ hnew_; clear hg_ hnew_; (first | rw [← T.out] at B | (simp only [Int.reduceToNat] at B; rw [← T.out] at B)); refine sh4_ (Kd.R_lower B (keep_size (w := w) (g := g) (row := none) (by repeat (first | (with_reducible first | exact HK.out | apply KeepBut.set_ | apply keep_drewN | apply keep_drew | apply keep_alloc) | exact HK.out)))) (IsS102.below (by repeat (first | (with_reducible first | exact j.out | apply IsS102.alloc | apply IsS102.drewN | apply IsS102.drew | apply IsS102.set_1 | apply IsS102.set_2) | exact j.out)) hb) (KeepBut.trans (by repeat (first | (with_reducible first | exact HK.out | apply KeepBut.set_ | apply keep_drewN | apply keep_drew | apply keep_alloc) | exact HK.out)) (KeepBut.of_below hb g none) (.inl rfl)) (below_step (by repeat (first | (with_reducible first | exact HB.out | apply below_alloc | apply pw_below_drewN | apply below_drew1 | refine below_set ?_ (IsS102.ge j.out)) | exact HB.out)) hb) ?_; clear j HK HB hb B; intro x j HK HB; obtain ⟨Z, a0, a1⟩ := Kd.R_slice x.out; subst a1) | ((with_reducible refine gate_callee (f := 91) rfl ?_); refine goesL_ (some 7) rfl rfl Try.func91 (by kernel_rfl) rfl #[.pointer (some ⟨g, 0, none⟩), .slice Z U.length a0] rfl mp_ ?_; (with_reducible refine (spec_l1Int.calls g l s u _ _ U a3 a4 a5 m _ ?side1 ?side2 ?side3 ?side4 ?side5 Y.out).mono ?_); (case side1 => repeat (first | (with_reducible first | exact j.out | apply IsS102.alloc | apply IsS102.drewN | apply IsS102.drew | apply IsS102.set_1 | apply IsS102.set_2) | exact j.out)); (case side2 => repeat (first | (with_reducible first | exact HB.out | apply below_alloc | apply pw_below_drewN | apply below_drew1 | refine below_set ?_ (IsS102.ge j.out)) | exact HB.out)); (case side3 => repeat (first | exact (Kd.R_reads' x.out).2.2 | (with_reducible refine Kd.C_alloc ?_ _) | (with_reducible refine Kd.C_drewN ?_ _) | (with_reducible refine Kd.C_drew ?_))); (case side4 => exact (Kd.R_reads' x.out).2.1); (case side5 => exact far_slice (IsS102.own_ne j.out x.out (by decide))); rintro e w9 ⟨rfl, hi, hb, hk⟩; refine ⟨_, rfl, sh4_ (Kd.R_mono (Kd.R_keep (IsS102.apart (show IsS102 m _ g l s u from by repeat (first | (with_reducible first | exact j.out | apply IsS102.alloc | apply IsS102.drewN | apply IsS102.drew | apply IsS102.set_1 | apply IsS102.set_2) | exact j.out)) (ra_ x) (by decide)) hk (fun _ h => h.2)) (fun _ h => h.1)) (KeepBut.trans (by repeat (first | (with_reducible first | exact HK.out | apply KeepBut.set_ | apply keep_drewN | apply keep_drew | apply keep_alloc) | exact HK.out)) hk (.inl rfl)) hb hi ?_⟩; clear x HK HB j hb hk hi; intro x HK HB j))
  go_ret
  exact ⟨by first | (rw [hRT_.out]; rfl) | exact er_, by repeat (first | (with_reducible first | exact j.out | apply IsS102.alloc | apply IsS102.drewN | apply IsS102.drew | apply IsS102.set_1 | apply IsS102.set_2) | exact j.out), by repeat (first | (with_reducible first | exact HB.out | apply below_alloc | apply pw_below_drewN | apply below_drew1 | refine below_set ?_ (IsS102.ge j.out)) | exact HB.out), by repeat (first | (with_reducible first | exact HK.out | apply KeepBut.set_ | apply keep_drewN | apply keep_drew | apply keep_alloc) | exact HK.out)⟩
 ·replace c3 := Bool.eq_false_iff.mpr c3
  subst c3
  have z : ((spec_l1Below.f l s u 360).bind fun L => (some (L.1, L.2.1, L.2.2))) = some (D, E, G) := by rw [if_neg (show ¬ (false = true) by decide)] at H; exact H
  clear H
  have H := z
  clear z
  replace H := bs_ H
  obtain ⟨⟨a6, a7, a8⟩, X, H⟩ := H
  dsimp only at H
  simp only [Option.some.injEq, Prod.mk.injEq] at H
  obtain ⟨rfl, rfl, rfl⟩ := H
  go_enter Try.func111, Try.ntmps111
  go_wp2_with (first | ((with_reducible refine gate_callee (f := 77) rfl ?_); refine goesL_ (some 4) rfl rfl Try.func77 (by kernel_rfl) rfl #[.pointer (some ⟨g, 0, none⟩), iv_ 6] rfl mp_ ?_; (with_reducible refine (spec_l1Once.calls g l I J 6 false s u m _ ?side1 ?side2 O.out).mono ?_); (case side1 => repeat (first | (with_reducible first | exact j.out | apply IsS102.alloc | apply IsS102.drewN | apply IsS102.drew | apply IsS102.set_1 | apply IsS102.set_2) | exact j.out)); (case side2 => repeat (first | (with_reducible first | exact HB.out | apply below_alloc | apply pw_below_drewN | apply below_drew1 | refine below_set ?_ (IsS102.ge j.out)) | exact HB.out)); rintro e b1 ⟨rfl, hi, hb, hk⟩; refine ⟨_, rfl, sh3_ (KeepBut.trans (by repeat (first | (with_reducible first | exact HK.out | apply KeepBut.set_ | apply keep_drewN | apply keep_drew | apply keep_alloc) | exact HK.out)) hk (.inl rfl)) hb hi ?_⟩; clear HK HB j hb hk hi; intro HK HB j) | ((with_reducible refine gate_callee (f := 60) rfl ?_); refine goesL_ (some 9) rfl rfl Try.func60 (by kernel_rfl) rfl #[.pointer (some ⟨g, 0, none⟩), iv_ 360] rfl mp_ ?_; (with_reducible refine (spec_l1Below.calls g l s u 360 a6 a7 a8 m _ ?side1 ?side2 X.out).mono ?_); (case side1 => repeat (first | (with_reducible first | exact j.out | apply IsS102.alloc | apply IsS102.drewN | apply IsS102.drew | apply IsS102.set_1 | apply IsS102.set_2) | exact j.out)); (case side2 => repeat (first | (with_reducible first | exact HB.out | apply below_alloc | apply pw_below_drewN | apply below_drew1 | refine below_set ?_ (IsS102.ge j.out)) | exact HB.out)); rintro e b2 ⟨rfl, hi, hb, hk⟩; refine ⟨_, rfl, sh3_ (KeepBut.trans (by repeat (first | (with_reducible first | exact HK.out | apply KeepBut.set_ | apply keep_drewN | apply keep_drew | apply keep_alloc) | exact HK.out)) hk (.inl rfl)) hb hi ?_⟩; clear HK HB j hb hk hi; intro HK HB j))
  go_ret
  exact ⟨by first | (rw [hRT_.out]; rfl) | exact er_, by repeat (first | (with_reducible first | exact j.out | apply IsS102.alloc | apply IsS102.drewN | apply IsS102.drew | apply IsS102.set_1 | apply IsS102.set_2) | exact j.out), by repeat (first | (with_reducible first | exact HB.out | apply below_alloc | apply pw_below_drewN | apply below_drew1 | refine below_set ?_ (IsS102.ge j.out)) | exact HB.out), by repeat (first | (with_reducible first | exact HK.out | apply KeepBut.set_ | apply keep_drewN | apply keep_drew | apply keep_alloc) | exact HK.out)⟩

/-! ### spec_l5Arc: function 78 -/
def spec_l5Arc.f (m : List Int) (x y : Int) : Option (Int × Int × Int × Int) := (spec_l5Angle.f m x y).bind fun l => ((spec_l1Below.f m l.2.1 l.2.2 80).bind fun s => ((spec_l1Once.f m s.2.1 s.2.2 6).bind fun j => (if j.1 = true then ((spec_l1Int.f m j.2.1 j.2.2 (([(-1), 0, 359, 360, 9223372036854775807] : List Int))).bind fun u => (some (l.1, u.1, u.2.1, u.2.2))) else (some (l.1, s.1, j.2.1, j.2.2)))))
theorem spec_l5Arc.calls (g : Nat) (s : List Int) (L O r1 r2 r3 r4 : Int) (m w : World) (hI : IsS102 m w g s L O) (hB : Below m.heap.size m w) (h : spec_l5Arc.f s L O = some (r1, r2, r3, r4)) :
  Calls Try.prog 78 #[.pointer (some ⟨g, 0, none⟩)] w fun e w' => e = .returned (.agg #[iv_ r1, iv_ r2]) ∧ IsS102 m w' g s r3 r4 ∧ Below m.heap.size m w' ∧ KeepBut w w' g none := by
 have f4 := Try.underlying35
 have j := Aside0.mk hI
 have HK := Aside0.mk (KeepBut.refl w g none)
 have HL := Aside0.mk hB.size
 clear hI
 have b0 := Aside0.mk hB.size
 have HB := Aside0.mk hB
 clear hB
 have H := h
 clear h
 unfold spec_l5Arc.f at H
 replace H := bs_ H
 obtain ⟨⟨I, b1, b2⟩, A2, H⟩ := H
 dsimp only at H
 replace H := bs_ H
 obtain ⟨⟨a0, T, U⟩, A3, H⟩ := H
 dsimp only at H
 replace H := bs_ H
 obtain ⟨⟨d3, a1, a2⟩, A4, H⟩ := H
 dsimp only at H
 by_cases c5 : d3 = true
 ·subst c5
  have H1 : ((spec_l1Int.f s a1 a2 (([(-1), 0, 359, 360, 9223372036854775807] : List Int))).bind fun Z => (some (I, Z.1, Z.2.1, Z.2.2))) = some (r1, r2, r3, r4) := by rw [if_pos rfl] at H; exact H
  clear H
  have H := H1
  clear H1
  replace H : ∃ y_ : List Int, Aside0 (y_ = (([(-1), 0, 359, 360, 9223372036854775807] : List Int))) ∧ ((spec_l1Int.f s a1 a2 y_).bind fun Z => (some (I, Z.1, Z.2.1, Z.2.2))) = some (r1, r2, r3, r4) := ⟨_, ⟨rfl⟩, yh_ H⟩
  obtain ⟨c0, b8, H⟩ := H
  replace H := bs_ H
  obtain ⟨⟨b9, d4, d5⟩, A6, H⟩ := H
  dsimp only at H
  simp only [Option.some.injEq, Prod.mk.injEq] at H
  obtain ⟨rfl, rfl, rfl, rfl⟩ := H
  go_enter Try.func78, Try.ntmps78
  go_wp2_with (first | ((with_reducible refine gd_ 2 ?_); refine bx_ 2 35 #[iv_ 0, iv_ 0] ?_; intro x hg w7 hbox hb; refine sh8_ (IsS102.below (by repeat (first | (with_reducible first | exact j.out | apply IsS102.alloc | apply IsS102.drewN | apply IsS102.drew | apply IsS102.set_1 | apply IsS102.set_2) | exact j.out)) hb) (KeepBut.trans (by repeat (first | (with_reducible first | exact HK.out | apply KeepBut.set_ | apply keep_drewN | apply keep_drew | apply keep_alloc) | exact HK.out)) (KeepBut.of_below hb g none) (.inl rfl)) (below_step (by repeat (first | (with_reducible first | exact HB.out | apply below_alloc | apply pw_below_drewN | apply below_drew1 | refine below_set ?_ (IsS102.ge j.out)) | exact HB.out)) hb) hbox ((by rw [hg]; exact (keep_size (w := w) (g := g) (row := none) (by repeat (first | (with_reducible first | exact HK.out | apply KeepBut.set_ | apply keep_drewN | apply keep_drew | apply keep_alloc) | exact HK.out))) : w.heap.size ≤ x)) ((Nat.le_trans b0.out (by rw [hg]; exact (keep_size (w := w) (g := g) (row := none) (by repeat (first | (with_reducible first | exact HK.out | apply KeepBut.set_ | apply keep_drewN | apply keep_drew | apply keep_alloc) | exact HK.out))) : w.heap.size ≤ x) : m.heap.size ≤ x)) ((by rw [hg]; exact Nat.ne_of_lt (IsS102.lt (show IsS102 m _ g s L O from by repeat (first | (with_reducible first | exact j.out | apply IsS102.alloc | apply IsS102.drewN | apply IsS102.drew | apply IsS102.set_1 | apply IsS102.set_2) | exact j.out))) : g ≠ x)) ((by rw [hg]; exact Nat.ne_of_gt (IsS102.lt (show IsS102 m _ g s L O from by repeat (first | (with_reducible first | exact j.out | apply IsS102.alloc | apply IsS102.drewN | apply IsS102.drew | apply IsS102.set_1 | apply IsS102.set_2) | exact j.out))) : x ≠ g)) ?_; clear j HK HB hb hbox hg; intro j HK HB l y D u G) | ((with_reducible refine gate_callee (f := 111) rfl ?_); refine goesL_ (some 5) rfl rfl Try.func111 (by kernel_rfl) rfl #[.pointer (some ⟨g, 0, none⟩)] rfl mp_ ?_; (with_reducible refine (spec_l5Angle.calls g s L O I b1 b2 m _ ?side1 ?side2 A2.out).mono ?_); (case side1 => repeat (first | (with_reducible first | exact j.out | apply IsS102.alloc | apply IsS102.drewN | apply IsS102.drew | apply IsS102.set_1 | apply IsS102.set_2 | refine IsS102.far ?_ u.out _) | exact j.out)); (case side2 => repeat (first | (with_reducible first | exact HB.out | apply below_alloc | apply pw_below_drewN | apply below_drew1 | refine below_set ?_ (IsS102.ge j.out) | refine below_set ?_ D.out) | exact HB.out)); rintro e w8 ⟨rfl, hi, hb, hk⟩; refine ⟨_, rfl, sh4_ (KeepBut.blk hk (g' := x) (o := .cells #[iv_ 0, iv_ 0] 35 (0, 0)) (bk_ l) G.out (by simp)) (KeepBut.trans (by repeat (first | (with_reducible first | exact HK.out | apply KeepBut.set_ | apply keep_drewN | apply keep_drew | apply keep_alloc | refine keep_far ?_ y.out _) | exact HK.out)) hk (.inl rfl)) hb hi ?_⟩; clear l HK HB j hb hk hi; intro l HK HB j) | ((with_reducible refine gate_callee (f := 60) rfl ?_); refine goesL_ (some 7) rfl rfl Try.func60 (by kernel_rfl) rfl #[.pointer (some ⟨g, 0, none⟩), iv_ 80] rfl mp_ ?_; (with_reducible refine (spec_l1Below.calls g s b1 b2 80 a0 T U m _ ?side1 ?side2 A3.out).mono ?_); (case side1 => repeat (first | (with_reducible first | exact j.out | apply IsS102.alloc | apply IsS102.drewN | apply IsS102.drew | apply IsS102.set_1 | apply IsS102.set_2 | refine IsS102.far ?_ u.out _) | exact j.out)); (case side2 => repeat (first | (with_reducible first | exact HB.out | apply below_alloc | apply pw_below_drewN | apply below_drew1 | refine below_set ?_ (IsS102.ge j.out) | refine below_set ?_ D.out) | exact HB.out)); rintro e w9 ⟨rfl, hi, hb, hk⟩; refine ⟨_, rfl, sh4_ (KeepBut.blk hk (g' := x) (o := .cells #[iv_ 0, iv_ 0] 35 (0, 0)) (bk_ l) G.out (by simp)) (KeepBut.trans (by repeat (first | (with_reducible first | exact HK.out | apply KeepBut.set_ | apply keep_drewN | apply keep_drew | apply keep_alloc | refine keep_far ?_ y.out _) | exact HK.out)) hk (.inl rfl)) hb hi ?_⟩; clear l HK HB j hb hk hi; intro l HK HB j) | ((with_reducible refine gd_ 3 ?_); refine bx_ 3 35 #[iv_ 0, iv_ 0] ?_; intro B hg f6 hbox hb; refine sh11_ (IsS102.below (by repeat (first | (with_reducible first | exact j.out | apply IsS102.alloc | apply IsS102.drewN | apply IsS102.drew | apply IsS102.set_1 | apply IsS102.set_2 | refine IsS102.far ?_ u.out _) | exact j.out)) hb) (blk_below (bk_ l) hb) (KeepBut.trans (by repeat (first | (with_reducible first | exact HK.out | apply KeepBut.set_ | apply keep_drewN | apply keep_drew | apply keep_alloc | refine keep_far ?_ y.out _) | exact HK.out)) (KeepBut.of_below hb g none) (.inl rfl)) (below_step (by repeat (first | (with_reducible first | exact HB.out | apply below_alloc | apply pw_below_drewN | apply below_drew1 | refine below_set ?_ (IsS102.ge j.out) | refine below_set ?_ D.out) | exact HB.out)) hb) hbox ((by rw [hg]; exact (keep_size (w := w) (g := g) (row := none) (by repeat (first | (with_reducible first | exact HK.out | apply KeepBut.set_ | apply keep_drewN | apply keep_drew | apply keep_alloc | refine keep_far ?_ y.out _) | exact HK.out))) : w.heap.size ≤ B)) ((Nat.le_trans b0.out (by rw [hg]; exact (keep_size (w := w) (g := g) (row := none) (by repeat (first | (with_reducible first | exact HK.out | apply KeepBut.set_ | apply keep_drewN | apply keep_drew | apply keep_alloc | refine keep_far ?_ y.out _) | exact HK.out))) : w.heap.size ≤ B) : m.heap.size ≤ B)) (nl_ hg (bk_ l)) (ng_ hg (bk_ l)) ((by rw [hg]; exact Nat.ne_of_lt (IsS102.lt (show IsS102 m _ g s T U from by repeat (first | (with_reducible first | exact j.out | apply IsS102.alloc | apply IsS102.drewN | apply IsS102.drew | apply IsS102.set_1 | apply IsS102.set_2 | refine IsS102.far ?_ u.out _) | exact j.out))) : g ≠ B)) ((by rw [hg]; exact Nat.ne_of_gt (IsS102.lt (show IsS102 m _ g s T U from by repeat (first | (with_reducible first | exact j.out | apply IsS102.alloc | apply IsS102.drewN | apply IsS102.drew | apply IsS102.set_1 | apply IsS102.set_2 | refine IsS102.far ?_ u.out _) | exact j.out))) : B ≠ g)) ?_; clear j l HK HB hb hbox hg; intro j l HK HB z J X b3 b4 E a3; have e2 := b4.out; have e8 := b3.out; have e3 := a3.out; have e9 := E.out; have d6 := cf2_ z) | ((with_reducible refine gate_callee (f := 77) rfl ?_); refine goesL_ (some 10) rfl rfl Try.func77 (by kernel_rfl) rfl #[.pointer (some ⟨g, 0, none⟩), iv_ 6] rfl mp_ ?_; (with_reducible refine (spec_l1Once.calls g s T U 6 true a1 a2 m _ ?side1 ?side2 A4.out).mono ?_); (case side1 => repeat (first | (with_reducible first | exact j.out | apply IsS102.alloc | apply IsS102.drewN | apply IsS102.drew | apply IsS102.set_1 | apply IsS102.set_2 | refine IsS102.far ?_ u.out _ | refine IsS102.far ?_ E.out _) | exact j.out)); (case side2 => repeat (first | (with_reducible first | exact HB.out | apply below_alloc | apply pw_below_drewN | apply below_drew1 | refine below_set ?_ (IsS102.ge j.out) | refine below_set ?_ D.out | refine below_set ?_ X.out) | exact HB.out)); rintro e f7 ⟨rfl, hi, hb, hk⟩; refine ⟨_, rfl, sh5_ (KeepBut.blk hk (g' := x) (o := .cells #[iv_ 0, iv_ 0] 35 (0, 0)) (bp_ l) G.out (by simp)) (KeepBut.blk hk (g' := B) (o := .cells #[iv_ I, iv_ a0] 35 (0, 0)) (bp_ z) a3.out (by simp)) (KeepBut.trans (by repeat (first | (with_reducible first | exact HK.out | apply KeepBut.set_ | apply keep_drewN | apply keep_drew | apply keep_alloc | refine keep_far ?_ y.out _ | refine keep_far ?_ J.out _) | exact HK.out)) hk (.inl rfl)) hb hi ?_⟩; clear l z HK HB j hb hk hi; intro l z HK HB j) | ((with_reducible refine gate_dst (N := 12) rfl ?_); refine Kd.R_lit (Kd.int .i64) _ 3 ?hg (N := 12) ?hd (xs := ([(-1), 0, 359, 360, 9223372036854775807] : List Int)) (inner := [iv_ (-1), iv_ 0, iv_ 359, iv_ 360, iv_ 9223372036854775807]) (ok := fun _ => True) (okp := fun _ => True) ?hr ?hp (fun _ hk => hk) trivial (Below.refl _ _) (Nat.le_refl _) (by simp) ?_; (case hd => rfl); (case hg => rfl); (case hr => first | (go_simp; done) | (go_simp; rfl)); (case hp => exact (Reps.one (show Kd.M (Kd.int .i64) _ _ _ (-1) [iv_ (-1)] from rfl) (Reps.one (show Kd.M (Kd.int .i64) _ _ _ 0 [iv_ 0] from rfl) (Reps.one (show Kd.M (Kd.int .i64) _ _ _ 359 [iv_ 359] from rfl) (Reps.one (show Kd.M (Kd.int .i64) _ _ _ 360 [iv_ 360] from rfl) (Reps.one (show Kd.M (Kd.int .i64) _ _ _ 9223372036854775807 [iv_ 9223372036854775807] from rfl) (Reps.none _ _))))))); intro f5 f8 a5 hb hg_ hnew_; clear hg_ hnew_; (first | rw [← b8.out] at a5 | (simp only [Int.reduceToNat] at a5; rw [← b8.out] at a5)); refine sh6_ (Kd.R_lower a5 (keep_size (w := w) (g := g) (row := none) (by repeat (first | (with_reducible first | exact HK.out | apply KeepBut.set_ | apply keep_drewN | apply keep_drew | apply keep_alloc | refine keep_far ?_ y.out _ | refine keep_far ?_ J.out _) | exact HK.out)))) (IsS102.below (by repeat (first | (with_reducible first | exact j.out | apply IsS102.alloc | apply IsS102.drewN | apply IsS102.drew | apply IsS102.set_1 | apply IsS102.set_2 | refine IsS102.far ?_ u.out _ | refine IsS102.far ?_ E.out _) | exact j.out)) hb) (blk_below (bk_ l) hb) (blk_below (bk_ z) hb) (KeepBut.trans (by repeat (first | (with_reducible first | exact HK.out | apply KeepBut.set_ | apply keep_drewN | apply keep_drew | apply keep_alloc | refine keep_far ?_ y.out _ | refine keep_far ?_ J.out _) | exact HK.out)) (KeepBut.of_below hb g none) (.inl rfl)) (below_step (by repeat (first | (with_reducible first | exact HB.out | apply below_alloc | apply pw_below_drewN | apply below_drew1 | refine below_set ?_ (IsS102.ge j.out) | refine below_set ?_ D.out | refine below_set ?_ X.out) | exact HB.out)) hb) ?_; clear j l z HK HB hb a5; intro Y j l z HK HB; obtain ⟨d0, d1, d2⟩ := Kd.R_slice Y.out; subst d2) | ((with_reducible refine gate_callee (f := 91) rfl ?_); refine goesL_ (some 13) rfl rfl Try.func91 (by kernel_rfl) rfl #[.pointer (some ⟨g, 0, none⟩), .slice d0 c0.length d1] rfl mp_ ?_; (with_reducible refine (spec_l1Int.calls g s a1 a2 _ _ c0 b9 d4 d5 m _ ?side1 ?side2 ?side3 ?side4 ?side5 A6.out).mono ?_); (case side1 => repeat (first | (with_reducible first | exact j.out | apply IsS102.alloc | apply IsS102.drewN | apply IsS102.drew | apply IsS102.set_1 | apply IsS102.set_2 | refine IsS102.far ?_ u.out _ | refine IsS102.far ?_ E.out _) | exact j.out)); (case side2 => repeat (first | (with_reducible first | exact HB.out | apply below_alloc | apply pw_below_drewN | apply below_drew1 | refine below_set ?_ (IsS102.ge j.out) | refine below_set ?_ D.out | refine below_set ?_ X.out) | exact HB.out)); (case side3 => repeat (first | exact (Kd.R_reads' Y.out).2.2 | (with_reducible refine Kd.C_alloc ?_ _) | (with_reducible refine Kd.C_drewN ?_ _) | (with_reducible refine Kd.C_drew ?_))); (case side4 => exact (Kd.R_reads' Y.out).2.1); (case side5 => exact far_slice (IsS102.own_ne j.out Y.out (by decide))); rintro e f9 ⟨rfl, hi, hb, hk⟩; refine ⟨_, rfl, sh6_ (KeepBut.blk hk (g' := x) (o := .cells #[iv_ 0, iv_ 0] 35 (0, 0)) (bk_ l) G.out (by simp)) (KeepBut.blk hk (g' := B) (o := .cells #[iv_ I, iv_ a0] 35 (0, 0)) (bk_ z) a3.out (by simp)) (Kd.R_mono (Kd.R_keep (IsS102.apart (show IsS102 m _ g s a1 a2 from by repeat (first | (with_reducible first | exact j.out | apply IsS102.alloc | apply IsS102.drewN | apply IsS102.drew | apply IsS102.set_1 | apply IsS102.set_2 | refine IsS102.far ?_ u.out _ | refine IsS102.far ?_ E.out _) | exact j.out)) (ra_ Y) (by decide)) hk (fun _ h => h.2)) (fun _ h => h.1)) (KeepBut.trans (by repeat (first | (with_reducible first | exact HK.out | apply KeepBut.set_ | apply keep_drewN | apply keep_drew | apply keep_alloc | refine keep_far ?_ y.out _ | refine keep_far ?_ J.out _) | exact HK.out)) hk (.inl rfl)) hb hi ?_⟩; clear l z Y HK HB j hb hk hi; intro l z Y HK HB j; have d7 := cf2_ z; have e4 := G.out; have f0 := u.out; have d8 := cf2_ l))
  refine bodyPost_ret (results_cell_row rfl _ _ x 35 #[iv_ I, iv_ b9] (0, 0) _ rfl (bp_ l) Try.underlying35 rfl (by kernel_rfl)) rfl ?_
  exact ⟨by first | (rw [hRT_.out]; rfl) | exact er_, by repeat (first | (with_reducible first | exact j.out | apply IsS102.alloc | apply IsS102.drewN | apply IsS102.drew | apply IsS102.set_1 | apply IsS102.set_2 | refine IsS102.far ?_ u.out _ | refine IsS102.far ?_ E.out _) | exact j.out), by repeat (first | (with_reducible first | exact HB.out | apply below_alloc | apply pw_below_drewN | apply below_drew1 | refine below_set ?_ (IsS102.ge j.out) | refine below_set ?_ D.out | refine below_set ?_ X.out) | exact HB.out), by repeat (first | (with_reducible first | exact HK.out | apply KeepBut.set_ | apply keep_drewN | apply keep_drew | apply keep_alloc | refine keep_far ?_ y.out _ | refine keep_far ?_ J.out _) | exact HK.out)⟩
 ·replace c5 := Bool.eq_false_iff.mpr c5
  subst c5
  have H1 : (some (I, a0, a1, a2)) = some (r1, r2, r3, r4) := by rw [if_neg (show ¬ (false = true) by decide)] at H; exact H
  clear H
  have H := H1
  clear H1
  simp only [Option.some.injEq, Prod.mk.injEq] at H
  obtain ⟨rfl, rfl, rfl, rfl⟩ := H
  go_enter Try.func78, Try.ntmps78
  go_wp2_with (first | ((with_reducible refine gd_ 2 ?_); refine bx_ 2 35 #[iv_ 0, iv_ 0] ?_; intro x hg g0 hbox hb; refine sh8_ (IsS102.below (by repeat (first | (with_reducible first | exact j.out | apply IsS102.alloc | apply IsS102.drewN | apply IsS102.drew | apply IsS102.set_1 | apply IsS102.set_2) | exact j.out)) hb) (KeepBut.trans (by repeat (first | (with_reducible first | exact HK.out | apply KeepBut.set_ | apply keep_drewN | apply keep_drew | apply keep_alloc) | exact HK.out)) (KeepBut.of_below hb g none) (.inl rfl)) (below_step (by repeat (first | (with_reducible first | exact HB.out | apply below_alloc | apply pw_below_drewN | apply below_drew1 | refine below_set ?_ (IsS102.ge j.out)) | exact HB.out)) hb) hbox ((by rw [hg]; exact (keep_size (w := w) (g := g) (row := none) (by repeat (first | (with_reducible first | exact HK.out | apply KeepBut.set_ | apply keep_drewN | apply keep_drew | apply keep_alloc) | exact HK.out))) : w.heap.size ≤ x)) ((Nat.le_trans b0.out (by rw [hg]; exact (keep_size (w := w) (g := g) (row := none) (by repeat (first | (with_reducible first | exact HK.out | apply KeepBut.set_ | apply keep_drewN | apply keep_drew | apply keep_alloc) | exact HK.out))) : w.heap.size ≤ x) : m.heap.size ≤ x)) ((by rw [hg]; exact Nat.ne_of_lt (IsS102.lt (show IsS102 m _ g s L O from by repeat (first | (with_reducible first | exact j.out | apply IsS102.alloc | apply IsS102.drewN | apply IsS102.drew | apply IsS102.set_1 | apply IsS102.set_2) | exact j.out))) : g ≠ x)) ((by rw [hg]; exact Nat.ne_of_gt (IsS102.lt (show IsS102 m _ g s L O from by repeat (first | (with_reducible first | exact j.out | apply IsS102.alloc | apply IsS102.drewN | apply IsS102.drew | apply IsS102.set_1 | apply IsS102.set_2) | exact j.out))) : x ≠ g)) ?_; clear j HK HB hb hbox hg; intro j HK HB l y D u G) | ((with_reducible refine gate_callee (f := 111) rfl ?_); refine goesL_ (some 5) rfl rfl Try.func111 (by kernel_rfl) rfl #[.pointer (some ⟨g, 0, none⟩)] rfl mp_ ?_; (with_reducible refine (spec_l5Angle.calls g s L O I b1 b2 m _ ?side1 ?side2 A2.out).mono ?_); (case side1 => repeat (first | (with_reducible first | exact j.out | apply IsS102.alloc | apply IsS102.drewN | apply IsS102.drew | apply IsS102.set_1 | apply IsS102.set_2 | refine IsS102.far ?_ u.out _) | exact j.out)); (case side2 => repeat (first | (with_reducible first | exact HB.out | apply below_alloc | apply pw_below_drewN | apply below_drew1 | refine below_set ?_ (IsS102.ge j.out) | refine below_set ?_ D.out) | exact HB.out)); rintro e g1 ⟨rfl, hi, hb, hk⟩; refine ⟨_, rfl, sh4_ (KeepBut.blk hk (g' := x) (o := .cells #[iv_ 0, iv_ 0] 35 (0, 0)) (bk_ l) G.out (by simp)) (KeepBut.trans (by repeat (first | (with_reducible first | exact HK.out | apply KeepBut.set_ | apply keep_drewN | apply keep_drew | apply keep_alloc | refine keep_far ?_ y.out _) | exact HK.out)) hk (.inl rfl)) hb hi ?_⟩; clear l HK HB j hb hk hi; intro l HK HB j) | ((with_reducible refine gate_callee (f := 60) rfl ?_); refine goesL_ (some 7) rfl rfl Try.func60 (by kernel_rfl) rfl #[.pointer (some ⟨g, 0, none⟩), iv_ 80] rfl mp_ ?_; (with_reducible refine (spec_l1Below.calls g s b1 b2 80 a0 T U m _ ?side1 ?side2 A3.out).mono ?_); (case side1 => repeat (first | (with_reducible first | exact j.out | apply IsS102.alloc | apply IsS102.drewN | apply IsS102.drew | apply IsS102.set_1 | apply IsS102.set_2 | refine IsS102.far ?_ u.out _) | exact j.out)); (case side2 => repeat (first | (with_reducible first | exact HB.out | apply below_alloc | apply pw_below_drewN | apply below_drew1 | refine below_set ?_ (IsS102.ge j.out) | refine below_set ?_ D.out) | exact HB.out)); rintro e g2 ⟨rfl, hi, hb, hk⟩; refine ⟨_, rfl, sh4_ (KeepBut.blk hk (g' := x) (o := .cells #[iv_ 0, iv_ 0] 35 (0, 0)) (bk_ l) G.out (by simp)) (KeepBut.trans (by repeat (first | (with_reducible first | exact HK.out | apply KeepBut.set_ | apply keep_drewN | apply keep_drew | apply keep_alloc | refine keep_far ?_ y.out _) | exact HK.out)) hk (.inl rfl)) hb hi ?_⟩; clear l HK HB j hb hk hi; intro l HK HB j) | ((with_reducible refine gd_ 3 ?_); refine bx_ 3 35 #[iv_ 0, iv_ 0] ?_; intro B hg g3 hbox hb; refine sh11_ (IsS102.below (by repeat (first | (with_reducible first | exact j.out | apply IsS102.alloc | apply IsS102.drewN | apply IsS102.drew | apply IsS102.set_1 | apply IsS102.set_2 | refine IsS102.far ?_ u.out _) | exact j.out)) hb) (blk_below (bk_ l) hb) (KeepBut.trans (by repeat (first | (with_reducible first | exact HK.out | apply KeepBut.set_ | apply keep_drewN | apply keep_drew | apply keep_alloc | refine keep_far ?_ y.out _) | exact HK.out)) (KeepBut.of_below hb g none) (.inl rfl)) (below_step (by repeat (first | (with_reducible first | exact HB.out | apply below_alloc | apply pw_below_drewN | apply below_drew1 | refine below_set ?_ (IsS102.ge j.out) | refine below_set ?_ D.out) | exact HB.out)) hb) hbox ((by rw [hg]; exact (keep_size (w := w) (g := g) (row := none) (by repeat (first | (with_reducible first | exact HK.out | apply KeepBut.set_ | apply keep_drewN | apply keep_drew | apply keep_alloc | refine keep_far ?_ y.out _) | exact HK.out))) : w.heap.size ≤ B)) ((Nat.le_trans b0.out (by rw [hg]; exact (keep_size (w := w) (g := g) (row := none) (by repeat (first | (with_reducible first | exact HK.out | apply KeepBut.set_ | apply keep_drewN | apply keep_drew | apply keep_alloc | refine keep_far ?_ y.out _) | exact HK.out))) : w.heap.size ≤ B) : m.heap.size ≤ B)) (nl_ hg (bk_ l)) (ng_ hg (bk_ l)) ((by rw [hg]; exact Nat.ne_of_lt (IsS102.lt (show IsS102 m _ g s T U from by repeat (first | (with_reducible first | exact j.out | apply IsS102.alloc | apply IsS102.drewN | apply IsS102.drew | apply IsS102.set_1 | apply IsS102.set_2 | refine IsS102.far ?_ u.out _) | exact j.out))) : g ≠ B)) ((by rw [hg]; exact Nat.ne_of_gt (IsS102.lt (show IsS102 m _ g s T U from by repeat (first | (with_reducible first | exact j.out | apply IsS102.alloc | apply IsS102.drewN | apply IsS102.drew | apply IsS102.set_1 | apply IsS102.set_2 | refine IsS102.far ?_ u.out _) | exact j.out))) : B ≠ g)) ?_; clear j l HK HB hb hbox hg; intro j l HK HB z J X b3 b4 E a3; have e5 := b4.out; have f1 := b3.out; have e6 := a3.out; have f2 := E.out; have d9 := cf2_ z) | ((with_reducible refine gate_callee (f := 77) rfl ?_); refine goesL_ (some 10) rfl rfl Try.func77 (by kernel_rfl) rfl #[.pointer (some ⟨g, 0, none⟩), iv_ 6] rfl mp_ ?_; (with_reducible refine (spec_l1Once.calls g s T U 6 false a1 a2 m _ ?side1 ?side2 A4.out).mono ?_); (case side1 => repeat (first | (with_reducible first | exact j.out | apply IsS102.alloc | apply IsS102.drewN | apply IsS102.drew | apply IsS102.set_1 | apply IsS102.set_2 | refine IsS102.far ?_ u.out _ | refine IsS102.far ?_ E.out _) | exact j.out)); (case side2 => repeat (first | (with_reducible first | exact HB.out | apply below_alloc | apply pw_below_drewN | apply below_drew1 | refine below_set ?_ (IsS102.ge j.out) | refine below_set ?_ D.out | refine below_set ?_ X.out) | exact HB.out)); rintro e g4 ⟨rfl, hi, hb, hk⟩; refine ⟨_, rfl, sh5_ (KeepBut.blk hk (g' := x) (o := .cells #[iv_ 0, iv_ 0] 35 (0, 0)) (bp_ l) G.out (by simp)) (KeepBut.blk hk (g' := B) (o := .cells #[iv_ I, iv_ a0] 35 (0, 0)) (bp_ z) a3.out (by simp)) (KeepBut.trans (by repeat (first | (with_reducible first | exact HK.out | apply KeepBut.set_ | apply keep_drewN | apply keep_drew | apply keep_alloc | refine keep_far ?_ y.out _ | refine keep_far ?_ J.out _) | exact HK.out)) hk (.inl rfl)) hb hi ?_⟩; clear l z HK HB j hb hk hi; intro l z HK HB j; have e0 := cf2_ z; have e7 := G.out; have f3 := u.out; have e1 := cf2_ l))
  refine bodyPost_ret (results_cell_row rfl _ _ x 35 #[iv_ I, iv_ a0] (0, 0) _ rfl (bp_ l) Try.underlying35 rfl (by kernel_rfl)) rfl ?_
  exact ⟨by first | (rw [hRT_.out]; rfl) | exact er_, by repeat (first | (with_reducible first | exact j.out | apply IsS102.alloc | apply IsS102.drewN | apply IsS102.drew | apply IsS102.set_1 | apply IsS102.set_2 | refine IsS102.far ?_ u.out _ | refine IsS102.far ?_ E.out _) | exact j.out), by repeat (first | (with_reducible first | exact HB.out | apply below_alloc | apply pw_below_drewN | apply below_drew1 | refine below_set ?_ (IsS102.ge j.out) | refine below_set ?_ D.out | refine below_set ?_ X.out) | exact HB.out), by repeat (first | (with_reducible first | exact HK.out | apply KeepBut.set_ | apply keep_drewN | apply keep_drew | apply keep_alloc | refine keep_far ?_ y.out _ | refine keep_far ?_ J.out _) | exact HK.out)⟩

/-! ### spec_DrawMayDisturb: function 32 -/
def spec_DrawMayDisturb.f (k : Nat) (B : List Int) : Option (Int × List S72 × List S74 × Int × Int × Int × Int × Int × List S88 × Int × Int × Int) := (spec_l1New.f k B).bind fun l => ((spec_l10Sky.f k l.1 l.2.1 l.2.2).bind fun j => ((spec_l1Once.f l.1 j.2.2.2.2.2.2.2.2.2.2.1 j.2.2.2.2.2.2.2.2.2.2.2 6).bind fun m => (if m.1 = true then ((spec_l5Arc.f l.1 m.2.1 m.2.2).bind fun s => (if j.2.2.2.2.2.2.2.2.1.length < 5864062014805 then ((spec_l1Below.f l.1 s.2.2.1 s.2.2.2 10).bind fun u => ((spec_l4Raw.f l.1 u.2.1 u.2.2).bind fun y => (some (j.1, j.2.1, j.2.2.1, j.2.2.2.1, j.2.2.2.2.1, j.2.2.2.2.2.1, j.2.2.2.2.2.2.1, j.2.2.2.2.2.2.2.1, (j.2.2.2.2.2.2.2.2.1 ++ [(⟨0, (⟨s.1, s.2.1⟩ : S35)⟩ : S88)]), j.2.2.2.2.2.2.2.2.2.1, wrap64 (u.1 - 1), y.1)))) else (none))) else ((spec_l1Below.f l.1 m.2.1 m.2.2 10).bind fun x => ((spec_l4Raw.f l.1 x.2.1 x.2.2).bind fun z => (some (j.1, j.2.1, j.2.2.1, j.2.2.2.1, j.2.2.2.2.1, j.2.2.2.2.2.1, j.2.2.2.2.2.2.1, j.2.2.2.2.2.2.2.1, j.2.2.2.2.2.2.2.2.1, j.2.2.2.2.2.2.2.2.2.1, wrap64 (x.1 - 1), z.1)))))))
def spec_DrawMayDisturb.T4 : Bool × List (List Nat × List Nat) := (true, [([], []), ([0], [0]), ([], []), ([2], [2]), ([3], [3]), ([4], [4]), ([1, 5, 3], [1, 5]), ([0, 1, 2, 3, 4, 5, 6], []), ([7, 6, 6, 0, 1, 2, 3, 4, 5, 6], [6, 7])])
def spec_DrawMayDisturb.B4 : List Nat := [0, 1, 0, 4, 12, 28, 63, 127, 255]
theorem spec_DrawMayDisturb.tab4 : rtab .any (opsOf Try.f32 4) = spec_DrawMayDisturb.T4 := by kernel_rfl
theorem spec_DrawMayDisturb.bits4 : waitsOk spec_DrawMayDisturb.T4.2 spec_DrawMayDisturb.B4 = true := by kernel_rfl
theorem spec_DrawMayDisturb.calls (k : Nat) (A0 : Option Addr) (c0 : Nat) (l0 : List Int) (r1 : Int) (r2 : List S72) (r3 : List S74) (r4 r5 r6 r7 r8 : Int) (r9 : List S88) (e7 e8 e9 : Int) (w : World) (h8 : Kd.C (Kd.int .u8) w A0 l0.length l0) (h7 : l0.length ≤ c0) (h : spec_DrawMayDisturb.f k l0 = some (r1, r2, r3, r4, r5, r6, r7, r8, r9, e7, e8, e9)) :
  Calls Try.prog 32 #[.slice A0 l0.length c0] w fun e w' => ∃ h9 i0 i1 : Value, e = .returned (.tuple #[.agg #[iv_ r1, h9, i0, iv_ r4, iv_ r5, iv_ r6, iv_ r7, iv_ r8, i1, iv_ e7], iv_ e8, iv_ e9]) ∧ Kd.R k72 72 w' w.heap.size (fun _ => True) h9 r2 ∧ Kd.R k74 74 w' w.heap.size (fun _ => True) i0 r3 ∧ Kd.R k88 88 w' w.heap.size (fun _ => True) i1 r9 ∧ Below w.heap.size w w' := by
 have y2 := Try.underlying28
 have y3 := Try.underlying88
 have h5 := Aside0.mk h8
 have h4 := Aside0.mk h7
 clear h8 h7
 have HB := Aside0.mk (Below.refl w.heap.size w)
 have H := h
 clear h
 unfold spec_DrawMayDisturb.f at H
 replace H := bs_ H
 obtain ⟨⟨D, g7, g8⟩, A2, H⟩ := H
 dsimp only at H
 replace H := bs_ H
 obtain ⟨⟨J, L, M, O, T, U, X, Y, a1, Z, a7, a8⟩, A3, H⟩ := H
 dsimp only at H
 replace H := bs_ H
 obtain ⟨⟨k9, b1, b2⟩, A4, H⟩ := H
 dsimp only at H
 by_cases c5 : k9 = true
 ·subst c5
  have H1 : ((spec_l5Arc.f D b1 b2).bind fun g5 => (if a1.length < 5864062014805 then ((spec_l1Below.f D g5.2.2.1 g5.2.2.2 10).bind fun d9 => ((spec_l4Raw.f D d9.2.1 d9.2.2).bind fun g9 => (some (J, L, M, O, T, U, X, Y, (a1 ++ [(⟨0, (⟨g5.1, g5.2.1⟩ : S35)⟩ : S88)]), Z, wrap64 (d9.1 - 1), g9.1)))) else (none))) = some (r1, r2, r3, r4, r5, r6, r7, r8, r9, e7, e8, e9) := by rw [if_pos rfl] at H; exact H
  clear H
  have H := H1
  clear H1
  replace H := bs_ H
  obtain ⟨⟨f8, f9, e0, e1⟩, A6, H⟩ := H
  dsimp only at H
  replace H := ifn_ H
  obtain ⟨c7, H⟩ := H
  have i8 := Aside0.mk c7
  clear c7
  replace H : ∃ y_ : List S88, Aside0 (y_ = (a1 ++ [(⟨0, (⟨f8, f9⟩ : S35)⟩ : S88)])) ∧ ((spec_l1Below.f D e0 e1 10).bind fun d9 => ((spec_l4Raw.f D d9.2.1 d9.2.2).bind fun g9 => (some (J, L, M, O, T, U, X, Y, y_, Z, wrap64 (d9.1 - 1), g9.1)))) = some (r1, r2, r3, r4, r5, r6, r7, r8, r9, e7, e8, e9) := ⟨_, ⟨rfl⟩, yh_ H⟩
  obtain ⟨d4, i9, H⟩ := H
  replace H := bs_ H
  obtain ⟨⟨l1, g0, g1⟩, A8, H⟩ := H
  dsimp only at H
  replace H := bs_ H
  obtain ⟨⟨l2, l3, l4⟩, A9, H⟩ := H
  dsimp only at H
  simp only [Option.some.injEq, Prod.mk.injEq] at H
  obtain ⟨rfl, rfl, rfl, rfl, rfl, rfl, rfl, rfl, rfl, rfl, rfl, rfl⟩ := H
  go_enter Try.func32, Try.ntmps32
  try go_wp2_with (first | ((with_reducible refine gd_ 2 ?_); refine bx_ 2 28 #[iv_ 0, .slice none 0 0, .slice none 0 0, iv_ 0, iv_ 0, iv_ 0, iv_ 0, iv_ 0, .slice none 0 0, iv_ 0] ?_; intro j hg y5 hbox hb; refine sh3_ (below_step (bl_ HB) hb) hbox (ge_ hg (bl_ HB)) ?_; clear HB hb hbox hg; intro HB s a0) | ((with_reducible refine gate_callee (f := 49) rfl ?_); refine goesL_ (some 9) rfl rfl Try.func49 (by kernel_rfl) rfl #[.slice A0 l0.length c0] rfl mp_ ?_; (with_reducible refine (spec_l1New.calls k _ _ l0 D g7 g8 w _ ?side1 ?side2 ?side3 A2.out).mono ?_); (case side1 => repeat (first | (with_reducible first | exact HB.out | apply below_alloc | apply pw_below_drewN | apply below_drew1 | refine below_set ?_ a0.out) | exact HB.out)); (case side2 => exact h5.out); (case side3 => exact h4.out); rintro e y6 ⟨y, rfl, hi, hb, d7⟩; refine ⟨_, rfl, sh5_ (blk_below (bk_ s) d7) hb hi (IsS102.ne_blk hi (blk_below (bk_ s) d7) (by decide)) (Ne.symm (IsS102.ne_blk hi (blk_below (bk_ s) d7) (by decide))) ?_⟩; clear s HB hb d7 hi; intro s HB m G c1) | ((with_reducible refine gate_callee (f := 76) rfl ?_); refine goesL_ (some 11) rfl rfl Try.func76 (by kernel_rfl) rfl #[.pointer (some ⟨y, 0, none⟩)] rfl mp_ ?_; (with_reducible refine (spec_l10Sky.calls k y D g7 g8 J L M O T U X Y a1 Z a7 a8 w _ ?side1 ?side2 A3.out).mono ?_); (case side1 => repeat (first | (with_reducible first | exact m.out | apply IsS102.alloc | apply IsS102.drewN | apply IsS102.drew | apply IsS102.set_1 | apply IsS102.set_2 | refine IsS102.far ?_ G.out _) | exact m.out)); (case side2 => repeat (first | (with_reducible first | exact HB.out | apply below_alloc | apply pw_below_drewN | apply below_drew1 | refine below_set ?_ (IsS102.ge m.out) | refine below_set ?_ a0.out) | exact HB.out)); rintro e y7 ⟨l9, m0, m1, rfl, e3, e4, e5, hi, hb, hk⟩; refine ⟨_, rfl, sh6_ (KeepBut.blk hk (g' := j) (o := .cells #[iv_ 0, .slice none 0 0, .slice none 0 0, iv_ 0, iv_ 0, iv_ 0, iv_ 0, iv_ 0, .slice none 0 0, iv_ 0] 28 (0, 0)) (bk_ s) c1.out (by simp)) (Kd.R_lower e3 (below_size (by repeat (first | (with_reducible first | exact HB.out | apply below_alloc | apply pw_below_drewN | apply below_drew1 | refine below_set ?_ (IsS102.ge m.out) | refine below_set ?_ a0.out) | exact HB.out)))) (Kd.R_lower e4 (below_size (by repeat (first | (with_reducible first | exact HB.out | apply below_alloc | apply pw_below_drewN | apply below_drew1 | refine below_set ?_ (IsS102.ge m.out) | refine below_set ?_ a0.out) | exact HB.out)))) (Kd.R_lower e5 (below_size (by repeat (first | (with_reducible first | exact HB.out | apply below_alloc | apply pw_below_drewN | apply below_drew1 | refine below_set ?_ (IsS102.ge m.out) | refine below_set ?_ a0.out) | exact HB.out)))) hb hi ?_⟩; clear s HB m hb hk hi e3 e4 e5; intro s z B E HB m) | ((with_reducible refine gd_ 6 ?_); refine bx_ 6 28 #[iv_ 0, .slice none 0 0, .slice none 0 0, iv_ 0, iv_ 0, iv_ 0, iv_ 0, iv_ 0, .slice none 0 0, iv_ 0] ?_; intro u hg y8 hbox hb; refine sh13_ (Kd.R_below (ra_ z) hb) (Kd.R_below (ra_ B) hb) (Kd.R_below (ra_ E) hb) (blk_below (bk_ s) hb) (IsS102.below (by repeat (first | (with_reducible first | exact m.out | apply IsS102.alloc | apply IsS102.drewN | apply IsS102.drew | apply IsS102.set_1 | apply IsS102.set_2 | refine IsS102.far ?_ G.out _) | exact m.out)) hb) (below_step (by repeat (first | (with_reducible first | exact HB.out | apply below_alloc | apply pw_below_drewN | apply below_drew1 | refine below_set ?_ (IsS102.ge m.out) | refine below_set ?_ a0.out) | exact HB.out)) hb) hbox (ge_ hg (by repeat (first | (with_reducible first | exact HB.out | apply below_alloc | apply pw_below_drewN | apply below_drew1 | refine below_set ?_ (IsS102.ge m.out) | refine below_set ?_ a0.out) | exact HB.out))) (ge_ hg (by repeat (first | (with_reducible first | exact HB.out | apply below_alloc | apply pw_below_drewN | apply below_drew1 | refine below_set ?_ (IsS102.ge m.out) | refine below_set ?_ a0.out) | exact HB.out))) (nl_ hg (bk_ s)) (ng_ hg (bk_ s)) ((by rw [hg]; exact Nat.ne_of_lt (IsS102.lt (show IsS102 w _ y D a7 a8 from by repeat (first | (with_reducible first | exact m.out | apply IsS102.alloc | apply IsS102.drewN | apply IsS102.drew | apply IsS102.set_1 | apply IsS102.set_2 | refine IsS102.far ?_ G.out _) | exact m.out))) : y ≠ u)) ((by rw [hg]; exact Nat.ne_of_gt (IsS102.lt (show IsS102 w _ y D a7 a8 from by repeat (first | (with_reducible first | exact m.out | apply IsS102.alloc | apply IsS102.drewN | apply IsS102.drew | apply IsS102.set_1 | apply IsS102.set_2 | refine IsS102.far ?_ G.out _) | exact m.out))) : u ≠ y)) ?_; clear z B E s m HB hb hbox hg; intro z B E s m HB x i7 a9 a2 l I d0; have r0 := l.out; have t3 := a2.out; have t0 := d0.out; have t4 := I.out; have m6 := cf10_ x; obtain ⟨a3, a5, j1⟩ := Kd.R_slice z.out; subst j1; obtain ⟨a4, a6, j2⟩ := Kd.R_slice B.out; subst j2; obtain ⟨d5, d6, j3⟩ := Kd.R_slice E.out; subst j3) | ((with_reducible refine gate_callee (f := 77) rfl ?_); refine goesL_ (some 13) rfl rfl Try.func77 (by kernel_rfl) rfl #[.pointer (some ⟨y, 0, none⟩), iv_ 6] rfl mp_ ?_; (with_reducible refine (spec_l1Once.calls y D a7 a8 6 true b1 b2 w _ ?side1 ?side2 A4.out).mono ?_); (case side1 => repeat (first | (with_reducible first | exact m.out | apply IsS102.alloc | apply IsS102.drewN | apply IsS102.drew | apply IsS102.set_1 | apply IsS102.set_2 | refine IsS102.far ?_ G.out _ | refine IsS102.far ?_ I.out _) | exact m.out)); (case side2 => repeat (first | (with_reducible first | exact HB.out | apply below_alloc | apply pw_below_drewN | apply below_drew1 | refine below_set ?_ (IsS102.ge m.out) | refine below_set ?_ a0.out | refine below_set ?_ a9.out) | exact HB.out)); rintro e m2 ⟨rfl, hi, hb, hk⟩; refine ⟨_, rfl, sh7_ (KeepBut.blk hk (g' := j) (o := .cells #[iv_ 0, .slice none 0 0, .slice none 0 0, iv_ 0, iv_ 0, iv_ 0, iv_ 0, iv_ 0, .slice none 0 0, iv_ 0] 28 (0, 0)) (bp_ s) c1.out (by simp)) (Kd.R_mono (Kd.R_keep (IsS102.apart (show IsS102 w _ y D a7 a8 from by repeat (first | (with_reducible first | exact m.out | apply IsS102.alloc | apply IsS102.drewN | apply IsS102.drew | apply IsS102.set_1 | apply IsS102.set_2 | refine IsS102.far ?_ G.out _ | refine IsS102.far ?_ I.out _) | exact m.out)) (by (with_reducible repeat (first | apply Kd.R_alloc | apply Kd.R_drewN | apply Kd.R_drew)); exact (Kd.R_mono (Kd.R_far (p := ⟨u, 9, none⟩) (Kd.R_far (p := ⟨u, 8, none⟩) (Kd.R_far (p := ⟨u, 7, none⟩) (Kd.R_far (p := ⟨u, 6, none⟩) (Kd.R_far (p := ⟨u, 5, none⟩) (Kd.R_far (p := ⟨u, 4, none⟩) (Kd.R_far (p := ⟨u, 3, none⟩) (Kd.R_far (p := ⟨u, 2, none⟩) (Kd.R_far (p := ⟨u, 1, none⟩) (Kd.R_far (p := ⟨u, 0, none⟩) (Kd.R_types z.out x.out (by decide)) (fun _ hk => hk.2) (iv_ J)) (fun _ hk => hk.2) (.slice a3 L.length a5)) (fun _ hk => hk.2) (.slice a4 M.length a6)) (fun _ hk => hk.2) (iv_ O)) (fun _ hk => hk.2) (iv_ T)) (fun _ hk => hk.2) (iv_ U)) (fun _ hk => hk.2) (iv_ X)) (fun _ hk => hk.2) (iv_ Y)) (fun _ hk => hk.2) (.slice d5 a1.length d6)) (fun _ hk => hk.2) (iv_ Z)) (fun _ h_ => h_.1))) (by decide)) hk (fun _ h => h.2)) (fun _ h => h.1)) (Kd.R_mono (Kd.R_keep (IsS102.apart (show IsS102 w _ y D a7 a8 from by repeat (first | (with_reducible first | exact m.out | apply IsS102.alloc | apply IsS102.drewN | apply IsS102.drew | apply IsS102.set_1 | apply IsS102.set_2 | refine IsS102.far ?_ G.out _ | refine IsS102.far ?_ I.out _) | exact m.out)) (by (with_reducible repeat (first | apply Kd.R_alloc | apply Kd.R_drewN | apply Kd.R_drew)); exact (Kd.R_mono (Kd.R_far (p := ⟨u, 9, none⟩) (Kd.R_far (p := ⟨u, 8, none⟩) (Kd.R_far (p := ⟨u, 7, none⟩) (Kd.R_far (p := ⟨u, 6, none⟩) (Kd.R_far (p := ⟨u, 5, none⟩) (Kd.R_far (p := ⟨u, 4, none⟩) (Kd.R_far (p := ⟨u, 3, none⟩) (Kd.R_far (p := ⟨u, 2, none⟩) (Kd.R_far (p := ⟨u, 1, none⟩) (Kd.R_far (p := ⟨u, 0, none⟩) (Kd.R_types B.out x.out (by decide)) (fun _ hk => hk.2) (iv_ J)) (fun _ hk => hk.2) (.slice a3 L.length a5)) (fun _ hk => hk.2) (.slice a4 M.length a6)) (fun _ hk => hk.2) (iv_ O)) (fun _ hk => hk.2) (iv_ T)) (fun _ hk => hk.2) (iv_ U)) (fun _ hk => hk.2) (iv_ X)) (fun _ hk => hk.2) (iv_ Y)) (fun _ hk => hk.2) (.slice d5 a1.length d6)) (fun _ hk => hk.2) (iv_ Z)) (fun _ h_ => h_.1))) (by decide)) hk (fun _ h => h.2)) (fun _ h => h.1)) (Kd.R_mono (Kd.R_keep (IsS102.apart (show IsS102 w _ y D a7 a8 from by repeat (first | (with_reducible first | exact m.out | apply IsS102.alloc | apply IsS102.drewN | apply IsS102.drew | apply IsS102.set_1 | apply IsS102.set_2 | refine IsS102.far ?_ G.out _ | refine IsS102.far ?_ I.out _) | exact m.out)) (by (with_reducible repeat (first | apply Kd.R_alloc | apply Kd.R_drewN | apply Kd.R_drew)); exact (Kd.R_mono (Kd.R_far (p := ⟨u, 9, none⟩) (Kd.R_far (p := ⟨u, 8, none⟩) (Kd.R_far (p := ⟨u, 7, none⟩) (Kd.R_far (p := ⟨u, 6, none⟩) (Kd.R_far (p := ⟨u, 5, none⟩) (Kd.R_far (p := ⟨u, 4, none⟩) (Kd.R_far (p := ⟨u, 3, none⟩) (Kd.R_far (p := ⟨u, 2, none⟩) (Kd.R_far (p := ⟨u, 1, none⟩) (Kd.R_far (p := ⟨u, 0, none⟩) (Kd.R_types E.out x.out (by decide)) (fun _ hk => hk.2) (iv_ J)) (fun _ hk => hk.2) (.slice a3 L.length a5)) (fun _ hk => hk.2) (.slice a4 M.length a6)) (fun _ hk => hk.2) (iv_ O)) (fun _ hk => hk.2) (iv_ T)) (fun _ hk => hk.2) (iv_ U)) (fun _ hk => hk.2) (iv_ X)) (fun _ hk => hk.2) (iv_ Y)) (fun _ hk => hk.2) (.slice d5 a1.length d6)) (fun _ hk => hk.2) (iv_ Z)) (fun _ h_ => h_.1))) (by decide)) hk (fun _ h => h.2)) (fun _ h => h.1)) (KeepBut.blk hk (g' := u) (o := .cells #[iv_ J, .slice a3 L.length a5, .slice a4 M.length a6, iv_ O, iv_ T, iv_ U, iv_ X, iv_ Y, .slice d5 a1.length d6, iv_ Z] 28 (0, 0)) (bp_ x) d0.out (by simp)) hb hi ?_⟩; clear s z B E x HB m hb hk hi; intro s z B E x HB m))
  refine sh7_ (Kd.R_drew z.out) (Kd.R_drew B.out) (Kd.R_drew E.out) (blk_drew s.out) (blk_drew x.out) (IsS102.drew m.out) (below_drew1 HB.out) ?_
  clear z B E s x m HB
  intro z B E s x m HB
  refine start_ (n := 9) (S := fun w' => Cz10 w' u (iv_ J) (.slice a3 L.length a5) (.slice a4 M.length a6) (iv_ O) (iv_ T) (iv_ U) (iv_ X) (iv_ Y) (.slice d5 a1.length d6) (iv_ Z)) (ds := [8]) (bo_ 9 0) (by kernel_rfl) rfl rfl (cz10_ x) (fun hHeld => ?_); refine with_tabW spec_DrawMayDisturb.tab4 spec_DrawMayDisturb.bits4 (fun HT_ HW_ => ?_)
  generalize m2.drew = y9 at z B E s x m HB hHeld ⊢
  refine pur_ 0 (bo_ 9 1) (some 14) HT_ ?_
  refine pur_ 2 (bo_ 9 5) (some 16) HT_ ?_
  refine tak_ 1 (bo_ 9 7) (some 15) HT_ HW_ hHeld ?_
  refine one_ (i := 3) (N := some 17) (bo_ 9 15) rfl rfl (one_of HT_.out (by kernel_rfl)) (by decide) (fun K hK => ?_)
  refine goes_ Try.func78 (by kernel_rfl) rfl #[.pointer (some ⟨y, 0, none⟩)] (by rfl) rfl rfl mp_ ?_
  with_reducible refine (spec_l5Arc.calls y D b1 b2 f8 f9 e0 e1 w _ ?side1 ?side2 A6.out).mono ?_
  (case side1 => repeat (first | (with_reducible first | exact m.out | apply IsS102.alloc | apply IsS102.drewN | apply IsS102.drew | apply IsS102.set_1 | apply IsS102.set_2 | refine IsS102.far ?_ G.out _ | refine IsS102.far ?_ I.out _) | exact m.out))
  (case side2 => repeat (first | (with_reducible first | exact HB.out | apply below_alloc | apply pw_below_drewN | apply below_drew1 | refine below_set ?_ (IsS102.ge m.out) | refine below_set ?_ a0.out | refine below_set ?_ a9.out) | exact HB.out))
  rintro e z0 ⟨rfl, hi, hb, hk⟩
  refine ⟨_, rfl, sh7_ (KeepBut.blk hk (g' := j) (o := .cells #[iv_ 0, .slice none 0 0, .slice none 0 0, iv_ 0, iv_ 0, iv_ 0, iv_ 0, iv_ 0, .slice none 0 0, iv_ 0] 28 (0, 0)) (bk_ s) c1.out (by simp)) (Kd.R_mono (Kd.R_keep (IsS102.apart (show IsS102 w _ y D b1 b2 from by repeat (first | (with_reducible first | exact m.out | apply IsS102.alloc | apply IsS102.drewN | apply IsS102.drew | apply IsS102.set_1 | apply IsS102.set_2 | refine IsS102.far ?_ G.out _ | refine IsS102.far ?_ I.out _) | exact m.out)) (ra_ z) (by decide)) hk (fun _ h => h.2)) (fun _ h => h.1)) (Kd.R_mono (Kd.R_keep (IsS102.apart (show IsS102 w _ y D b1 b2 from by repeat (first | (with_reducible first | exact m.out | apply IsS102.alloc | apply IsS102.drewN | apply IsS102.drew | apply IsS102.set_1 | apply IsS102.set_2 | refine IsS102.far ?_ G.out _ | refine IsS102.far ?_ I.out _) | exact m.out)) (ra_ B) (by decide)) hk (fun _ h => h.2)) (fun _ h => h.1)) (Kd.R_mono (Kd.R_keep (IsS102.apart (show IsS102 w _ y D b1 b2 from by repeat (first | (with_reducible first | exact m.out | apply IsS102.alloc | apply IsS102.drewN | apply IsS102.drew | apply IsS102.set_1 | apply IsS102.set_2 | refine IsS102.far ?_ G.out _ | refine IsS102.far ?_ I.out _) | exact m.out)) (ra_ E) (by decide)) hk (fun _ h => h.2)) (fun _ h => h.1)) (KeepBut.blk hk (g' := u) (o := .cells #[iv_ J, .slice a3 L.length a5, .slice a4 M.length a6, iv_ O, iv_ T, iv_ U, iv_ X, iv_ Y, .slice d5 a1.length d6, iv_ Z] 28 (0, 0)) (bk_ x) d0.out (by simp)) hb hi ?_⟩
  clear s z B E x HB m hb hk hi
  intro s z B E x HB m
  refine hK.out _ _ (cz10_ x) (fun hHeld => ?_)
  clear hK K
  refine norm_ (show Act.put _ (some 17) _ = _ from pt_) ?_
  refine pur_ 4 (bo_ 9 31) (some 18) HT_ ?_
  refine one_ (i := 5) (N := some 19) (bo_ 9 63) rfl rfl (one_of HT_.out (by kernel_rfl)) (by decide) (fun K hK => ?_)
  refine value_ (w1 := ?_) (v := ?_) (by rfl) rfl ?_ ?_
  rotate_left 2
  ·go_simp
   constructor
   ·rfl
   ·rfl
  refine hK.out _ _ ⟨(blk_cell (blk_alloc x.out _) 0).trans rfl, (blk_cell (blk_alloc x.out _) 1).trans rfl, (blk_cell (blk_alloc x.out _) 2).trans rfl, (blk_cell (blk_alloc x.out _) 3).trans rfl, (blk_cell (blk_alloc x.out _) 4).trans rfl, (blk_cell (blk_alloc x.out _) 5).trans rfl, (blk_cell (blk_alloc x.out _) 6).trans rfl, (blk_cell (blk_alloc x.out _) 7).trans rfl, (blk_cell (blk_alloc x.out _) 8).trans rfl, (blk_cell (blk_alloc x.out _) 9).trans rfl⟩ (fun hHeld => ?_)
  clear hK K
  refine norm_ (show Act.put _ (some 19) _ = _ from pt_) ?_
  refine one_ (i := 6) (N := some 20) (bo_ 9 127) rfl rfl (one_of HT_.out (by kernel_rfl)) (by decide) (fun K hK => ?_)
  refine Kd.R_append_step k88 (w0 := w) w.heap.size (by rfl) (.tmp 15) (.tmp 19) 26 88 (.agg #[(iv_ 0), (iv_ 0), (iv_ 0)]) 24 rfl Try.underlying26 info88 rfl (by decide) (by omega) (.slice d5 a1.length d6) a1 (⟨0, (⟨f8, f9⟩ : S35)⟩ : S88) [iv_ 0, iv_ f8, iv_ f9] (fun _ => True) (fun _ => False) rfl rfl ?aP (fun _ hk => hk.elim) ?aF ?aO ?aB ?aS ?aL ?_
  (case aP => exact k88_mkM _ _ _ (⟨0, (⟨f8, f9⟩ : S35)⟩ : S88))
  (case aB => exact (by repeat (first | (with_reducible first | exact HB.out | apply below_alloc | apply pw_below_drewN | apply below_drew1 | refine below_set ?_ (IsS102.ge m.out) | refine below_set ?_ a0.out | refine below_set ?_ a9.out) | exact HB.out)))
  (case aF => exact (fun _ _ => trivial))
  (case aO => exact (ra_ E))
  (case aS => exact (below_size (by repeat (first | (with_reducible first | exact HB.out | apply below_alloc | apply pw_below_drewN | apply below_drew1 | refine below_set ?_ (IsS102.ge m.out) | refine below_set ?_ a0.out | refine below_set ?_ a9.out) | exact HB.out))))
  (case aL => have := i8.out; omega)
  intro y4 m3 ho hb hg hat
  rw [← i9.out] at ho
  refine sh7_ (blk_grown (g := j) (o := .cells #[iv_ 0, .slice none 0 0, .slice none 0 0, iv_ 0, iv_ 0, iv_ 0, iv_ 0, iv_ 0, .slice none 0 0, iv_ 0] 28 (0, 0)) (bk_ s) hg (Kd.R_ne E.out s.out (by decide))) (IsS102.grown (by repeat (first | (with_reducible first | exact m.out | apply IsS102.alloc | apply IsS102.drewN | apply IsS102.drew | apply IsS102.set_1 | apply IsS102.set_2 | refine IsS102.far ?_ G.out _ | refine IsS102.far ?_ I.out _) | exact m.out)) hg (IsS102.own_ne m.out E.out (by decide))) (Kd.R_over' (ra_ z) (Kd.R_typed (ra_ E)) (by decide) hg) (Kd.R_over' (ra_ B) (Kd.R_typed (ra_ E)) (by decide) hg) (blk_grown (g := u) (o := .cells #[iv_ J, .slice a3 L.length a5, .slice a4 M.length a6, iv_ O, iv_ T, iv_ U, iv_ X, iv_ Y, .slice d5 a1.length d6, iv_ Z] 28 (0, 0)) (bk_ x) hg (Kd.R_ne E.out x.out (by decide))) hb ho ?_
  clear s m z B x HB E ho hb hg hat
  intro s m z B x HB b0
  obtain ⟨b9, d1, h6⟩ := Kd.R_slice b0.out
  (first | subst h6 | (injection h6 with f1_ f2_ f3_; have j7 := f1_.symm; have j8 := f3_.symm; clear f1_ f2_ f3_; subst j7; subst j8))
  refine hK.out _ _ (cz10_ x) (fun hHeld => ?_)
  clear hK K
  refine norm_ (show Act.put _ (some 20) _ = _ from pt_) ?_
  refine pur_ 7 (bo_ 9 255) (some 21) HT_ ?_
  refine last_ (i := 8) (N := none) (bo_ 9 511) rfl rfl (one_of HT_.out (by kernel_rfl)) (by decide) (fun K hK => ?_)
  have v9 : m3.cell? ⟨u, 8, none⟩ = some (.slice d5 a1.length d6) := bc_ x 8 rfl
  have m8 := bf_ x 8
  have t7 := a2.out
  have o9 := l.out
  refine skip_ (w1 := ?_) (by rfl) rfl ?_ ?_
  rotate_left
  ·go_simp
   rfl
  refine hK.out _ _ ?_
  clear hK K
  refine done_ (done_of HT_.out (by kernel_rfl)) ?_
  try go_wp2_with (first | ((with_reducible refine gate_callee (f := 60) rfl ?_); refine goesL_ (some 23) rfl rfl Try.func60 (by kernel_rfl) rfl #[.pointer (some ⟨y, 0, none⟩), iv_ 10] rfl mp_ ?_; (with_reducible refine (spec_l1Below.calls y D e0 e1 10 l1 g0 g1 w _ ?side1 ?side2 A8.out).mono ?_); (case side1 => repeat (first | (with_reducible first | exact m.out | apply IsS102.alloc | apply IsS102.drewN | apply IsS102.drew | apply IsS102.set_1 | apply IsS102.set_2 | refine IsS102.far ?_ G.out _ | refine IsS102.far ?_ I.out _) | exact m.out)); (case side2 => repeat (first | (with_reducible first | exact HB.out | apply below_alloc | apply pw_below_drewN | apply below_drew1 | refine below_set ?_ (IsS102.ge m.out) | refine below_set ?_ a0.out | refine below_set ?_ a9.out) | exact HB.out)); rintro e m4 ⟨rfl, hi, hb, hk⟩; refine ⟨_, rfl, sh7_ (KeepBut.blk hk (g' := j) (o := .cells #[iv_ 0, .slice none 0 0, .slice none 0 0, iv_ 0, iv_ 0, iv_ 0, iv_ 0, iv_ 0, .slice none 0 0, iv_ 0] 28 (0, 0)) (bp_ s) c1.out (by simp)) (Kd.R_mono (Kd.R_keep (IsS102.apart (show IsS102 w _ y D e0 e1 from by repeat (first | (with_reducible first | exact m.out | apply IsS102.alloc | apply IsS102.drewN | apply IsS102.drew | apply IsS102.set_1 | apply IsS102.set_2 | refine IsS102.far ?_ G.out _ | refine IsS102.far ?_ I.out _) | exact m.out)) (by (with_reducible repeat (first | apply Kd.R_alloc | apply Kd.R_drewN | apply Kd.R_drew)); exact (Kd.R_mono (Kd.R_far (p := ⟨u, 8, none⟩) (Kd.R_types z.out x.out (by decide)) (fun _ hk => hk.2) (.slice b9 d4.length d1)) (fun _ h_ => h_.1))) (by decide)) hk (fun _ h => h.2)) (fun _ h => h.1)) (Kd.R_mono (Kd.R_keep (IsS102.apart (show IsS102 w _ y D e0 e1 from by repeat (first | (with_reducible first | exact m.out | apply IsS102.alloc | apply IsS102.drewN | apply IsS102.drew | apply IsS102.set_1 | apply IsS102.set_2 | refine IsS102.far ?_ G.out _ | refine IsS102.far ?_ I.out _) | exact m.out)) (by (with_reducible repeat (first | apply Kd.R_alloc | apply Kd.R_drewN | apply Kd.R_drew)); exact (Kd.R_mono (Kd.R_far (p := ⟨u, 8, none⟩) (Kd.R_types B.out x.out (by decide)) (fun _ hk => hk.2) (.slice b9 d4.length d1)) (fun _ h_ => h_.1))) (by decide)) hk (fun _ h => h.2)) (fun _ h => h.1)) (KeepBut.blk hk (g' := u) (o := .cells #[iv_ J, .slice a3 L.length a5, .slice a4 M.length a6, iv_ O, iv_ T, iv_ U, iv_ X, iv_ Y, .slice b9 d4.length d1, iv_ Z] 28 (0, 0)) (bp_ x) d0.out (by simp)) (Kd.R_mono (Kd.R_keep (IsS102.apart (show IsS102 w _ y D e0 e1 from by repeat (first | (with_reducible first | exact m.out | apply IsS102.alloc | apply IsS102.drewN | apply IsS102.drew | apply IsS102.set_1 | apply IsS102.set_2 | refine IsS102.far ?_ G.out _ | refine IsS102.far ?_ I.out _) | exact m.out)) (by (with_reducible repeat (first | apply Kd.R_alloc | apply Kd.R_drewN | apply Kd.R_drew)); exact (Kd.R_mono (Kd.R_far (p := ⟨u, 8, none⟩) (Kd.R_types b0.out x.out (by decide)) (fun _ hk => hk.2) (.slice b9 d4.length d1)) (fun _ h_ => h_.1))) (by decide)) hk (fun _ h => h.2)) (fun _ h => h.1)) hb hi ?_⟩; clear s z B x b0 HB m hb hk hi; intro s z B x b0 HB m))
  refine sh7_ (Kd.R_drew z.out) (Kd.R_drew B.out) (Kd.R_drew b0.out) (blk_drew s.out) (blk_drew x.out) (IsS102.drew m.out) (below_drew1 HB.out) ?_
  clear z B b0 s x m HB
  intro z B b0 s x m HB
  refine start_ (n := 7) (S := fun w' => Cz10 w' u (iv_ J) (.slice a3 L.length a5) (.slice a4 M.length a6) (iv_ O) (iv_ T) (iv_ U) (iv_ X) (iv_ Y) (.slice b9 d4.length d1) (iv_ Z)) (ds := []) (bo_ 7 0) (by kernel_rfl) rfl rfl (cz10_ x) (fun hHeld => ?_)
  generalize m4.drew = z1 at z B b0 s x m HB hHeld ⊢
  refine pu0_ 1 (bo_ 7 2) (some 26) ?_
  refine pu0_ 2 (bo_ 7 6) (some 27) ?_
  refine take_ (i := 0) (N := some 25) (v := ?_) (a' := ?_) (bo_ 7 7) rfl rfl (by kernel_rfl) (fun _ _ _ h => h) (Or.inl ⟨by rfl, ?_⟩) hHeld ?_ ?_
  rotate_left
  ·rintro w' ⟨s0, s1, s2, s3, s4, s5, s6, s7, s8, s9⟩
   go_simp
   with_reducible rfl
  rotate_left
  ·simp only [Act.put, List.setIfInBounds_toArray, List.set_cons_zero, List.set_cons_succ, i64_w, i32_w]
   rfl
  refine one_ (i := 3) (N := some 28) (bo_ 7 15) rfl rfl (by kernel_rfl) (by decide) (fun K hK => ?_)
  refine goes_ Try.func50 (by kernel_rfl) rfl #[.pointer (some ⟨y, 0, none⟩)] (by rfl) rfl rfl mp_ ?_
  with_reducible refine (spec_l4Raw.calls y D g0 g1 l2 l3 l4 w _ ?side1 ?side2 A9.out).mono ?_
  (case side1 => repeat (first | (with_reducible first | exact m.out | apply IsS102.alloc | apply IsS102.drewN | apply IsS102.drew | apply IsS102.set_1 | apply IsS102.set_2 | refine IsS102.far ?_ G.out _ | refine IsS102.far ?_ I.out _) | exact m.out))
  (case side2 => repeat (first | (with_reducible first | exact HB.out | apply below_alloc | apply pw_below_drewN | apply below_drew1 | refine below_set ?_ (IsS102.ge m.out) | refine below_set ?_ a0.out | refine below_set ?_ a9.out) | exact HB.out))
  rintro e d2 ⟨rfl, hi, hb, hk⟩
  refine ⟨_, rfl, sh7_ (KeepBut.blk hk (g' := j) (o := .cells #[iv_ 0, .slice none 0 0, .slice none 0 0, iv_ 0, iv_ 0, iv_ 0, iv_ 0, iv_ 0, .slice none 0 0, iv_ 0] 28 (0, 0)) (bk_ s) c1.out (by simp)) (Kd.R_mono (Kd.R_keep (IsS102.apart (show IsS102 w _ y D g0 g1 from by repeat (first | (with_reducible first | exact m.out | apply IsS102.alloc | apply IsS102.drewN | apply IsS102.drew | apply IsS102.set_1 | apply IsS102.set_2 | refine IsS102.far ?_ G.out _ | refine IsS102.far ?_ I.out _) | exact m.out)) (ra_ z) (by decide)) hk (fun _ h => h.2)) (fun _ h => h.1)) (Kd.R_mono (Kd.R_keep (IsS102.apart (show IsS102 w _ y D g0 g1 from by repeat (first | (with_reducible first | exact m.out | apply IsS102.alloc | apply IsS102.drewN | apply IsS102.drew | apply IsS102.set_1 | apply IsS102.set_2 | refine IsS102.far ?_ G.out _ | refine IsS102.far ?_ I.out _) | exact m.out)) (ra_ B) (by decide)) hk (fun _ h => h.2)) (fun _ h => h.1)) (KeepBut.blk hk (g' := u) (o := .cells #[iv_ J, .slice a3 L.length a5, .slice a4 M.length a6, iv_ O, iv_ T, iv_ U, iv_ X, iv_ Y, .slice b9 d4.length d1, iv_ Z] 28 (0, 0)) (bk_ x) d0.out (by simp)) (Kd.R_mono (Kd.R_keep (IsS102.apart (show IsS102 w _ y D g0 g1 from by repeat (first | (with_reducible first | exact m.out | apply IsS102.alloc | apply IsS102.drewN | apply IsS102.drew | apply IsS102.set_1 | apply IsS102.set_2 | refine IsS102.far ?_ G.out _ | refine IsS102.far ?_ I.out _) | exact m.out)) (ra_ b0) (by decide)) hk (fun _ h => h.2)) (fun _ h => h.1)) hb hi ?_⟩
  clear s z B x b0 HB m hb hk hi
  intro s z B x b0 HB m
  refine hK.out _ _ (cz10_ x) (fun hHeld => ?_)
  clear hK K
  refine norm_ (show Act.put _ (some 28) _ = _ from pt_) ?_
  refine one_ (i := 4) (N := none) (bo_ 7 31) rfl rfl (by kernel_rfl) (by decide) (fun K hK => ?_)
  have w2 : d2.cell? ⟨j, 0, none⟩ = some (iv_ 0) := bc_ s 0 rfl
  have m9 := bf_ s 0
  have t8 := l.out
  have p0 := a2.out
  have w3 : d2.cell? ⟨j, 1, none⟩ = some (.slice none 0 0) := bc_ s 1 rfl
  have n0 := bf_ s 1
  have t9 := l.out
  have p1 := a2.out
  have w4 : d2.cell? ⟨j, 2, none⟩ = some (.slice none 0 0) := bc_ s 2 rfl
  have n1 := bf_ s 2
  have u0 := l.out
  have p2 := a2.out
  have w5 : d2.cell? ⟨j, 3, none⟩ = some (iv_ 0) := bc_ s 3 rfl
  have n2 := bf_ s 3
  have u1 := l.out
  have p3 := a2.out
  have w6 : d2.cell? ⟨j, 4, none⟩ = some (iv_ 0) := bc_ s 4 rfl
  have n3 := bf_ s 4
  have u2 := l.out
  have p4 := a2.out
  have w7 : d2.cell? ⟨j, 5, none⟩ = some (iv_ 0) := bc_ s 5 rfl
  have n4 := bf_ s 5
  have u3 := l.out
  have p5 := a2.out
  have w8 : d2.cell? ⟨j, 6, none⟩ = some (iv_ 0) := bc_ s 6 rfl
  have n5 := bf_ s 6
  have u4 := l.out
  have p6 := a2.out
  have w9 : d2.cell? ⟨j, 7, none⟩ = some (iv_ 0) := bc_ s 7 rfl
  have n6 := bf_ s 7
  have u5 := l.out
  have p7 := a2.out
  have x0 : d2.cell? ⟨j, 8, none⟩ = some (.slice none 0 0) := bc_ s 8 rfl
  have n7 := bf_ s 8
  have u6 := l.out
  have p8 := a2.out
  have x1 : d2.cell? ⟨j, 9, none⟩ = some (iv_ 0) := bc_ s 9 rfl
  have n8 := bf_ s 9
  have u7 := l.out
  have p9 := a2.out
  refine skip_ (w1 := ?_) (by rfl) rfl ?_ ?_
  rotate_left
  ·go_simp
   rfl
  refine hK.out _ _ ⟨((cell_far (p := ⟨j, _, none⟩) l.out _).trans (((cell_far (p := ⟨j, _, none⟩) l.out _).trans (((cell_far (p := ⟨j, _, none⟩) l.out _).trans (((cell_far (p := ⟨j, _, none⟩) l.out _).trans (((cell_far (p := ⟨j, _, none⟩) l.out _).trans (((cell_far (p := ⟨j, _, none⟩) l.out _).trans (((cell_far (p := ⟨j, _, none⟩) l.out _).trans (((cell_far (p := ⟨j, _, none⟩) l.out _).trans (((cell_far (p := ⟨j, _, none⟩) l.out _).trans (((cell_far (p := ⟨j, _, none⟩) l.out _).trans (hHeld.1)))))))))))))))))))), ((cell_far (p := ⟨j, _, none⟩) l.out _).trans (((cell_far (p := ⟨j, _, none⟩) l.out _).trans (((cell_far (p := ⟨j, _, none⟩) l.out _).trans (((cell_far (p := ⟨j, _, none⟩) l.out _).trans (((cell_far (p := ⟨j, _, none⟩) l.out _).trans (((cell_far (p := ⟨j, _, none⟩) l.out _).trans (((cell_far (p := ⟨j, _, none⟩) l.out _).trans (((cell_far (p := ⟨j, _, none⟩) l.out _).trans (((cell_far (p := ⟨j, _, none⟩) l.out _).trans (((cell_far (p := ⟨j, _, none⟩) l.out _).trans (hHeld.2.1)))))))))))))))))))), ((cell_far (p := ⟨j, _, none⟩) l.out _).trans (((cell_far (p := ⟨j, _, none⟩) l.out _).trans (((cell_far (p := ⟨j, _, none⟩) l.out _).trans (((cell_far (p := ⟨j, _, none⟩) l.out _).trans (((cell_far (p := ⟨j, _, none⟩) l.out _).trans (((cell_far (p := ⟨j, _, none⟩) l.out _).trans (((cell_far (p := ⟨j, _, none⟩) l.out _).trans (((cell_far (p := ⟨j, _, none⟩) l.out _).trans (((cell_far (p := ⟨j, _, none⟩) l.out _).trans (((cell_far (p := ⟨j, _, none⟩) l.out _).trans (hHeld.2.2.1)))))))))))))))))))), ((cell_far (p := ⟨j, _, none⟩) l.out _).trans (((cell_far (p := ⟨j, _, none⟩) l.out _).trans (((cell_far (p := ⟨j, _, none⟩) l.out _).trans (((cell_far (p := ⟨j, _, none⟩) l.out _).trans (((cell_far (p := ⟨j, _, none⟩) l.out _).trans (((cell_far (p := ⟨j, _, none⟩) l.out _).trans (((cell_far (p := ⟨j, _, none⟩) l.out _).trans (((cell_far (p := ⟨j, _, none⟩) l.out _).trans (((cell_far (p := ⟨j, _, none⟩) l.out _).trans (((cell_far (p := ⟨j, _, none⟩) l.out _).trans (hHeld.2.2.2.1)))))))))))))))))))), ((cell_far (p := ⟨j, _, none⟩) l.out _).trans (((cell_far (p := ⟨j, _, none⟩) l.out _).trans (((cell_far (p := ⟨j, _, none⟩) l.out _).trans (((cell_far (p := ⟨j, _, none⟩) l.out _).trans (((cell_far (p := ⟨j, _, none⟩) l.out _).trans (((cell_far (p := ⟨j, _, none⟩) l.out _).trans (((cell_far (p := ⟨j, _, none⟩) l.out _).trans (((cell_far (p := ⟨j, _, none⟩) l.out _).trans (((cell_far (p := ⟨j, _, none⟩) l.out _).trans (((cell_far (p := ⟨j, _, none⟩) l.out _).trans (hHeld.2.2.2.2.1)))))))))))))))))))), ((cell_far (p := ⟨j, _, none⟩) l.out _).trans (((cell_far (p := ⟨j, _, none⟩) l.out _).trans (((cell_far (p := ⟨j, _, none⟩) l.out _).trans (((cell_far (p := ⟨j, _, none⟩) l.out _).trans (((cell_far (p := ⟨j, _, none⟩) l.out _).trans (((cell_far (p := ⟨j, _, none⟩) l.out _).trans (((cell_far (p := ⟨j, _, none⟩) l.out _).trans (((cell_far (p := ⟨j, _, none⟩) l.out _).trans (((cell_far (p := ⟨j, _, none⟩) l.out _).trans (((cell_far (p := ⟨j, _, none⟩) l.out _).trans (hHeld.2.2.2.2.2.1)))))))))))))))))))), ((cell_far (p := ⟨j, _, none⟩) l.out _).trans (((cell_far (p := ⟨j, _, none⟩) l.out _).trans (((cell_far (p := ⟨j, _, none⟩) l.out _).trans (((cell_far (p := ⟨j, _, none⟩) l.out _).trans (((cell_far (p := ⟨j, _, none⟩) l.out _).trans (((cell_far (p := ⟨j, _, none⟩) l.out _).trans (((cell_far (p := ⟨j, _, none⟩) l.out _).trans (((cell_far (p := ⟨j, _, none⟩) l.out _).trans (((cell_far (p := ⟨j, _, none⟩) l.out _).trans (((cell_far (p := ⟨j, _, none⟩) l.out _).trans (hHeld.2.2.2.2.2.2.1)))))))))))))))))))), ((cell_far (p := ⟨j, _, none⟩) l.out _).trans (((cell_far (p := ⟨j, _, none⟩) l.out _).trans (((cell_far (p := ⟨j, _, none⟩) l.out _).trans (((cell_far (p := ⟨j, _, none⟩) l.out _).trans (((cell_far (p := ⟨j, _, none⟩) l.out _).trans (((cell_far (p := ⟨j, _, none⟩) l.out _).trans (((cell_far (p := ⟨j, _, none⟩) l.out _).trans (((cell_far (p := ⟨j, _, none⟩) l.out _).trans (((cell_far (p := ⟨j, _, none⟩) l.out _).trans (((cell_far (p := ⟨j, _, none⟩) l.out _).trans (hHeld.2.2.2.2.2.2.2.1)))))))))))))))))))), ((cell_far (p := ⟨j, _, none⟩) l.out _).trans (((cell_far (p := ⟨j, _, none⟩) l.out _).trans (((cell_far (p := ⟨j, _, none⟩) l.out _).trans (((cell_far (p := ⟨j, _, none⟩) l.out _).trans (((cell_far (p := ⟨j, _, none⟩) l.out _).trans (((cell_far (p := ⟨j, _, none⟩) l.out _).trans (((cell_far (p := ⟨j, _, none⟩) l.out _).trans (((cell_far (p := ⟨j, _, none⟩) l.out _).trans (((cell_far (p := ⟨j, _, none⟩) l.out _).trans (((cell_far (p := ⟨j, _, none⟩) l.out _).trans (hHeld.2.2.2.2.2.2.2.2.1)))))))))))))))))))), ((cell_far (p := ⟨j, _, none⟩) l.out _).trans (((cell_far (p := ⟨j, _, none⟩) l.out _).trans (((cell_far (p := ⟨j, _, none⟩) l.out _).trans (((cell_far (p := ⟨j, _, none⟩) l.out _).trans (((cell_far (p := ⟨j, _, none⟩) l.out _).trans (((cell_far (p := ⟨j, _, none⟩) l.out _).trans (((cell_far (p := ⟨j, _, none⟩) l.out _).trans (((cell_far (p := ⟨j, _, none⟩) l.out _).trans (((cell_far (p := ⟨j, _, none⟩) l.out _).trans (((cell_far (p := ⟨j, _, none⟩) l.out _).trans (hHeld.2.2.2.2.2.2.2.2.2))))))))))))))))))))⟩ (fun hHeld => ?_)
  clear hK K
  refine pu0_ 5 (bo_ 7 63) (some 3) ?_
  refine pu0_ 6 (bo_ 7 127) (some 4) ?_
  refine done_ (by kernel_rfl) ?_
  try go_wp2
  refine bodyPost_ret (results_ctt rfl _ _ j 28 #[iv_ J, .slice a3 L.length a5, .slice a4 M.length a6, iv_ O, iv_ T, iv_ U, iv_ X, iv_ Y, .slice b9 d4.length d1, iv_ Z] (0, 0) _ rfl (bp_ s) Try.underlying28 rfl (by kernel_rfl)) rfl ?_
  exact ⟨_, _, _, by first | (rw [hRT_.out]; rfl) | exact er_, by (with_reducible repeat (first | apply Kd.R_alloc | apply Kd.R_drewN | apply Kd.R_drew)); exact Kd.R_mono (Kd.R_far (p := ⟨j, 9, none⟩) (Kd.R_far (p := ⟨j, 8, none⟩) (Kd.R_far (p := ⟨j, 7, none⟩) (Kd.R_far (p := ⟨j, 6, none⟩) (Kd.R_far (p := ⟨j, 5, none⟩) (Kd.R_far (p := ⟨j, 4, none⟩) (Kd.R_far (p := ⟨j, 3, none⟩) (Kd.R_far (p := ⟨j, 2, none⟩) (Kd.R_far (p := ⟨j, 1, none⟩) (Kd.R_far (p := ⟨j, 0, none⟩) (Kd.R_types z.out s.out (by decide)) (fun _ hk => hk.2) (iv_ J)) (fun _ hk => hk.2) (.slice a3 L.length a5)) (fun _ hk => hk.2) (.slice a4 M.length a6)) (fun _ hk => hk.2) (iv_ O)) (fun _ hk => hk.2) (iv_ T)) (fun _ hk => hk.2) (iv_ U)) (fun _ hk => hk.2) (iv_ X)) (fun _ hk => hk.2) (iv_ Y)) (fun _ hk => hk.2) (.slice b9 d4.length d1)) (fun _ hk => hk.2) (iv_ Z)) (fun _ hk => trivial), by (with_reducible repeat (first | apply Kd.R_alloc | apply Kd.R_drewN | apply Kd.R_drew)); exact Kd.R_mono (Kd.R_far (p := ⟨j, 9, none⟩) (Kd.R_far (p := ⟨j, 8, none⟩) (Kd.R_far (p := ⟨j, 7, none⟩) (Kd.R_far (p := ⟨j, 6, none⟩) (Kd.R_far (p := ⟨j, 5, none⟩) (Kd.R_far (p := ⟨j, 4, none⟩) (Kd.R_far (p := ⟨j, 3, none⟩) (Kd.R_far (p := ⟨j, 2, none⟩) (Kd.R_far (p := ⟨j, 1, none⟩) (Kd.R_far (p := ⟨j, 0, none⟩) (Kd.R_types B.out s.out (by decide)) (fun _ hk => hk.2) (iv_ J)) (fun _ hk => hk.2) (.slice a3 L.length a5)) (fun _ hk => hk.2) (.slice a4 M.length a6)) (fun _ hk => hk.2) (iv_ O)) (fun _ hk => hk.2) (iv_ T)) (fun _ hk => hk.2) (iv_ U)) (fun _ hk => hk.2) (iv_ X)) (fun _ hk => hk.2) (iv_ Y)) (fun _ hk => hk.2) (.slice b9 d4.length d1)) (fun _ hk => hk.2) (iv_ Z)) (fun _ hk => trivial), by (with_reducible repeat (first | apply Kd.R_alloc | apply Kd.R_drewN | apply Kd.R_drew)); exact Kd.R_mono (Kd.R_far (p := ⟨j, 9, none⟩) (Kd.R_far (p := ⟨j, 8, none⟩) (Kd.R_far (p := ⟨j, 7, none⟩) (Kd.R_far (p := ⟨j, 6, none⟩) (Kd.R_far (p := ⟨j, 5, none⟩) (Kd.R_far (p := ⟨j, 4, none⟩) (Kd.R_far (p := ⟨j, 3, none⟩) (Kd.R_far (p := ⟨j, 2, none⟩) (Kd.R_far (p := ⟨j, 1, none⟩) (Kd.R_far (p := ⟨j, 0, none⟩) (Kd.R_types b0.out s.out (by decide)) (fun _ hk => hk.2) (iv_ J)) (fun _ hk => hk.2) (.slice a3 L.length a5)) (fun _ hk => hk.2) (.slice a4 M.length a6)) (fun _ hk => hk.2) (iv_ O)) (fun _ hk => hk.2) (iv_ T)) (fun _ hk => hk.2) (iv_ U)) (fun _ hk => hk.2) (iv_ X)) (fun _ hk => hk.2) (iv_ Y)) (fun _ hk => hk.2) (.slice b9 d4.length d1)) (fun _ hk => hk.2) (iv_ Z)) (fun _ hk => trivial), by repeat (first | (with_reducible first | exact HB.out | apply below_alloc | apply pw_below_drewN | apply below_drew1 | refine below_set ?_ (IsS102.ge m.out) | refine below_set ?_ a0.out | refine below_set ?_ a9.out) | exact HB.out)⟩
 ·replace c5 := Bool.eq_false_iff.mpr c5
  subst c5
  have H1 : ((spec_l1Below.f D b1 b2 10).bind fun h0 => ((spec_l4Raw.f D h0.2.1 h0.2.2).bind fun j0 => (some (J, L, M, O, T, U, X, Y, a1, Z, wrap64 (h0.1 - 1), j0.1)))) = some (r1, r2, r3, r4, r5, r6, r7, r8, r9, e7, e8, e9) := by rw [if_neg (show ¬ (false = true) by decide)] at H; exact H
  clear H
  have H := H1
  clear H1
  replace H := bs_ H
  obtain ⟨⟨l5, g2, g3⟩, i2, H⟩ := H
  dsimp only at H
  replace H := bs_ H
  obtain ⟨⟨l6, l7, l8⟩, i3, H⟩ := H
  dsimp only at H
  simp only [Option.some.injEq, Prod.mk.injEq] at H
  obtain ⟨rfl, rfl, rfl, rfl, rfl, rfl, rfl, rfl, rfl, rfl, rfl, rfl⟩ := H
  go_enter Try.func32, Try.ntmps32
  try go_wp2_with (first | ((with_reducible refine gd_ 2 ?_); refine bx_ 2 28 #[iv_ 0, .slice none 0 0, .slice none 0 0, iv_ 0, iv_ 0, iv_ 0, iv_ 0, iv_ 0, .slice none 0 0, iv_ 0] ?_; intro j hg z2 hbox hb; refine sh3_ (below_step (bl_ HB) hb) hbox (ge_ hg (bl_ HB)) ?_; clear HB hb hbox hg; intro HB s a0) | ((with_reducible refine gate_callee (f := 49) rfl ?_); refine goesL_ (some 9) rfl rfl Try.func49 (by kernel_rfl) rfl #[.slice A0 l0.length c0] rfl mp_ ?_; (with_reducible refine (spec_l1New.calls k _ _ l0 D g7 g8 w _ ?side1 ?side2 ?side3 A2.out).mono ?_); (case side1 => repeat (first | (with_reducible first | exact HB.out | apply below_alloc | apply pw_below_drewN | apply below_drew1 | refine below_set ?_ a0.out) | exact HB.out)); (case side2 => exact h5.out); (case side3 => exact h4.out); rintro e z3 ⟨y, rfl, hi, hb, d7⟩; refine ⟨_, rfl, sh5_ (blk_below (bk_ s) d7) hb hi (IsS102.ne_blk hi (blk_below (bk_ s) d7) (by decide)) (Ne.symm (IsS102.ne_blk hi (blk_below (bk_ s) d7) (by decide))) ?_⟩; clear s HB hb d7 hi; intro s HB m G c1) | ((with_reducible refine gate_callee (f := 76) rfl ?_); refine goesL_ (some 11) rfl rfl Try.func76 (by kernel_rfl) rfl #[.pointer (some ⟨y, 0, none⟩)] rfl mp_ ?_; (with_reducible refine (spec_l10Sky.calls k y D g7 g8 J L M O T U X Y a1 Z a7 a8 w _ ?side1 ?side2 A3.out).mono ?_); (case side1 => repeat (first | (with_reducible first | exact m.out | apply IsS102.alloc | apply IsS102.drewN | apply IsS102.drew | apply IsS102.set_1 | apply IsS102.set_2 | refine IsS102.far ?_ G.out _) | exact m.out)); (case side2 => repeat (first | (with_reducible first | exact HB.out | apply below_alloc | apply pw_below_drewN | apply below_drew1 | refine below_set ?_ (IsS102.ge m.out) | refine below_set ?_ a0.out) | exact HB.out)); rintro e z4 ⟨l9, m0, m1, rfl, e3, e4, e5, hi, hb, hk⟩; refine ⟨_, rfl, sh6_ (KeepBut.blk hk (g' := j) (o := .cells #[iv_ 0, .slice none 0 0, .slice none 0 0, iv_ 0, iv_ 0, iv_ 0, iv_ 0, iv_ 0, .slice none 0 0, iv_ 0] 28 (0, 0)) (bk_ s) c1.out (by simp)) (Kd.R_lower e3 (below_size (by repeat (first | (with_reducible first | exact HB.out | apply below_alloc | apply pw_below_drewN | apply below_drew1 | refine below_set ?_ (IsS102.ge m.out) | refine below_set ?_ a0.out) | exact HB.out)))) (Kd.R_lower e4 (below_size (by repeat (first | (with_reducible first | exact HB.out | apply below_alloc | apply pw_below_drewN | apply below_drew1 | refine below_set ?_ (IsS102.ge m.out) | refine below_set ?_ a0.out) | exact HB.out)))) (Kd.R_lower e5 (below_size (by repeat (first | (with_reducible first | exact HB.out | apply below_alloc | apply pw_below_drewN | apply below_drew1 | refine below_set ?_ (IsS102.ge m.out) | refine below_set ?_ a0.out) | exact HB.out)))) hb hi ?_⟩; clear s HB m hb hk hi e3 e4 e5; intro s z B E HB m) | ((with_reducible refine gd_ 6 ?_); refine bx_ 6 28 #[iv_ 0, .slice none 0 0, .slice none 0 0, iv_ 0, iv_ 0, iv_ 0, iv_ 0, iv_ 0, .slice none 0 0, iv_ 0] ?_; intro u hg z5 hbox hb; refine sh13_ (Kd.R_below (ra_ z) hb) (Kd.R_below (ra_ B) hb) (Kd.R_below (ra_ E) hb) (blk_below (bk_ s) hb) (IsS102.below (by repeat (first | (with_reducible first | exact m.out | apply IsS102.alloc | apply IsS102.drewN | apply IsS102.drew | apply IsS102.set_1 | apply IsS102.set_2 | refine IsS102.far ?_ G.out _) | exact m.out)) hb) (below_step (by repeat (first | (with_reducible first | exact HB.out | apply below_alloc | apply pw_below_drewN | apply below_drew1 | refine below_set ?_ (IsS102.ge m.out) | refine below_set ?_ a0.out) | exact HB.out)) hb) hbox (ge_ hg (by repeat (first | (with_reducible first | exact HB.out | apply below_alloc | apply pw_below_drewN | apply below_drew1 | refine below_set ?_ (IsS102.ge m.out) | refine below_set ?_ a0.out) | exact HB.out))) (ge_ hg (by repeat (first | (with_reducible first | exact HB.out | apply below_alloc | apply pw_below_drewN | apply below_drew1 | refine below_set ?_ (IsS102.ge m.out) | refine below_set ?_ a0.out) | exact HB.out))) (nl_ hg (bk_ s)) (ng_ hg (bk_ s)) ((by rw [hg]; exact Nat.ne_of_lt (IsS102.lt (show IsS102 w _ y D a7 a8 from by repeat (first | (with_reducible first | exact m.out | apply IsS102.alloc | apply IsS102.drewN | apply IsS102.drew | apply IsS102.set_1 | apply IsS102.set_2 | refine IsS102.far ?_ G.out _) | exact m.out))) : y ≠ u)) ((by rw [hg]; exact Nat.ne_of_gt (IsS102.lt (show IsS102 w _ y D a7 a8 from by repeat (first | (with_reducible first | exact m.out | apply IsS102.alloc | apply IsS102.drewN | apply IsS102.drew | apply IsS102.set_1 | apply IsS102.set_2 | refine IsS102.far ?_ G.out _) | exact m.out))) : u ≠ y)) ?_; clear z B E s m HB hb hbox hg; intro z B E s m HB x i7 a9 a2 l I d0; have t1 := l.out; have t5 := a2.out; have t2 := d0.out; have t6 := I.out; have m7 := cf10_ x; obtain ⟨b3, b6, j4⟩ := Kd.R_slice z.out; subst j4; obtain ⟨b4, b7, j5⟩ := Kd.R_slice B.out; subst j5; obtain ⟨b5, b8, j6⟩ := Kd.R_slice E.out; subst j6) | ((with_reducible refine gate_callee (f := 77) rfl ?_); refine goesL_ (some 13) rfl rfl Try.func77 (by kernel_rfl) rfl #[.pointer (some ⟨y, 0, none⟩), iv_ 6] rfl mp_ ?_; (with_reducible refine (spec_l1Once.calls y D a7 a8 6 false b1 b2 w _ ?side1 ?side2 A4.out).mono ?_); (case side1 => repeat (first | (with_reducible first | exact m.out | apply IsS102.alloc | apply IsS102.drewN | apply IsS102.drew | apply IsS102.set_1 | apply IsS102.set_2 | refine IsS102.far ?_ G.out _ | refine IsS102.far ?_ I.out _) | exact m.out)); (case side2 => repeat (first | (with_reducible first | exact HB.out | apply below_alloc | apply pw_below_drewN | apply below_drew1 | refine below_set ?_ (IsS102.ge m.out) | refine below_set ?_ a0.out | refine below_set ?_ a9.out) | exact HB.out)); rintro e z6 ⟨rfl, hi, hb, hk⟩; refine ⟨_, rfl, sh7_ (KeepBut.blk hk (g' := j) (o := .cells #[iv_ 0, .slice none 0 0, .slice none 0 0, iv_ 0, iv_ 0, iv_ 0, iv_ 0, iv_ 0, .slice none 0 0, iv_ 0] 28 (0, 0)) (bp_ s) c1.out (by simp)) (Kd.R_mono (Kd.R_keep (IsS102.apart (show IsS102 w _ y D a7 a8 from by repeat (first | (with_reducible first | exact m.out | apply IsS102.alloc | apply IsS102.drewN | apply IsS102.drew | apply IsS102.set_1 | apply IsS102.set_2 | refine IsS102.far ?_ G.out _ | refine IsS102.far ?_ I.out _) | exact m.out)) (by (with_reducible repeat (first | apply Kd.R_alloc | apply Kd.R_drewN | apply Kd.R_drew)); exact (Kd.R_mono (Kd.R_far (p := ⟨u, 9, none⟩) (Kd.R_far (p := ⟨u, 8, none⟩) (Kd.R_far (p := ⟨u, 7, none⟩) (Kd.R_far (p := ⟨u, 6, none⟩) (Kd.R_far (p := ⟨u, 5, none⟩) (Kd.R_far (p := ⟨u, 4, none⟩) (Kd.R_far (p := ⟨u, 3, none⟩) (Kd.R_far (p := ⟨u, 2, none⟩) (Kd.R_far (p := ⟨u, 1, none⟩) (Kd.R_far (p := ⟨u, 0, none⟩) (Kd.R_types z.out x.out (by decide)) (fun _ hk => hk.2) (iv_ J)) (fun _ hk => hk.2) (.slice b3 L.length b6)) (fun _ hk => hk.2) (.slice b4 M.length b7)) (fun _ hk => hk.2) (iv_ O)) (fun _ hk => hk.2) (iv_ T)) (fun _ hk => hk.2) (iv_ U)) (fun _ hk => hk.2) (iv_ X)) (fun _ hk => hk.2) (iv_ Y)) (fun _ hk => hk.2) (.slice b5 a1.length b8)) (fun _ hk => hk.2) (iv_ Z)) (fun _ h_ => h_.1))) (by decide)) hk (fun _ h => h.2)) (fun _ h => h.1)) (Kd.R_mono (Kd.R_keep (IsS102.apart (show IsS102 w _ y D a7 a8 from by repeat (first | (with_reducible first | exact m.out | apply IsS102.alloc | apply IsS102.drewN | apply IsS102.drew | apply IsS102.set_1 | apply IsS102.set_2 | refine IsS102.far ?_ G.out _ | refine IsS102.far ?_ I.out _) | exact m.out)) (by (with_reducible repeat (first | apply Kd.R_alloc | apply Kd.R_drewN | apply Kd.R_drew)); exact (Kd.R_mono (Kd.R_far (p := ⟨u, 9, none⟩) (Kd.R_far (p := ⟨u, 8, none⟩) (Kd.R_far (p := ⟨u, 7, none⟩) (Kd.R_far (p := ⟨u, 6, none⟩) (Kd.R_far (p := ⟨u, 5, none⟩) (Kd.R_far (p := ⟨u, 4, none⟩) (Kd.R_far (p := ⟨u, 3, none⟩) (Kd.R_far (p := ⟨u, 2, none⟩) (Kd.R_far (p := ⟨u, 1, none⟩) (Kd.R_far (p := ⟨u, 0, none⟩) (Kd.R_types B.out x.out (by decide)) (fun _ hk => hk.2) (iv_ J)) (fun _ hk => hk.2) (.slice b3 L.length b6)) (fun _ hk => hk.2) (.slice b4 M.length b7)) (fun _ hk => hk.2) (iv_ O)) (fun _ hk => hk.2) (iv_ T)) (fun _ hk => hk.2) (iv_ U)) (fun _ hk => hk.2) (iv_ X)) (fun _ hk => hk.2) (iv_ Y)) (fun _ hk => hk.2) (.slice b5 a1.length b8)) (fun _ hk => hk.2) (iv_ Z)) (fun _ h_ => h_.1))) (by decide)) hk (fun _ h => h.2)) (fun _ h => h.1)) (Kd.R_mono (Kd.R_keep (IsS102.apart (show IsS102 w _ y D a7 a8 from by repeat (first | (with_reducible first | exact m.out | apply IsS102.alloc | apply IsS102.drewN | apply IsS102.drew | apply IsS102.set_1 | apply IsS102.set_2 | refine IsS102.far ?_ G.out _ | refine IsS102.far ?_ I.out _) | exact m.out)) (by (with_reducible repeat (first | apply Kd.R_alloc | apply Kd.R_drewN | apply Kd.R_drew)); exact (Kd.R_mono (Kd.R_far (p := ⟨u, 9, none⟩) (Kd.R_far (p := ⟨u, 8, none⟩) (Kd.R_far (p := ⟨u, 7, none⟩) (Kd.R_far (p := ⟨u, 6, none⟩) (Kd.R_far (p := ⟨u, 5, none⟩) (Kd.R_far (p := ⟨u, 4, none⟩) (Kd.R_far (p := ⟨u, 3, none⟩) (Kd.R_far (p := ⟨u, 2, none⟩) (Kd.R_far (p := ⟨u, 1, none⟩) (Kd.R_far (p := ⟨u, 0, none⟩) (Kd.R_types E.out x.out (by decide)) (fun _ hk => hk.2) (iv_ J)) (fun _ hk => hk.2) (.slice b3 L.length b6)) (fun _ hk => hk.2) (.slice b4 M.length b7)) (fun _ hk => hk.2) (iv_ O)) (fun _ hk => hk.2) (iv_ T)) (fun _ hk => hk.2) (iv_ U)) (fun _ hk => hk.2) (iv_ X)) (fun _ hk => hk.2) (iv_ Y)) (fun _ hk => hk.2) (.slice b5 a1.length b8)) (fun _ hk => hk.2) (iv_ Z)) (fun _ h_ => h_.1))) (by decide)) hk (fun _ h => h.2)) (fun _ h => h.1)) (KeepBut.blk hk (g' := u) (o := .cells #[iv_ J, .slice b3 L.length b6, .slice b4 M.length b7, iv_ O, iv_ T, iv_ U, iv_ X, iv_ Y, .slice b5 a1.length b8, iv_ Z] 28 (0, 0)) (bp_ x) d0.out (by simp)) hb hi ?_⟩; clear s z B E x HB m hb hk hi; intro s z B E x HB m) | ((with_reducible refine gate_callee (f := 60) rfl ?_); refine goesL_ (some 23) rfl rfl Try.func60 (by kernel_rfl) rfl #[.pointer (some ⟨y, 0, none⟩), iv_ 10] rfl mp_ ?_; (with_reducible refine (spec_l1Below.calls y D b1 b2 10 l5 g2 g3 w _ ?side1 ?side2 i2.out).mono ?_); (case side1 => repeat (first | (with_reducible first | exact m.out | apply IsS102.alloc | apply IsS102.drewN | apply IsS102.drew | apply IsS102.set_1 | apply IsS102.set_2 | refine IsS102.far ?_ G.out _ | refine IsS102.far ?_ I.out _) | exact m.out)); (case side2 => repeat (first | (with_reducible first | exact HB.out | apply below_alloc | apply pw_below_drewN | apply below_drew1 | refine below_set ?_ (IsS102.ge m.out) | refine below_set ?_ a0.out | refine below_set ?_ a9.out) | exact HB.out)); rintro e m5 ⟨rfl, hi, hb, hk⟩; refine ⟨_, rfl, sh7_ (KeepBut.blk hk (g' := j) (o := .cells #[iv_ 0, .slice none 0 0, .slice none 0 0, iv_ 0, iv_ 0, iv_ 0, iv_ 0, iv_ 0, .slice none 0 0, iv_ 0] 28 (0, 0)) (bk_ s) c1.out (by simp)) (Kd.R_mono (Kd.R_keep (IsS102.apart (show IsS102 w _ y D b1 b2 from by repeat (first | (with_reducible first | exact m.out | apply IsS102.alloc | apply IsS102.drewN | apply IsS102.drew | apply IsS102.set_1 | apply IsS102.set_2 | refine IsS102.far ?_ G.out _ | refine IsS102.far ?_ I.out _) | exact m.out)) (ra_ z) (by decide)) hk (fun _ h => h.2)) (fun _ h => h.1)) (Kd.R_mono (Kd.R_keep (IsS102.apart (show IsS102 w _ y D b1 b2 from by repeat (first | (with_reducible first | exact m.out | apply IsS102.alloc | apply IsS102.drewN | apply IsS102.drew | apply IsS102.set_1 | apply IsS102.set_2 | refine IsS102.far ?_ G.out _ | refine IsS102.far ?_ I.out _) | exact m.out)) (ra_ B) (by decide)) hk (fun _ h => h.2)) (fun _ h => h.1)) (Kd.R_mono (Kd.R_keep (IsS102.apart (show IsS102 w _ y D b1 b2 from by repeat (first | (with_reducible first | exact m.out | apply IsS102.alloc | apply IsS102.drewN | apply IsS102.drew | apply IsS102.set_1 | apply IsS102.set_2 | refine IsS102.far ?_ G.out _ | refine IsS102.far ?_ I.out _) | exact m.out)) (ra_ E) (by decide)) hk (fun _ h => h.2)) (fun _ h => h.1)) (KeepBut.blk hk (g' := u) (o := .cells #[iv_ J, .slice b3 L.length b6, .slice b4 M.length b7, iv_ O, iv_ T, iv_ U, iv_ X, iv_ Y, .slice b5 a1.length b8, iv_ Z] 28 (0, 0)) (bk_ x) d0.out (by simp)) hb hi ?_⟩; clear s z B E x HB m hb hk hi; intro s z B E x HB m))
  refine sh7_ (Kd.R_drew z.out) (Kd.R_drew B.out) (Kd.R_drew E.out) (blk_drew s.out) (blk_drew x.out) (IsS102.drew m.out) (below_drew1 HB.out) ?_
  clear z B E s x m HB
  intro z B E s x m HB
  refine start_ (n := 7) (S := fun w' => Cz10 w' u (iv_ J) (.slice b3 L.length b6) (.slice b4 M.length b7) (iv_ O) (iv_ T) (iv_ U) (iv_ X) (iv_ Y) (.slice b5 a1.length b8) (iv_ Z)) (ds := []) (bo_ 7 0) (by kernel_rfl) rfl rfl (cz10_ x) (fun hHeld => ?_)
  generalize m5.drew = z7 at z B E s x m HB hHeld ⊢
  refine pu0_ 1 (bo_ 7 2) (some 26) ?_
  refine pu0_ 2 (bo_ 7 6) (some 27) ?_
  refine take_ (i := 0) (N := some 25) (v := ?_) (a' := ?_) (bo_ 7 7) rfl rfl (by kernel_rfl) (fun _ _ _ h => h) (Or.inl ⟨by rfl, ?_⟩) hHeld ?_ ?_
  rotate_left
  ·rintro w' ⟨s0, s1, s2, s3, s4, s5, s6, s7, s8, s9⟩
   go_simp
   with_reducible rfl
  rotate_left
  ·simp only [Act.put, List.setIfInBounds_toArray, List.set_cons_zero, List.set_cons_succ, i64_w, i32_w]
   rfl
  refine one_ (i := 3) (N := some 28) (bo_ 7 15) rfl rfl (by kernel_rfl) (by decide) (fun K hK => ?_)
  refine goes_ Try.func50 (by kernel_rfl) rfl #[.pointer (some ⟨y, 0, none⟩)] (by rfl) rfl rfl mp_ ?_
  with_reducible refine (spec_l4Raw.calls y D g2 g3 l6 l7 l8 w _ ?side1 ?side2 i3.out).mono ?_
  (case side1 => repeat (first | (with_reducible first | exact m.out | apply IsS102.alloc | apply IsS102.drewN | apply IsS102.drew | apply IsS102.set_1 | apply IsS102.set_2 | refine IsS102.far ?_ G.out _ | refine IsS102.far ?_ I.out _) | exact m.out))
  (case side2 => repeat (first | (with_reducible first | exact HB.out | apply below_alloc | apply pw_below_drewN | apply below_drew1 | refine below_set ?_ (IsS102.ge m.out) | refine below_set ?_ a0.out | refine below_set ?_ a9.out) | exact HB.out))
  rintro e d3 ⟨rfl, hi, hb, hk⟩
  refine ⟨_, rfl, sh7_ (KeepBut.blk hk (g' := j) (o := .cells #[iv_ 0, .slice none 0 0, .slice none 0 0, iv_ 0, iv_ 0, iv_ 0, iv_ 0, iv_ 0, .slice none 0 0, iv_ 0] 28 (0, 0)) (bk_ s) c1.out (by simp)) (Kd.R_mono (Kd.R_keep (IsS102.apart (show IsS102 w _ y D g2 g3 from by repeat (first | (with_reducible first | exact m.out | apply IsS102.alloc | apply IsS102.drewN | apply IsS102.drew | apply IsS102.set_1 | apply IsS102.set_2 | refine IsS102.far ?_ G.out _ | refine IsS102.far ?_ I.out _) | exact m.out)) (ra_ z) (by decide)) hk (fun _ h => h.2)) (fun _ h => h.1)) (Kd.R_mono (Kd.R_keep (IsS102.apart (show IsS102 w _ y D g2 g3 from by repeat (first | (with_reducible first | exact m.out | apply IsS102.alloc | apply IsS102.drewN | apply IsS102.drew | apply IsS102.set_1 | apply IsS102.set_2 | refine IsS102.far ?_ G.out _ | refine IsS102.far ?_ I.out _) | exact m.out)) (ra_ B) (by decide)) hk (fun _ h => h.2)) (fun _ h => h.1)) (Kd.R_mono (Kd.R_keep (IsS102.apart (show IsS102 w _ y D g2 g3 from by repeat (first | (with_reducible first | exact m.out | apply IsS102.alloc | apply IsS102.drewN | apply IsS102.drew | apply IsS102.set_1 | apply IsS102.set_2 | refine IsS102.far ?_ G.out _ | refine IsS102.far ?_ I.out _) | exact m.out)) (ra_ E) (by decide)) hk (fun _ h => h.2)) (fun _ h => h.1)) (KeepBut.blk hk (g' := u) (o := .cells #[iv_ J, .slice b3 L.length b6, .slice b4 M.length b7, iv_ O, iv_ T, iv_ U, iv_ X, iv_ Y, .slice b5 a1.length b8, iv_ Z] 28 (0, 0)) (bk_ x) d0.out (by simp)) hb hi ?_⟩
  clear s z B E x HB m hb hk hi
  intro s z B E x HB m
  refine hK.out _ _ (cz10_ x) (fun hHeld => ?_)
  clear hK K
  refine norm_ (show Act.put _ (some 28) _ = _ from pt_) ?_
  refine one_ (i := 4) (N := none) (bo_ 7 31) rfl rfl (by kernel_rfl) (by decide) (fun K hK => ?_)
  have x2 : d3.cell? ⟨j, 0, none⟩ = some (iv_ 0) := bc_ s 0 rfl
  have n9 := bf_ s 0
  have u9 := l.out
  have q0 := a2.out
  have x3 : d3.cell? ⟨j, 1, none⟩ = some (.slice none 0 0) := bc_ s 1 rfl
  have o0 := bf_ s 1
  have v0 := l.out
  have q1 := a2.out
  have x4 : d3.cell? ⟨j, 2, none⟩ = some (.slice none 0 0) := bc_ s 2 rfl
  have o1 := bf_ s 2
  have v1 := l.out
  have q2 := a2.out
  have x5 : d3.cell? ⟨j, 3, none⟩ = some (iv_ 0) := bc_ s 3 rfl
  have o2 := bf_ s 3
  have v2 := l.out
  have q3 := a2.out
  have x6 : d3.cell? ⟨j, 4, none⟩ = some (iv_ 0) := bc_ s 4 rfl
  have o3 := bf_ s 4
  have v3 := l.out
  have q4 := a2.out
  have x7 : d3.cell? ⟨j, 5, none⟩ = some (iv_ 0) := bc_ s 5 rfl
  have o4 := bf_ s 5
  have v4 := l.out
  have q5 := a2.out
  have x8 : d3.cell? ⟨j, 6, none⟩ = some (iv_ 0) := bc_ s 6 rfl
  have o5 := bf_ s 6
  have v5 := l.out
  have q6 := a2.out
  have x9 : d3.cell? ⟨j, 7, none⟩ = some (iv_ 0) := bc_ s 7 rfl
  have o6 := bf_ s 7
  have v6 := l.out
  have q7 := a2.out
  have y0 : d3.cell? ⟨j, 8, none⟩ = some (.slice none 0 0) := bc_ s 8 rfl
  have o7 := bf_ s 8
  have v7 := l.out
  have q8 := a2.out
  have y1 : d3.cell? ⟨j, 9, none⟩ = some (iv_ 0) := bc_ s 9 rfl
  have o8 := bf_ s 9
  have v8 := l.out
  have q9 := a2.out
  refine skip_ (w1 := ?_) (by rfl) rfl ?_ ?_
  rotate_left
  ·go_simp
   rfl
  refine hK.out _ _ ⟨((cell_far (p := ⟨j, _, none⟩) l.out _).trans (((cell_far (p := ⟨j, _, none⟩) l.out _).trans (((cell_far (p := ⟨j, _, none⟩) l.out _).trans (((cell_far (p := ⟨j, _, none⟩) l.out _).trans (((cell_far (p := ⟨j, _, none⟩) l.out _).trans (((cell_far (p := ⟨j, _, none⟩) l.out _).trans (((cell_far (p := ⟨j, _, none⟩) l.out _).trans (((cell_far (p := ⟨j, _, none⟩) l.out _).trans (((cell_far (p := ⟨j, _, none⟩) l.out _).trans (((cell_far (p := ⟨j, _, none⟩) l.out _).trans (hHeld.1)))))))))))))))))))), ((cell_far (p := ⟨j, _, none⟩) l.out _).trans (((cell_far (p := ⟨j, _, none⟩) l.out _).trans (((cell_far (p := ⟨j, _, none⟩) l.out _).trans (((cell_far (p := ⟨j, _, none⟩) l.out _).trans (((cell_far (p := ⟨j, _, none⟩) l.out _).trans (((cell_far (p := ⟨j, _, none⟩) l.out _).trans (((cell_far (p := ⟨j, _, none⟩) l.out _).trans (((cell_far (p := ⟨j, _, none⟩) l.out _).trans (((cell_far (p := ⟨j, _, none⟩) l.out _).trans (((cell_far (p := ⟨j, _, none⟩) l.out _).trans (hHeld.2.1)))))))))))))))))))), ((cell_far (p := ⟨j, _, none⟩) l.out _).trans (((cell_far (p := ⟨j, _, none⟩) l.out _).trans (((cell_far (p := ⟨j, _, none⟩) l.out _).trans (((cell_far (p := ⟨j, _, none⟩) l.out _).trans (((cell_far (p := ⟨j, _, none⟩) l.out _).trans (((cell_far (p := ⟨j, _, none⟩) l.out _).trans (((cell_far (p := ⟨j, _, none⟩) l.out _).trans (((cell_far (p := ⟨j, _, none⟩) l.out _).trans (((cell_far (p := ⟨j, _, none⟩) l.out _).trans (((cell_far (p := ⟨j, _, none⟩) l.out _).trans (hHeld.2.2.1)))))))))))))))))))), ((cell_far (p := ⟨j, _, none⟩) l.out _).trans (((cell_far (p := ⟨j, _, none⟩) l.out _).trans (((cell_far (p := ⟨j, _, none⟩) l.out _).trans (((cell_far (p := ⟨j, _, none⟩) l.out _).trans (((cell_far (p := ⟨j, _, none⟩) l.out _).trans (((cell_far (p := ⟨j, _, none⟩) l.out _).trans (((cell_far (p := ⟨j, _, none⟩) l.out _).trans (((cell_far (p := ⟨j, _, none⟩) l.out _).trans (((cell_far (p := ⟨j, _, none⟩) l.out _).trans (((cell_far (p := ⟨j, _, none⟩) l.out _).trans (hHeld.2.2.2.1)))))))))))))))))))), ((cell_far (p := ⟨j, _, none⟩) l.out _).trans (((cell_far (p := ⟨j, _, none⟩) l.out _).trans (((cell_far (p := ⟨j, _, none⟩) l.out _).trans (((cell_far (p := ⟨j, _, none⟩) l.out _).trans (((cell_far (p := ⟨j, _, none⟩) l.out _).trans (((cell_far (p := ⟨j, _, none⟩) l.out _).trans (((cell_far (p := ⟨j, _, none⟩) l.out _).trans (((cell_far (p := ⟨j, _, none⟩) l.out _).trans (((cell_far (p := ⟨j, _, none⟩) l.out _).trans (((cell_far (p := ⟨j, _, none⟩) l.out _).trans (hHeld.2.2.2.2.1)))))))))))))))))))), ((cell_far (p := ⟨j, _, none⟩) l.out _).trans (((cell_far (p := ⟨j, _, none⟩) l.out _).trans (((cell_far (p := ⟨j, _, none⟩) l.out _).trans (((cell_far (p := ⟨j, _, none⟩) l.out _).trans (((cell_far (p := ⟨j, _, none⟩) l.out _).trans (((cell_far (p := ⟨j, _, none⟩) l.out _).trans (((cell_far (p := ⟨j, _, none⟩) l.out _).trans (((cell_far (p := ⟨j, _, none⟩) l.out _).trans (((cell_far (p := ⟨j, _, none⟩) l.out _).trans (((cell_far (p := ⟨j, _, none⟩) l.out _).trans (hHeld.2.2.2.2.2.1)))))))))))))))))))), ((cell_far (p := ⟨j, _, none⟩) l.out _).trans (((cell_far (p := ⟨j, _, none⟩) l.out _).trans (((cell_far (p := ⟨j, _, none⟩) l.out _).trans (((cell_far (p := ⟨j, _, none⟩) l.out _).trans (((cell_far (p := ⟨j, _, none⟩) l.out _).trans (((cell_far (p := ⟨j, _, none⟩) l.out _).trans (((cell_far (p := ⟨j, _, none⟩) l.out _).trans (((cell_far (p := ⟨j, _, none⟩) l.out _).trans (((cell_far (p := ⟨j, _, none⟩) l.out _).trans (((cell_far (p := ⟨j, _, none⟩) l.out _).trans (hHeld.2.2.2.2.2.2.1)))))))))))))))))))), ((cell_far (p := ⟨j, _, none⟩) l.out _).trans (((cell_far (p := ⟨j, _, none⟩) l.out _).trans (((cell_far (p := ⟨j, _, none⟩) l.out _).trans (((cell_far (p := ⟨j, _, none⟩) l.out _).trans (((cell_far (p := ⟨j, _, none⟩) l.out _).trans (((cell_far (p := ⟨j, _, none⟩) l.out _).trans (((cell_far (p := ⟨j, _, none⟩) l.out _).trans (((cell_far (p := ⟨j, _, none⟩) l.out _).trans (((cell_far (p := ⟨j, _, none⟩) l.out _).trans (((cell_far (p := ⟨j, _, none⟩) l.out _).trans (hHeld.2.2.2.2.2.2.2.1)))))))))))))))))))), ((cell_far (p := ⟨j, _, none⟩) l.out _).trans (((cell_far (p := ⟨j, _, none⟩) l.out _).trans (((cell_far (p := ⟨j, _, none⟩) l.out _).trans (((cell_far (p := ⟨j, _, none⟩) l.out _).trans (((cell_far (p := ⟨j, _, none⟩) l.out _).trans (((cell_far (p := ⟨j, _, none⟩) l.out _).trans (((cell_far (p := ⟨j, _, none⟩) l.out _).trans (((cell_far (p := ⟨j, _, none⟩) l.out _).trans (((cell_far (p := ⟨j, _, none⟩) l.out _).trans (((cell_far (p := ⟨j, _, none⟩) l.out _).trans (hHeld.2.2.2.2.2.2.2.2.1)))))))))))))))))))), ((cell_far (p := ⟨j, _, none⟩) l.out _).trans (((cell_far (p := ⟨j, _, none⟩) l.out _).trans (((cell_far (p := ⟨j, _, none⟩) l.out _).trans (((cell_far (p := ⟨j, _, none⟩) l.out _).trans (((cell_far (p := ⟨j, _, none⟩) l.out _).trans (((cell_far (p := ⟨j, _, none⟩) l.out _).trans (((cell_far (p := ⟨j, _, none⟩) l.out _).trans (((cell_far (p := ⟨j, _, none⟩) l.out _).trans (((cell_far (p := ⟨j, _, none⟩) l.out _).trans (((cell_far (p := ⟨j, _, none⟩) l.out _).trans (hHeld.2.2.2.2.2.2.2.2.2))))))))))))))))))))⟩ (fun hHeld => ?_)
  clear hK K
  refine pu0_ 5 (bo_ 7 63) (some 3) ?_
  refine pu0_ 6 (bo_ 7 127) (some 4) ?_
  refine done_ (by kernel_rfl) ?_
  try go_wp2
  refine bodyPost_ret (results_ctt rfl _ _ j 28 #[iv_ J, .slice b3 L.length b6, .slice b4 M.length b7, iv_ O, iv_ T, iv_ U, iv_ X, iv_ Y, .slice b5 a1.length b8, iv_ Z] (0, 0) _ rfl (bp_ s) Try.underlying28 rfl (by kernel_rfl)) rfl ?_
  exact ⟨_, _, _, by first | (rw [hRT_.out]; rfl) | exact er_, by (with_reducible repeat (first | apply Kd.R_alloc | apply Kd.R_drewN | apply Kd.R_drew)); exact Kd.R_mono (Kd.R_far (p := ⟨j, 9, none⟩) (Kd.R_far (p := ⟨j, 8, none⟩) (Kd.R_far (p := ⟨j, 7, none⟩) (Kd.R_far (p := ⟨j, 6, none⟩) (Kd.R_far (p := ⟨j, 5, none⟩) (Kd.R_far (p := ⟨j, 4, none⟩) (Kd.R_far (p := ⟨j, 3, none⟩) (Kd.R_far (p := ⟨j, 2, none⟩) (Kd.R_far (p := ⟨j, 1, none⟩) (Kd.R_far (p := ⟨j, 0, none⟩) (Kd.R_types z.out s.out (by decide)) (fun _ hk => hk.2) (iv_ J)) (fun _ hk => hk.2) (.slice b3 L.length b6)) (fun _ hk => hk.2) (.slice b4 M.length b7)) (fun _ hk => hk.2) (iv_ O)) (fun _ hk => hk.2) (iv_ T)) (fun _ hk => hk.2) (iv_ U)) (fun _ hk => hk.2) (iv_ X)) (fun _ hk => hk.2) (iv_ Y)) (fun _ hk => hk.2) (.slice b5 a1.length b8)) (fun _ hk => hk.2) (iv_ Z)) (fun _ hk => trivial), by (with_reducible repeat (first | apply Kd.R_alloc | apply Kd.R_drewN | apply Kd.R_drew)); exact Kd.R_mono (Kd.R_far (p := ⟨j, 9, none⟩) (Kd.R_far (p := ⟨j, 8, none⟩) (Kd.R_far (p := ⟨j, 7, none⟩) (Kd.R_far (p := ⟨j, 6, none⟩) (Kd.R_far (p := ⟨j, 5, none⟩) (Kd.R_far (p := ⟨j, 4, none⟩) (Kd.R_far (p := ⟨j, 3, none⟩) (Kd.R_far (p := ⟨j, 2, none⟩) (Kd.R_far (p := ⟨j, 1, none⟩) (Kd.R_far (p := ⟨j, 0, none⟩) (Kd.R_types B.out s.out (by decide)) (fun _ hk => hk.2) (iv_ J)) (fun _ hk => hk.2) (.slice b3 L.length b6)) (fun _ hk => hk.2) (.slice b4 M.length b7)) (fun _ hk => hk.2) (iv_ O)) (fun _ hk => hk.2) (iv_ T)) (fun _ hk => hk.2) (iv_ U)) (fun _ hk => hk.2) (iv_ X)) (fun _ hk => hk.2) (iv_ Y)) (fun _ hk => hk.2) (.slice b5 a1.length b8)) (fun _ hk => hk.2) (iv_ Z)) (fun _ hk => trivial), by (with_reducible repeat (first | apply Kd.R_alloc | apply Kd.R_drewN | apply Kd.R_drew)); exact Kd.R_mono (Kd.R_far (p := ⟨j, 9, none⟩) (Kd.R_far (p := ⟨j, 8, none⟩) (Kd.R_far (p := ⟨j, 7, none⟩) (Kd.R_far (p := ⟨j, 6, none⟩) (Kd.R_far (p := ⟨j, 5, none⟩) (Kd.R_far (p := ⟨j, 4, none⟩) (Kd.R_far (p := ⟨j, 3, none⟩) (Kd.R_far (p := ⟨j, 2, none⟩) (Kd.R_far (p := ⟨j, 1, none⟩) (Kd.R_far (p := ⟨j, 0, none⟩) (Kd.R_types E.out s.out (by decide)) (fun _ hk => hk.2) (iv_ J)) (fun _ hk => hk.2) (.slice b3 L.length b6)) (fun _ hk => hk.2) (.slice b4 M.length b7)) (fun _ hk => hk.2) (iv_ O)) (fun _ hk => hk.2) (iv_ T)) (fun _ hk => hk.2) (iv_ U)) (fun _ hk => hk.2) (iv_ X)) (fun _ hk => hk.2) (iv_ Y)) (fun _ hk => hk.2) (.slice b5 a1.length b8)) (fun _ hk => hk.2) (iv_ Z)) (fun _ hk => trivial), by repeat (first | (with_reducible first | exact HB.out | apply below_alloc | apply pw_below_drewN | apply below_drew1 | refine below_set ?_ (IsS102.ge m.out) | refine below_set ?_ a0.out | refine below_set ?_ a9.out) | exact HB.out)⟩

end Go.Proofs.Ytopbkdcicidajaa.PFnSilence
