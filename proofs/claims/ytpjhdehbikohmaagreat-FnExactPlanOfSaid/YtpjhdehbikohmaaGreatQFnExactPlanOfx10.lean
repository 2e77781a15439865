-- Written by a program of this session for this claim (the kit's printer with changes).
import Derived.Test.YtpjhdehbikohmaaGreatQFnExactPlanOfx0
import Derived.Test.YtpjhdehbikohmaaGreatQFnExactPlanOfx4
import Derived.Test.YtpjhdehbikohmaaGreatQFnExactPlanOfx5
import Derived.Test.YtpjhdehbikohmaaGreatQFnExactPlanOfx6
import Derived.Test.YtpjhdehbikohmaaGreatQFnExactPlanOfx7
import Derived.Test.YtpjhdehbikohmaaGreatQFnExactPlanOfx9
namespace Go.Proofs.YtpjhdehbikohmaaGreat.PFnExactPlanOf
open Go.RowKit Go.Proofs.YtpjhdehbikohmaaGreatW.PrintWords Go.Proofs.YtpjhdehbikohmaaGreatW.PrintLast Go.Proofs.YtpjhdehbikohmaaGreatW.PrintMore
attribute [local go_sem] max2_int min2_int max_two min_two max_three min_three max_four min_four   -- for this text's walks alone
set_option linter.unusedVariables false
set_option maxHeartbeats 8000000
set_option maxRecDepth 100000
set_option linter.unusedSimpArgs false

/-! ### spec_QuietSpans: function 47 -/
def spec_QuietSpans.l0 : Nat → Int → List S52 → Int → Int → Int → List S68 → List S70 → Int → Int → Int → Int → Int → List S76 → Int → Option (List S52)
 | 0, _, _, _, _, _, _, _, _, _, _, _, _, _, _ => none
 | k + 1, l, J, m, j, s, u, x, y, z, B, D, E, G, I => if j < m then ((spec_MayDisturb.f k s u x y z B D E G I l j).bind fun L => (if L = true then ((spec_l4Put.f J j).bind fun M => (spec_QuietSpans.l0 k l M m (wrap64 (j + 1)) s u x y z B D E G I)) else (spec_QuietSpans.l0 k l J m (wrap64 (j + 1)) s u x y z B D E G I))) else (some J)
def spec_QuietSpans.f (k : Nat) (l : Int) (G : List S68) (I : List S70) (m s u x y : Int) (J : List S76) (z B D E : Int) : Option (List S52) := (spec_l8Ticks.f D E).bind fun j => (spec_QuietSpans.l0 k B (([] : List S52)) j.2 j.1 l G I m s u x y J z)
theorem spec_QuietSpans.calls (k : Nat) (z : Int) (U : Option Addr) (a5 : Nat) (m : List S68) (X : Option Addr) (a6 : Nat) (s : List S70) (B D E G I : Int) (Y : Option Addr) (a7 : Nat) (u : List S76) (J M a2 a3 : Int) (r : List S52) (w : World) (d4 : Kd.C k68 w U m.length m) (d0 : m.length ≤ a5) (d5 : Kd.C k70 w X s.length s) (d1 : s.length ≤ a6) (d6 : Kd.C k76 w Y u.length u) (d2 : u.length ≤ a7) (h : spec_QuietSpans.f k z m s B D E G I u J M a2 a3 = some r) :
  Calls Tryz.prog 47 #[.agg #[iv_ z, .slice U m.length a5, .slice X s.length a6, iv_ B, iv_ D, iv_ E, iv_ G, iv_ I, .slice Y u.length a7, iv_ J], iv_ M, iv_ a2, iv_ a3] w fun e w' => ∃ d9 : Value, e = .returned (d9) ∧ Kd.R k52 52 w' w.heap.size (fun _ => True) d9 r ∧ Below w.heap.size w w' := by
 have f3 := Tryz.underlying34
 have b7 := Aside0.mk d4
 have b4 := Aside0.mk d0
 clear d4 d0
 have b8 := Aside0.mk d5
 have b5 := Aside0.mk d1
 clear d5 d1
 have b9 := Aside0.mk d6
 have b6 := Aside0.mk d2
 clear d6 d2
 have HB := Aside0.mk (Below.refl w.heap.size w)
 have H := h
 clear h
 unfold spec_QuietSpans.f at H
 replace H : ∃ y_ : List S52, Aside0 (y_ = (([] : List S52))) ∧ ((spec_l8Ticks.f a2 a3).bind fun c1 => (spec_QuietSpans.l0 k M y_ c1.2 c1.1 z m s B D E G I u J)) = some r := ⟨_, ⟨rfl⟩, yh_ H⟩
 obtain ⟨f0, c0, H⟩ := H
 replace H := bs_ H
 obtain ⟨⟨d7, a9⟩, A5, H⟩ := H
 dsimp only at H
 have H' := Aside0.mk H
 clear H
 go_enter Tryz.func47, Tryz.ntmps47
 go_wp2_with (first | ((with_reducible refine gd_ 4 ?_); refine bx_ 4 34 #[iv_ z, .slice U m.length a5, .slice X s.length a6, iv_ B, iv_ D, iv_ E, iv_ G, iv_ I, .slice Y u.length a7, iv_ J] ?_; intro e6 hg w6 hbox hb; refine sh3_ (below_step (bl_ HB) hb) hbox (ge_ hg (bl_ HB)) ?_; clear HB hb hbox hg; intro HB j y) | ((with_reducible refine gate_dst (N := 13) rfl ?_); refine Kd.R_lit k52 _ 52 ?hg (N := 13) ?hd (xs := ([] : List S52)) (inner := []) (ok := fun _ => True) (okp := fun _ => True) ?hr ?hp (fun _ hk => hk) trivial (Below.refl _ _) (Nat.le_refl _) (by simp) ?_; (case hd => rfl); (case hg => rfl); (case hr => first | (go_simp; done) | (go_simp; rfl)); (case hp => exact (Reps.none _ _)); intro f4 w7 O hb hg_ hnew_; clear hg_ hnew_; (first | rw [← c0.out] at O | (simp only [Int.reduceToNat] at O; rw [← c0.out] at O)); refine sh3_ (Kd.R_lower O (below_size (bl1_ HB y))) (blk_below (bk_ j) hb) (below_step (bl1_ HB y) hb) ?_; clear j HB hb O; intro e2 j HB) | ((with_reducible refine gate_callee (f := 65) rfl ?_); refine gl_ 17 Tryz.func65 (spec_l8Ticks.calls a2 a3 d7 a9 _ A5.out) ?_; rintro e w' ⟨rfl, ⟨nd, rfl⟩⟩; refine ⟨_, rfl, ?_⟩))
 go_loopg [9, 12] k (fun kq v9 e8 w' => ∃ (L : List S52) (x : Int), e8 = iv_ x ∧ Aside0 (spec_QuietSpans.l0 kq M L a9 x z m s B D E G I u J = some r) ∧ Aside0 (kq ≤ k) ∧ Aside0 (Kd.R k52 52 w' w.heap.size (fun _ => True) v9 L) ∧ Aside0 (w'.heap[e6]? = some (.cells #[iv_ z, (.slice U m.length a5), (.slice X s.length a6), iv_ B, iv_ D, iv_ E, iv_ G, iv_ I, (.slice Y u.length a7), iv_ J] 34 (0, 0))) ∧ Aside0 (Below w.heap.size w w'))
 case atStart => exact ⟨(f0), (d7), (by first | rfl | (simp; done) | (simp [*]; done)), H', ⟨Nat.le_refl _⟩, ⟨ra_ e2⟩, ⟨by (with_reducible repeat (first | refine blk_drewN ?_ _ | refine blk_drew ?_ | refine blk_alloc ?_ _)); exact j.out⟩, ⟨bl1_ HB y⟩⟩
 case round =>
  clear H'
  obtain ⟨L, x, rfl, HA, Z, l, j, HB⟩ := hrel
  cases gk with
  | zero => exact absurd HA.out (by simp [spec_QuietSpans.l0])
  | succ T =>
   have H := HA.out
   clear HA
   simp only [spec_QuietSpans.l0] at H
   by_cases c9 : x < a9
   ·rw [if_pos c9] at H
    have e4 := decide_eq_true c9
    clear c9
    replace H := bs_ H
    obtain ⟨e7, b2, H⟩ := H
    by_cases a8 : e7 = true
    ·subst a8
     rw [if_pos rfl] at H
     replace H := bs_ H
     obtain ⟨d8, e0, H⟩ := H
     have H' := Aside0.mk H
     clear H
     have f1 := cf10_ j
     go_wp2_with (first | ((with_reducible refine gate_callee (f := 67) rfl ?_); refine gl_ 29 Tryz.func67 (spec_MayDisturb.calls T z _ _ m _ _ s B D E G I _ _ u J M x true _ (ck_ b7 HB) b4.out (ck_ b8 HB) b5.out (ck_ b9 HB) b6.out b2.out) ?_; rintro e f6 ⟨rfl, hb⟩; refine ⟨_, rfl, sh3_ (Kd.R_below (ra_ l) hb) (blk_below (bk_ j) hb) (below_step (bl1_ HB y) hb) ?_⟩; clear l j HB hb; intro l j HB; obtain ⟨b0, b1, e5⟩ := Kd.R_slice l.out; subst e5) | ((with_reducible refine gate_callee (f := 64) rfl ?_); refine goesL_ (some 32) rfl rfl Tryz.func64 (by kernel_rfl) rfl #[.slice b0 L.length b1, iv_ x] rfl mp_ ?_; (with_reducible refine (spec_l4Put.calls (fun k_ => some k_ = (.slice b0 L.length b1 : Value).ownBlock) (.slice b0 L.length b1) L x d8 w _ ?side1 ?side2 e0.out).mono ?_); (case side1 => repeat (first | (with_reducible first | exact HB.out | apply below_alloc | apply pw_below_drewN | apply below_drew1 | refine below_set ?_ y.out) | exact HB.out)); (case side2 => exact Kd.R_tight rfl l.out); rintro e f7 ⟨f5, rfl, d3, hb, hkp⟩; refine ⟨_, rfl, sh3_ (blk_kept (bk_ j) hkp (fun hs_ => (fun e_ => (Kd.R_ne l.out j.out (by decide)) e_) hs_)) (Kd.R_mono (ok' := fun k_ => True) d3 (fun k_ hk_ => trivial)) hb ?_⟩; clear j HB l hb hkp d3; intro j e3 HB))
     go_roundg T
     case measure => have := Z.out; omega
     case rel => exact ⟨(d8), (wrap64 (x + 1)), (by first | rfl | (simp; done) | (simp [*]; done)), H', ⟨by have := Z.out; omega⟩, ⟨ra_ e3⟩, ⟨by (with_reducible repeat (first | refine blk_drewN ?_ _ | refine blk_drew ?_ | refine blk_alloc ?_ _)); exact j.out⟩, ⟨bl1_ HB y⟩⟩
    ·replace a8 := Bool.eq_false_iff.mpr a8
     subst a8
     have H1 : (spec_QuietSpans.l0 T M L a9 (wrap64 (x + 1)) z m s B D E G I u J) = some r := by rw [if_neg (show ¬ (false = true) by decide)] at H; exact H
     clear H
     have H := H1
     clear H1
     have H' := Aside0.mk H
     clear H
     have f2 := cf10_ j
     go_wp2_with (first | ((with_reducible refine gate_callee (f := 67) rfl ?_); refine gl_ 29 Tryz.func67 (spec_MayDisturb.calls T z _ _ m _ _ s B D E G I _ _ u J M x false _ (ck_ b7 HB) b4.out (ck_ b8 HB) b5.out (ck_ b9 HB) b6.out b2.out) ?_; rintro e f8 ⟨rfl, hb⟩; refine ⟨_, rfl, sh3_ (Kd.R_below (ra_ l) hb) (blk_below (bk_ j) hb) (below_step (bl1_ HB y) hb) ?_⟩; clear l j HB hb; intro l j HB))
     go_roundg T
     case measure => have := Z.out; omega
     case rel => exact ⟨(L), (wrap64 (x + 1)), (by first | rfl | (simp; done) | (simp [*]; done)), H', ⟨by have := Z.out; omega⟩, ⟨ra_ l⟩, ⟨by (with_reducible repeat (first | refine blk_drewN ?_ _ | refine blk_drew ?_ | refine blk_alloc ?_ _)); exact j.out⟩, ⟨bl1_ HB y⟩⟩
   ·rw [if_neg c9] at H
    have e4 := decide_eq_false c9
    clear c9
    obtain rfl := Option.some.inj H
    go_wp2
    go_ret
    exact ⟨_, er_, ra_ l, bl1_ HB y⟩

/-! ### spec_SpeakingSpans: function 21 -/
def spec_SpeakingSpans.f (k : Nat) (j : Int) (D : List S68) (E : List S70) (l m s u x : Int) (G : List S76) (y I J z B : Int) : Option (List S52) := (spec_SureWindows.f k j D E l m s u x G y I J z B).bind fun L => ((spec_QuietSpans.f k j D E l m s u x G y I z B).bind fun M => ((spec_CutSpans.f k L M).bind fun O => ((spec_QuietSpans.f k j D E l m s u x G y J z B).bind fun T => ((spec_CutSpans.f k O T).bind fun U => (some U)))))
def spec_SpeakingSpans.T1 : Bool × List (List Nat × List Nat) := (true, [([], []), ([], []), ([], []), ([], []), ([], []), ([0, 1, 2, 3, 4], [0, 1, 2, 3, 4]), ([], []), ([], []), ([], []), ([], []), ([6, 7, 8, 9, 5], [6, 7, 8, 9]), ([5, 10, 10], [5, 10]), ([11, 11, 0, 1, 2, 3, 4, 5, 6, 7, 8, 9, 10, 11], [11])])
def spec_SpeakingSpans.B1 : List Nat := [0, 0, 0, 0, 0, 31, 0, 0, 0, 0, 1023, 2047, 4095]
theorem spec_SpeakingSpans.tab1 : rtab .any (opsOf Tryz.f21 1) = spec_SpeakingSpans.T1 := by kernel_rfl
theorem spec_SpeakingSpans.bits1 : waitsOk spec_SpeakingSpans.T1.2 spec_SpeakingSpans.B1 = true := by kernel_rfl
theorem spec_SpeakingSpans.calls (k : Nat) (E : Int) (X : Option Addr) (a6 : Nat) (y : List S68) (Y : Option Addr) (a7 : Nat) (z : List S70) (G I J L M : Int) (Z : Option Addr) (a8 : Nat) (B : List S76) (O a1 a2 T U : Int) (r : List S52) (w : World) (d0 : Kd.C k68 w X y.length y) (b9 : y.length ≤ a6) (d1 : Kd.C k70 w Y z.length z) (c0 : z.length ≤ a7) (d2 : Kd.C k76 w Z B.length B) (c1 : B.length ≤ a8) (h : spec_SpeakingSpans.f k E y z G I J L M B O a1 a2 T U = some r) :
  Calls Tryz.prog 21 #[.agg #[iv_ E, .slice X y.length a6, .slice Y z.length a7, iv_ G, iv_ I, iv_ J, iv_ L, iv_ M, .slice Z B.length a8, iv_ O], iv_ a1, iv_ a2, iv_ T, iv_ U] w fun e w' => ∃ d7 : Value, e = .returned (d7) ∧ Kd.R k52 52 w' w.heap.size (fun _ => True) d7 r ∧ Below w.heap.size w w' := by
 have f8 := Tryz.underlying34
 have b2 := Aside0.mk d0
 have a9 := Aside0.mk b9
 clear d0 b9
 have b3 := Aside0.mk d1
 have b0 := Aside0.mk c0
 clear d1 c0
 have b4 := Aside0.mk d2
 have b1 := Aside0.mk c1
 clear d2 c1
 have HB := Aside0.mk (Below.refl w.heap.size w)
 have H := h
 clear h
 unfold spec_SpeakingSpans.f at H
 replace H := bs_ H
 obtain ⟨d3, A6, H⟩ := H
 replace H := bs_ H
 obtain ⟨d4, A7, H⟩ := H
 replace H := bs_ H
 obtain ⟨d5, A8, H⟩ := H
 replace H := bs_ H
 obtain ⟨d6, A9, H⟩ := H
 replace H := bs_ H
 obtain ⟨e7, d8, H⟩ := H
 obtain rfl := Option.some.inj H
 go_enter Tryz.func21, Tryz.ntmps21
 try go_wp2_with (first | ((with_reducible refine gd_ 5 ?_); refine bx_ 5 34 #[iv_ E, .slice X y.length a6, .slice Y z.length a7, iv_ G, iv_ I, iv_ J, iv_ L, iv_ M, .slice Z B.length a8, iv_ O] ?_; intro e6 hg e8 hbox hb; refine sh3_ (below_step (bl_ HB) hb) hbox (ge_ hg (bl_ HB)) ?_; clear HB hb hbox hg; intro HB j u))
 refine sh2_ (blk_drew j.out) (below_drew1 HB.out) ?_
 clear j HB
 intro j HB
 refine start_ (n := 13) (S := fun w' => Cz10 w' e6 (iv_ E) (.slice X y.length a6) (.slice Y z.length a7) (iv_ G) (iv_ I) (iv_ J) (iv_ L) (iv_ M) (.slice Z B.length a8) (iv_ O)) (ds := []) (bo_ 13 0) (by kernel_rfl) rfl rfl (cz10_ j) (fun hHeld => ?_); refine with_tabW spec_SpeakingSpans.tab1 spec_SpeakingSpans.bits1 (fun HT_ HW_ => ?_)
 generalize e8.drew = g4 at j HB hHeld ⊢
 refine pur_ 1 (bo_ 13 2) (some 13) HT_ ?_
 refine pur_ 2 (bo_ 13 6) (some 14) HT_ ?_
 refine pur_ 3 (bo_ 13 14) (some 15) HT_ ?_
 refine pur_ 4 (bo_ 13 30) (some 16) HT_ ?_
 refine pur_ 7 (bo_ 13 158) (some 19) HT_ ?_
 refine pur_ 8 (bo_ 13 414) (some 20) HT_ ?_
 refine pur_ 9 (bo_ 13 926) (some 21) HT_ ?_
 refine tak_ 0 (bo_ 13 927) (some 12) HT_ HW_ hHeld ?_
 refine tak_ 6 (bo_ 13 991) (some 18) HT_ HW_ hHeld ?_
 refine onc_ 5 (bo_ 13 1023) (some 17) HT_ Tryz.func46 (spec_SureWindows.calls k E _ _ y _ _ z G I J L M _ _ B O a1 a2 T U d3 _ (ck_ b2 HB) a9.out (ck_ b3 HB) b0.out (ck_ b4 HB) b1.out A6.out) ?_
 rintro e g5 ⟨f9, rfl, l, hb⟩
 refine sh3_ (Kd.R_lower l (below_size (bl1_ HB u))) (blk_below (bk_ j) hb) (below_step (bl1_ HB u) hb) ?_
 clear j HB hb l
 intro m j HB
 refine ⟨_, _, rfl, (cz10_ j), pt_, fun hHeld => ?_⟩
 refine onc_ 10 (bo_ 13 2047) (some 22) HT_ Tryz.func47 (spec_QuietSpans.calls k E _ _ y _ _ z G I J L M _ _ B O a1 T U d4 _ (ck_ b2 HB) a9.out (ck_ b3 HB) b0.out (ck_ b4 HB) b1.out A7.out) ?_
 rintro e g6 ⟨g0, rfl, l, hb⟩
 refine sh4_ (Kd.R_elder' (ra_ m) (Kd.R_base l) hb) (Kd.R_lower (Kd.R_new' l (Kd.R_lt (ra_ m))) (below_size (bl1_ HB u))) (blk_below (bk_ j) hb) (below_step (bl1_ HB u) hb) ?_
 clear m j HB hb l
 intro m s j HB
 obtain ⟨e9, f3, b7⟩ := Kd.R_slice m.out
 (first | subst b7 | (injection b7 with f1_ f2_ f3_; have b5 := f1_.symm; have b6 := f3_.symm; clear f1_ f2_ f3_; subst b5; subst b6))
 obtain ⟨f0, f4, b8⟩ := Kd.R_slice s.out
 (first | subst b8 | (injection b8 with f1_ f2_ f3_; have b5 := f1_.symm; have b6 := f3_.symm; clear f1_ f2_ f3_; subst b5; subst b6))
 refine ⟨_, _, rfl, (cz10_ j), pt_, fun hHeld => ?_⟩
 refine onc_ 11 (bo_ 13 4095) (some 23) HT_ Tryz.func45 (spec_CutSpans.calls k _ _ d3 _ _ d4 d5 _ (cr_ m) (rl_ m) (cr_ s) (rl_ s) A8.out) ?_
 rintro e g7 ⟨g1, rfl, l, hb⟩
 refine sh5_ (Kd.R_elder' (ra_ m) (Kd.R_base l) hb) (Kd.R_elder' (ra_ s) (Kd.R_base l) hb) (Kd.R_lower (Kd.R_new' (Kd.R_new' l (Kd.R_lt (ra_ m))) (Kd.R_lt (ra_ s))) (below_size (bl1_ HB u))) (blk_below (bk_ j) hb) (below_step (bl1_ HB u) hb) ?_
 clear m s j HB hb l
 intro m s x j HB
 refine ⟨_, _, rfl, (cz10_ j), pt_, fun hHeld => ?_⟩
 refine pur_ 12 (bo_ 13 8191) (some 11) HT_ ?_
 refine done_ (done_of HT_.out (by kernel_rfl)) ?_
 have f7 := cf10_ j
 try go_wp2_with (first | ((with_reducible refine gate_callee (f := 47) rfl ?_); refine gl_ 29 Tryz.func47 (spec_QuietSpans.calls k E _ _ y _ _ z G I J L M _ _ B O a2 T U d6 _ (ck_ b2 HB) a9.out (ck_ b3 HB) b0.out (ck_ b4 HB) b1.out A9.out) ?_; rintro e g8 ⟨g2, rfl, l, hb⟩; refine ⟨_, rfl, sh6_ (Kd.R_elder' (ra_ m) (Kd.R_base l) hb) (Kd.R_elder' (ra_ s) (Kd.R_base l) hb) (Kd.R_elder' (ra_ x) (Kd.R_base l) hb) (Kd.R_lower (Kd.R_new' (Kd.R_new' (Kd.R_new' l (Kd.R_lt (ra_ m))) (Kd.R_lt (ra_ s))) (Kd.R_lt (ra_ x))) (below_size (bl1_ HB u))) (blk_below (bk_ j) hb) (below_step (bl1_ HB u) hb) ?_⟩; clear m s x j HB hb l; intro m s x D j HB; obtain ⟨f1, f5, e4⟩ := Kd.R_slice x.out; subst e4; obtain ⟨f2, f6, e5⟩ := Kd.R_slice D.out; subst e5) | ((with_reducible refine gate_callee (f := 45) rfl ?_); refine gl_ 30 Tryz.func45 (spec_CutSpans.calls k _ _ d5 _ _ d6 e7 _ (cr_ x) (rl_ x) (cr_ D) (rl_ D) d8.out) ?_; rintro e g9 ⟨g3, rfl, l, hb⟩; refine ⟨_, rfl, sh7_ (Kd.R_elder' (ra_ m) (Kd.R_base l) hb) (Kd.R_elder' (ra_ s) (Kd.R_base l) hb) (Kd.R_elder' (ra_ x) (Kd.R_base l) hb) (Kd.R_elder' (ra_ D) (Kd.R_base l) hb) (Kd.R_lower (Kd.R_new' (Kd.R_new' (Kd.R_new' (Kd.R_new' l (Kd.R_lt (ra_ m))) (Kd.R_lt (ra_ s))) (Kd.R_lt (ra_ x))) (Kd.R_lt (ra_ D))) (below_size (bl1_ HB u))) (blk_below (bk_ j) hb) (below_step (bl1_ HB u) hb) ?_⟩; clear m s x D j HB hb l; intro m s x D e3 j HB))
 go_ret
 exact ⟨_, er_, by (with_reducible repeat (first | apply Kd.R_alloc | apply Kd.R_drewN | apply Kd.R_drew)); exact Kd.R_mono e3.out (fun _ hk => trivial), bl1_ HB u⟩

/-! ### spec_ContactsOf: function 6 -/
mutual
def spec_ContactsOf.j0 : Nat → Int → Int → Int → Int → List S54 → Bool → Int → List S68 → List S70 → Int → Int → Int → Int → Int → List S76 → Int → Option (List S54)
 | 0, _, _, _, _, _, _, _, _, _, _, _, _, _, _, _, _ => none
 | k + 1, j, m, G, I, l, E, J, L, M, O, T, U, X, Y, Z, x => if E = true then (some l) else ((spec_SpeakingSpans.f k J L M O T U X Y Z x j m G I).bind fun y => ((spec_ShortenSpans.f k y x 0).bind fun z => (spec_ContactsOf.l0 k j m l z 0)))
def spec_ContactsOf.l0 : Nat → Int → Int → List S54 → List S52 → Int → Option (List S54)
 | 0, _, _, _, _, _ => none
 | k + 1, j, m, l, u, s => if s < (u.length : Int) then ((spec_Min.f j m).bind fun B => ((spec_Max.f j m).bind fun D => (if 0 ≤ s then (if l.length < 4398046511104 then (spec_ContactsOf.l0 k j m (l ++ [(⟨B, D, (rd_T52 u s).f0, (rd_T52 u s).f1⟩ : S54)]) u (wrap64 (s + 1))) else (none)) else (none)))) else (some l)
end
def spec_ContactsOf.f (k : Nat) (j : Int) (D : List S68) (E : List S70) (l m s u x : Int) (G : List S76) (y z B I J : Int) : Option (List S54) := (some (([] : List S54) : List S54)).bind fun L => (if z = B then (spec_ContactsOf.j0 k z B I J L true j D E l m s u x G y) else ((spec_IsSky.f k j D E l m s u x G y).bind fun M => (spec_ContactsOf.j0 k z B I J L (!M) j D E l m s u x G y)))
def spec_ContactsOf.T4 : Bool × List (List Nat × List Nat) := (true, [([], []), ([], []), ([], []), ([], []), ([], []), ([0, 1, 2, 3, 4], [0, 1, 2, 3, 4]), ([], []), ([6], [6]), ([5, 7, 5], [5, 7]), ([8, 8, 0, 1, 2, 3, 4, 5, 6, 7, 8], [8])])
def spec_ContactsOf.B4 : List Nat := [0, 0, 0, 0, 0, 31, 0, 64, 255, 511]
theorem spec_ContactsOf.tab4 : rtab .any (opsOf Tryz.f6 4) = spec_ContactsOf.T4 := by kernel_rfl
theorem spec_ContactsOf.bits4 : waitsOk spec_ContactsOf.T4.2 spec_ContactsOf.B4 = true := by kernel_rfl
def spec_ContactsOf.T8 : Bool × List (List Nat × List Nat) := (true, [([], []), ([], []), ([], []), ([1, 2], [1, 2]), ([], []), ([], []), ([4, 5, 3], [4, 5]), ([], []), ([], []), ([7, 8], [7, 8]), ([9], [9]), ([10], [10]), ([], []), ([], []), ([12, 13], [12, 13]), ([14], [14]), ([15], [15]), ([3, 6, 11, 16], [3, 6, 11, 16]), ([17], [17]), ([0, 18, 6], [0, 18]), ([19, 19, 0, 1, 2, 3, 4, 5, 6, 7, 8, 9, 10, 11, 12, 13, 14, 15, 16, 17, 18, 19], [0, 19])])
def spec_ContactsOf.B8 : List Nat := [0, 0, 0, 6, 0, 0, 62, 0, 0, 384, 896, 1920, 0, 0, 12288, 28672, 61440, 131070, 262142, 524287, 1048575]
theorem spec_ContactsOf.tab8 : rtab .any (opsOf Tryz.f6 8) = spec_ContactsOf.T8 := by kernel_rfl
theorem spec_ContactsOf.bits8 : waitsOk spec_ContactsOf.T8.2 spec_ContactsOf.B8 = true := by kernel_rfl
theorem spec_ContactsOf.calls (k : Nat) (D : Int) (U : Option Addr) (a7 : Nat) (u : List S68) (X : Option Addr) (a8 : Nat) (x : List S70) (E G I J L : Int) (Y : Option Addr) (a9 : Nat) (y : List S76) (z M O a3 a4 : Int) (r : List S54) (w : World) (f6 : Kd.C k68 w U u.length u) (f3 : u.length ≤ a7) (f7 : Kd.C k70 w X x.length x) (f4 : x.length ≤ a8) (f8 : Kd.C k76 w Y y.length y) (f5 : y.length ≤ a9) (h : spec_ContactsOf.f k D u x E G I J L y z M O a3 a4 = some r) :
  Calls Tryz.prog 6 #[.agg #[iv_ D, .slice U u.length a7, .slice X x.length a8, iv_ E, iv_ G, iv_ I, iv_ J, iv_ L, .slice Y y.length a9, iv_ z], iv_ M, iv_ O, iv_ a3, iv_ a4] w fun e w' => ∃ g4 : Value, e = .returned (g4) ∧ Kd.R k54 54 w' w.heap.size (fun _ => True) g4 r ∧ Below w.heap.size w w' := by
 have j8 := Tryz.underlying34
 have j9 := Tryz.underlying54
 have e4 := Aside0.mk f6
 have d9 := Aside0.mk f3
 clear f6 f3
 have e5 := Aside0.mk f7
 have e0 := Aside0.mk f4
 clear f7 f4
 have e6 := Aside0.mk f8
 have e1 := Aside0.mk f5
 clear f8 f5
 have HB := Aside0.mk (Below.refl w.heap.size w)
 have H := h
 clear h
 unfold spec_ContactsOf.f at H
 replace H : ∃ y_ : List S54, Aside0 (y_ = (([] : List S54))) ∧ (if M = O then (spec_ContactsOf.j0 k M O a3 a4 y_ true D u x E G I J L y z) else ((spec_IsSky.f k D u x E G I J L y z).bind fun c1 => (spec_ContactsOf.j0 k M O a3 a4 y_ (!c1) D u x E G I J L y z))) = some r := ⟨_, ⟨rfl⟩, yh_ H⟩
 obtain ⟨d2, e7, H⟩ := H
 have d3 := Aside0.mk H
 clear H
 go_enter Tryz.func6, Tryz.ntmps6
 go_upto_region 2 with (first | ((with_reducible refine gd_ 5 ?_); refine bx_ 5 34 #[iv_ D, .slice U u.length a7, .slice X x.length a8, iv_ E, iv_ G, iv_ I, iv_ J, iv_ L, .slice Y y.length a9, iv_ z] ?_; intro c0 hg w7 hbox hb; refine sh3_ (below_step (bl_ HB) hb) hbox (ge_ hg (bl_ HB)) ?_; clear HB hb hbox hg; intro HB j B) | ((with_reducible refine gate_dst (N := 14) rfl ?_); refine Kd.R_lit k54 _ 54 ?hg (N := 14) ?hd (xs := ([] : List S54)) (inner := []) (ok := fun _ => True) (okp := fun _ => True) ?hr ?hp (fun _ hk => hk) trivial (Below.refl _ _) (Nat.le_refl _) (by simp) ?_; (case hd => rfl); (case hg => rfl); (case hr => first | (go_simp; done) | (go_simp; rfl)); (case hp => exact (Reps.none _ _)); intro i6 w8 b5 hb hg_ hnew_; clear hg_ hnew_; (first | rw [← e7.out] at b5 | (simp only [Int.reduceToNat] at b5; rw [← e7.out] at b5)); refine sh3_ (Kd.R_lower b5 (below_size (bl1_ HB B))) (blk_below (bk_ j) hb) (below_step (bl1_ HB B) hb) ?_; clear j HB hb b5; intro b3 j HB))
 (try simp only [Act.put, List.setIfInBounds_toArray, List.set_cons_zero, List.set_cons_succ])
 go_cut [22] (fun i5 wc => ∃ (kq : Nat) (d1 : Bool), i5 = .bool d1 ∧ Aside0 (spec_ContactsOf.j0 kq M O a3 a4 d2 d1 D u x E G I J L y z = some r) ∧ Aside0 (kq ≤ k) ∧ Aside0 (Kd.R k54 54 wc w.heap.size (fun _ => True) i6 d2) ∧ Aside0 (wc.heap[c0]? = some (.cells #[iv_ D, (.slice U u.length a7), (.slice X x.length a8), iv_ E, iv_ G, iv_ I, iv_ J, iv_ L, (.slice Y y.length a9), iv_ z] 34 (0, 0))) ∧ Aside0 (Below w.heap.size w wc))
 case first =>
  have H := d3.out
  clear d3
  by_cases c10 : M = O
  ·rw [if_pos c10] at H
   obtain ⟨b4, h5⟩ := bt_ c10
   clear c10
   (first | rw [b4] | (simp only [i64_w, i32_w]; rw [b4]) | skip)
   have H' := Aside0.mk H
   clear H
   go_wp2
   go_meet
   case rel => exact ⟨_, (true), (by first | rfl | (simp; done) | (simp [*]; done)), H', ⟨by first | omega | exact Nat.le_refl _⟩, ⟨ra_ b3⟩, ⟨by (with_reducible repeat (first | refine blk_drewN ?_ _ | refine blk_drew ?_ | refine blk_alloc ?_ _)); exact j.out⟩, ⟨bl1_ HB B⟩⟩
  ·rw [if_neg c10] at H
   obtain ⟨b4, h5⟩ := bn_ c10
   (first | rw [b4] | (simp only [i64_w, i32_w]; rw [b4]) | skip)
   replace H := bs_ H
   obtain ⟨c1, g5, H⟩ := H
   have H' := Aside0.mk H
   clear H
   have j7 := cf10_ j
   go_wp2_with (first | (go_at_call 19; (with_reducible refine (spec_IsSky.calls k D _ _ u _ _ x E G I J L _ _ y z c1 _ ?side1 ?side2 ?side3 ?side4 ?side5 ?side6 g5.out).mono ?_); (case side1 => exact ck_ e4 HB); (case side2 => exact d9.out); (case side3 => exact ck_ e5 HB); (case side4 => exact e0.out); (case side5 => exact ck_ e6 HB); (case side6 => exact e1.out); rintro e k3 ⟨rfl, hb⟩; refine sh3_ (Kd.R_below (ra_ b3) hb) (blk_below (bk_ j) hb) (below_step (bl1_ HB B) hb) ?_; clear b3 j HB hb; intro b3 j HB))
   go_meet
   case rel => exact ⟨_, (!c1), (by first | rfl | (simp; done) | (simp [*]; done)), H', ⟨by first | omega | exact Nat.le_refl _⟩, ⟨ra_ b3⟩, ⟨by (with_reducible repeat (first | refine blk_drewN ?_ _ | refine blk_drew ?_ | refine blk_alloc ?_ _)); exact j.out⟩, ⟨bl1_ HB B⟩⟩
 case rest =>
  clear d3
  obtain ⟨kq, d1, rfl, HA, e2, m, j, HB⟩ := hcut
  cases kq with
  | zero => exact absurd HA.out (by simp [spec_ContactsOf.j0])
  | succ b0 =>
   have H := HA.out
   clear HA
   simp only [spec_ContactsOf.j0] at H
   by_cases b9 : d1 = true
   ·subst b9
    rw [if_pos rfl] at H
    obtain rfl := Option.some.inj H
    go_wp2
    go_ret
    exact ⟨_, er_, ra_ m, bl1_ HB B⟩
   ·replace b9 := Bool.eq_false_iff.mpr b9
    subst b9
    have H1 : ((spec_SpeakingSpans.f b0 D u x E G I J L y z M O a3 a4).bind fun d0 => ((spec_ShortenSpans.f b0 d0 z 0).bind fun s => (spec_ContactsOf.l0 b0 M O d2 s 0))) = some r := by rw [if_neg (show ¬ (false = true) by decide)] at H; exact H
    clear H
    have H := H1
    clear H1
    replace H := bs_ H
    obtain ⟨d0, g6, H⟩ := H
    replace H := bs_ H
    obtain ⟨s, g7, H⟩ := H
    have H' := Aside0.mk H
    clear H
    try go_wp2
    refine sh3_ (Kd.R_drew m.out) (blk_drew j.out) (below_drew1 HB.out) ?_
    clear m j HB
    intro m j HB
    refine start_ (n := 10) (S := fun w' => Cz10 w' c0 (iv_ D) (.slice U u.length a7) (.slice X x.length a8) (iv_ E) (iv_ G) (iv_ I) (iv_ J) (iv_ L) (.slice Y y.length a9) (iv_ z)) (ds := []) (bo_ 10 0) (by kernel_rfl) rfl rfl (cz10_ j) (fun hHeld => ?_); refine with_tabW spec_ContactsOf.tab4 spec_ContactsOf.bits4 (fun HT_ HW_ => ?_)
    generalize wc.drew = k4 at m j HB hHeld ⊢
    refine pur_ 1 (bo_ 10 2) (some 25) HT_ ?_
    refine pur_ 2 (bo_ 10 6) (some 26) HT_ ?_
    refine pur_ 3 (bo_ 10 14) (some 27) HT_ ?_
    refine pur_ 4 (bo_ 10 30) (some 28) HT_ ?_
    refine pur_ 6 (bo_ 10 94) (some 30) HT_ ?_
    refine tak_ 0 (bo_ 10 95) (some 24) HT_ HW_ hHeld ?_
    refine tak_ 7 (bo_ 10 223) (some 31) HT_ HW_ hHeld ?_
    refine onc_ 5 (bo_ 10 255) (some 29) HT_ Tryz.func21 (spec_SpeakingSpans.calls b0 D _ _ u _ _ x E G I J L _ _ y z M O a3 a4 d0 _ (ck_ e4 HB) d9.out (ck_ e5 HB) e0.out (ck_ e6 HB) e1.out g6.out) ?_
    rintro e k5 ⟨k0, rfl, b2, hb⟩
    refine sh4_ (Kd.R_below (ra_ m) hb) (Kd.R_lower b2 (below_size (bl1_ HB B))) (blk_below (bk_ j) hb) (below_step (bl1_ HB B) hb) ?_
    clear m j HB hb b2
    intro m Z j HB
    obtain ⟨i9, j4, f2⟩ := Kd.R_slice Z.out
    (first | subst f2 | (injection f2 with f1_ f2_ f3_; have i1 := f1_.symm; have i2 := f3_.symm; clear f1_ f2_ f3_; subst i1; subst i2))
    refine ⟨_, _, rfl, (cz10_ j), pt_, fun hHeld => ?_⟩
    refine onc_ 8 (bo_ 10 511) (some 32) HT_ Tryz.func20 (spec_ShortenSpans.calls b0 _ _ d0 z 0 s _ (cr_ Z) (rl_ Z) g7.out) ?_
    rintro e k6 ⟨i7, rfl, b2, hb⟩
    refine sh5_ (Kd.R_below (ra_ m) hb) (Kd.R_elder' (ra_ Z) (Kd.R_base b2) hb) (Kd.R_lower (Kd.R_new' b2 (Kd.R_lt (ra_ Z))) (below_size (bl1_ HB B))) (blk_below (bk_ j) hb) (below_step (bl1_ HB B) hb) ?_
    clear m Z j HB hb b2
    intro m Z h0 j HB
    refine ⟨_, _, rfl, (cz10_ j), pt_, fun hHeld => ?_⟩
    refine pur_ 9 (bo_ 10 1023) (some 12) HT_ ?_
    refine done_ (done_of HT_.out (by kernel_rfl)) ?_
    try go_wp2
    go_loopg [11, 13] b0 (fun kq i3 i4 w' => ∃ (b8 : List S54) (l : Int), i4 = iv_ l ∧ Aside0 (spec_ContactsOf.l0 kq M O b8 s l = some r) ∧ Aside0 (kq ≤ b0) ∧ Aside0 (Kd.R k54 54 w' w.heap.size (fun _ => True) i3 b8) ∧ Aside0 (Kd.R k52 52 w' w.heap.size (fun _ => True) i7 s) ∧ Aside0 (w'.heap[c0]? = some (.cells #[iv_ D, (.slice U u.length a7), (.slice X x.length a8), iv_ E, iv_ G, iv_ I, iv_ J, iv_ L, (.slice Y y.length a9), iv_ z] 34 (0, 0))) ∧ Aside0 (Below w.heap.size w w'))
    case atStart => exact ⟨(d2), (0), (by first | rfl | (simp; done) | (simp [*]; done)), H', ⟨Nat.le_refl _⟩, ⟨ra_ m⟩, ⟨by (with_reducible repeat (first | apply Kd.R_alloc | apply Kd.R_drewN | apply Kd.R_drew)); exact Kd.R_mono h0.out (fun _ hk => trivial)⟩, ⟨by (with_reducible repeat (first | refine blk_drewN ?_ _ | refine blk_drew ?_ | refine blk_alloc ?_ _)); exact j.out⟩, ⟨bl1_ HB B⟩⟩
    case round =>
     clear H'
     obtain ⟨b8, l, rfl, HA, e3, m, T, j, HB⟩ := hrel
     cases gk with
     | zero => exact absurd HA.out (by simp [spec_ContactsOf.l0])
     | succ k2 =>
      have H := HA.out
      clear HA
      simp only [spec_ContactsOf.l0] at H
      by_cases b1 : l < (s.length : Int)
      ·rw [if_pos b1] at H
       have h6 := decide_eq_true b1
       clear b1
       replace H := bs_ H
       obtain ⟨b6, g8, H⟩ := H
       replace H := bs_ H
       obtain ⟨b7, g9, H⟩ := H
       replace H := ifn_ H
       obtain ⟨e8, H⟩ := H
       have j3 := decide_eq_true e8
       clear e8
       replace H := ifn_ H
       obtain ⟨e9, H⟩ := H
       have h2 := Aside0.mk e9
       clear e9
       replace H : ∃ y_ : List S54, Aside0 (y_ = (b8 ++ [(⟨b6, b7, (rd_T52 s l).f0, (rd_T52 s l).f1⟩ : S54)])) ∧ (spec_ContactsOf.l0 k2 M O y_ s (wrap64 (l + 1))) = some r := ⟨_, ⟨rfl⟩, yh_ H⟩
       obtain ⟨i8, h3, H⟩ := H
       have H' := Aside0.mk H
       clear H
       obtain ⟨j1, j5, h9⟩ := Kd.R_slice T.out
       subst h9
       try go_wp2
       refine sh4_ (Kd.R_drew m.out) (Kd.R_drew T.out) (blk_drew j.out) (below_drew1 HB.out) ?_
       clear m T j HB
       intro m T j HB
       have d4 : 0 ≤ (l : Int) := od_
       have d6 : l < (s.length : Int) := od_
       obtain ⟨a6, h7, f9, g0⟩ := at_T52 (Kd.R_reads' T.out).2.2 l d4 d6
       cases h7
       replace d4 := eq_true d4
       replace d6 := eq_true d6
       have d5 : 0 ≤ (l : Int) := od_
       have d7 : l < (s.length : Int) := od_
       obtain ⟨h4, h8, g1, g2⟩ := at_T52 (Kd.R_reads' T.out).2.2 l d5 d7
       obtain rfl : a6 = h4 := (by injection h8)
       replace d5 := eq_true d5
       replace d7 := eq_true d7
       refine start_ (n := 21) (S := fun w' => w'.cell? (a6.add ((l).toNat * 2)) = some (iv_ ((rd_T52 s l).f0)) ∧ w'.cell? ⟨(a6.add ((l).toNat * 2)).block, (a6.add ((l).toNat * 2)).off + 1, none⟩ = some (iv_ ((rd_T52 s l).f1)) ∧ w'.cell? (a6.add ((l).toNat * 2)) = some (iv_ ((rd_T52 s l).f0)) ∧ w'.cell? ⟨(a6.add ((l).toNat * 2)).block, (a6.add ((l).toNat * 2)).off + 1, none⟩ = some (iv_ ((rd_T52 s l).f1))) (ds := [18, 19]) (bo_ 21 0) (by kernel_rfl) rfl rfl ⟨f9, g0, g1, g2⟩ (fun hHeld => ?_); refine with_tabW spec_ContactsOf.tab8 spec_ContactsOf.bits8 (fun HT_ HW_ => ?_)
       generalize wr.drew = k7 at m T j HB f9 g0 g1 g2 hHeld ⊢
       refine pur_ 0 (bo_ 21 1) (some 39) HT_ ?_
       refine pur_ 1 (bo_ 21 3) (some 40) HT_ ?_
       refine pur_ 2 (bo_ 21 7) (some 41) HT_ ?_
       refine pur_ 4 (bo_ 21 23) (some 43) HT_ ?_
       refine pur_ 5 (bo_ 21 55) (some 44) HT_ ?_
       refine pur_ 7 (bo_ 21 183) (some 46) HT_ ?_
       refine pur_ 8 (bo_ 21 439) (some 47) HT_ ?_
       refine pur_ 9 (bo_ 21 951) (some 48) HT_ ?_
       refine pur_ 10 (bo_ 21 1975) (some 49) HT_ ?_
       refine pur_ 12 (bo_ 21 6071) (some 51) HT_ ?_
       refine pur_ 13 (bo_ 21 14263) (some 52) HT_ ?_
       refine pur_ 14 (bo_ 21 30647) (some 53) HT_ ?_
       refine pur_ 15 (bo_ 21 63415) (some 54) HT_ ?_
       refine tak_ 11 (bo_ 21 65463) (some 50) HT_ HW_ hHeld ?_
       refine tak_ 16 (bo_ 21 130999) (some 55) HT_ HW_ hHeld ?_
       refine onc_ 3 (bo_ 21 131007) (some 42) HT_ Tryz.func22 (spec_Min.calls M O b6 _ g8.out) ?_
       rintro e w' ⟨rfl, ⟨nd, rfl⟩⟩
       refine ⟨_, _, rfl, ⟨hHeld.1, hHeld.2.1, hHeld.2.2.1, hHeld.2.2.2⟩, pt_, fun hHeld => ?_⟩
       refine onc_ 6 (bo_ 21 131071) (some 45) HT_ Tryz.func23 (spec_Max.calls M O b7 _ g9.out) ?_
       rintro e w' ⟨rfl, ⟨nd, rfl⟩⟩
       refine ⟨_, _, rfl, ⟨hHeld.1, hHeld.2.1, hHeld.2.2.1, hHeld.2.2.2⟩, pt_, fun hHeld => ?_⟩
       refine pur_ 17 (bo_ 21 262143) (some 56) HT_ ?_
       refine last_ (i := 18) (N := some 57) (bo_ 21 524287) rfl rfl (one_of HT_.out (by kernel_rfl)) (by decide) (fun K hK => ?_)
       refine value_ (w1 := ?_) (v := ?_) (by rfl) rfl ?_ ?_
       rotate_left 2
       ·go_simp
        constructor
        ·rfl
        ·rfl
       refine hK.out _ _ ?_
       clear hK K
       refine norm_ (show Act.put _ (some 57) _ = _ from pt_) ?_
       refine last_ (i := 19) (N := some 58) (bo_ 21 1048575) rfl rfl (one_of HT_.out (by kernel_rfl)) (by decide) (fun K hK => ?_)
       refine Kd.R_append_step k54 (w0 := w) w.heap.size (by rfl) (.tmp 39) (.tmp 57) 28 54 (.agg #[(iv_ 0), (iv_ 0), (iv_ 0), (iv_ 0)]) 32 rfl Tryz.underlying28 info54 rfl (by decide) (by omega) u11 b8 (⟨b6, b7, (rd_T52 s l).f0, (rd_T52 s l).f1⟩ : S54) [iv_ b6, iv_ b7, iv_ ((rd_T52 s l).f0), iv_ ((rd_T52 s l).f1)] (fun _ => True) (fun _ => False) rfl rfl ?aP (fun _ hk => hk.elim) ?aF ?aO ?aB ?aS ?aL ?_
       (case aP => exact k54_mkM _ _ _ (⟨b6, b7, (rd_T52 s l).f0, (rd_T52 s l).f1⟩ : S54))
       (case aB => exact (bl1_ HB B))
       (case aF => exact (fun _ _ => trivial))
       (case aO => exact (ra_ m))
       (case aS => exact (below_size (bl1_ HB B)))
       (case aL => have := h2.out; omega)
       intro k1 k8 ho hb hg hat
       rw [← h3.out] at ho
       refine sh4_ (Kd.R_over' (ra_ T) (Kd.R_typed (ra_ m)) (by decide) hg) (blk_grown (g := c0) (o := .cells #[iv_ D, .slice U u.length a7, .slice X x.length a8, iv_ E, iv_ G, iv_ I, iv_ J, iv_ L, .slice Y y.length a9, iv_ z] 34 (0, 0)) (bk_ j) hg (Kd.R_ne m.out j.out (by decide))) hb ho ?_
       clear T j HB m ho hb hg hat
       intro T j HB h1
       refine hK.out _ _ ?_
       clear hK K
       refine norm_ (show Act.put _ (some 58) _ = _ from pt_) ?_
       refine pur_ 20 (bo_ 21 2097151) (some 11) HT_ ?_
       refine done_ (done_of HT_.out (by kernel_rfl)) ?_
       try go_wp2
       go_roundg k2
       case measure => have := e2.out; have := e3.out; omega
       case rel => exact ⟨(i8), (wrap64 (l + 1)), (by first | rfl | (simp; done) | (simp [*]; done)), H', ⟨by have := e2.out; have := e3.out; omega⟩, ⟨ra_ h1⟩, ⟨ra_ T⟩, ⟨by (with_reducible repeat (first | refine blk_drewN ?_ _ | refine blk_drew ?_ | refine blk_alloc ?_ _)); exact j.out⟩, ⟨bl1_ HB B⟩⟩
      ·rw [if_neg b1] at H
       have h6 : decide (l < (s.length : Int)) = false := decide_eq_false b1
       clear b1
       obtain rfl := Option.some.inj H
       obtain ⟨j2, j6, i0⟩ := Kd.R_slice T.out
       subst i0
       go_wp2
       go_ret
       exact ⟨_, er_, ra_ m, bl1_ HB B⟩

/-! ### spec_PlanOf: function 14 -/
mutual
def spec_PlanOf.l0 : Nat → Int → Int → List S54 → Int → Int → Int → List S68 → List S70 → Int → Int → Int → Int → Int → List S76 → Int → Option (List S54)
 | 0, _, _, _, _, _, _, _, _, _, _, _, _, _, _, _ => none
 | k + 1, s, u, l, m, j, x, y, z, B, D, E, G, I, J, L => if j < m then (spec_PlanOf.l1 k s u l m j (wrap64 (j + 1)) x y z B D E G I J L) else (some l)
def spec_PlanOf.l1 : Nat → Int → Int → List S54 → Int → Int → Int → Int → List S68 → List S70 → Int → Int → Int → Int → Int → List S76 → Int → Option (List S54)
 | 0, _, _, _, _, _, _, _, _, _, _, _, _, _, _, _, _ => none
 | k + 1, s, u, l, m, j, M, x, y, z, B, D, E, G, I, J, L => if M < m then ((spec_ContactsOf.f k x y z B D E G I J L j M s u).bind fun O => (if l.length + O.length < 4398046511104 then (spec_PlanOf.l1 k s u (l ++ O) m j (wrap64 (M + 1)) x y z B D E G I J L) else (none))) else (spec_PlanOf.l0 k s u l m (wrap64 (j + 1)) x y z B D E G I J L)
end
def spec_PlanOf.f (k : Nat) (j : Int) (z : List S68) (B : List S70) (l m s u x : Int) (D : List S76) (y E G : Int) : Option (List S54) := (spec_NodesOf.f j z B l m s u x D y).bind fun I => (spec_PlanOf.l0 k E G (([] : List S54)) I 0 j z B l m s u x D y)
theorem spec_PlanOf.calls (k : Nat) (u : Int) (U : Option Addr) (a0 : Nat) (l : List S68) (X : Option Addr) (a3 : Nat) (m : List S70) (x y z B D : Int) (Y : Option Addr) (a4 : Nat) (s : List S76) (E M O : Int) (r : List S54) (w : World) (d6 : Kd.C k68 w U l.length l) (d3 : l.length ≤ a0) (d7 : Kd.C k70 w X m.length m) (d4 : m.length ≤ a3) (d8 : Kd.C k76 w Y s.length s) (d5 : s.length ≤ a4) (h : spec_PlanOf.f k u l m x y z B D s E M O = some r) :
  Calls Tryz.prog 14 #[.agg #[iv_ u, .slice U l.length a0, .slice X m.length a3, iv_ x, iv_ y, iv_ z, iv_ B, iv_ D, .slice Y s.length a4, iv_ E], iv_ M, iv_ O] w fun e w' => ∃ e0 : Value, e = .returned (e0) ∧ Kd.R k54 54 w' w.heap.size (fun _ => True) e0 r ∧ Below w.heap.size w w' := by
 have f7 := Tryz.underlying34
 have c0 := Aside0.mk d6
 have b7 := Aside0.mk d3
 clear d6 d3
 have c1 := Aside0.mk d7
 have b8 := Aside0.mk d4
 clear d7 d4
 have d0 := Aside0.mk d8
 have b9 := Aside0.mk d5
 clear d8 d5
 have HB := Aside0.mk (Below.refl w.heap.size w)
 have H := h
 clear h
 unfold spec_PlanOf.f at H
 replace H : ∃ y_ : List S54, Aside0 (y_ = (([] : List S54))) ∧ ((spec_NodesOf.f u l m x y z B D s E).bind fun L => (spec_PlanOf.l0 k M O y_ L 0 u l m x y z B D s E)) = some r := ⟨_, ⟨rfl⟩, yh_ H⟩
 obtain ⟨f3, d1, H⟩ := H
 replace H := bs_ H
 obtain ⟨L, A4, H⟩ := H
 have H' := Aside0.mk H
 clear H
 go_enter Tryz.func14, Tryz.ntmps14
 go_wp2_with (first | ((with_reducible refine gd_ 3 ?_); refine bx_ 3 34 #[iv_ u, .slice U l.length a0, .slice X m.length a3, iv_ x, iv_ y, iv_ z, iv_ B, iv_ D, .slice Y s.length a4, iv_ E] ?_; intro b4 hg w5 hbox hb; refine sh3_ (below_step (bl_ HB) hb) hbox (ge_ hg (bl_ HB)) ?_; clear HB hb hbox hg; intro HB j G) | ((with_reducible refine gate_dst (N := 11) rfl ?_); refine Kd.R_lit k54 _ 54 ?hg (N := 11) ?hd (xs := ([] : List S54)) (inner := []) (ok := fun _ => True) (okp := fun _ => True) ?hr ?hp (fun _ hk => hk) trivial (Below.refl _ _) (Nat.le_refl _) (by simp) ?_; (case hd => rfl); (case hg => rfl); (case hr => first | (go_simp; done) | (go_simp; rfl)); (case hp => exact (Reps.none _ _)); intro f8 w6 a7 hb hg_ hnew_; clear hg_ hnew_; (first | rw [← d1.out] at a7 | (simp only [Int.reduceToNat] at a7; rw [← d1.out] at a7)); refine sh3_ (Kd.R_lower a7 (below_size (bl1_ HB G))) (blk_below (bk_ j) hb) (below_step (bl1_ HB G) hb) ?_; clear j HB hb a7; intro b0 j HB; have f6 := cf10_ j) | ((with_reducible refine gate_callee (f := 37) rfl ?_); refine gl_ 13 Tryz.func37 (spec_NodesOf.calls u _ _ l _ _ m x y z B D _ _ s E L _ (ck_ c0 HB) b7.out (ck_ c1 HB) b8.out (ck_ d0 HB) b9.out A4.out) ?_; rintro e w9 ⟨rfl, hb⟩; refine ⟨_, rfl, sh3_ (Kd.R_below (ra_ b0) hb) (blk_below (bk_ j) hb) (below_step (bl1_ HB G) hb) ?_⟩; clear b0 j HB hb; intro b0 j HB))
 go_loopg [7, 9] k (fun kq v7 v9 w' => ∃ (b3 : List S54) (J : Int), v9 = iv_ J ∧ Aside0 (spec_PlanOf.l0 kq M O b3 L J u l m x y z B D s E = some r) ∧ Aside0 (kq ≤ k) ∧ Aside0 (Kd.R k54 54 w' w.heap.size (fun _ => True) v7 b3) ∧ Aside0 (w'.heap[b4]? = some (.cells #[iv_ u, (.slice U l.length a0), (.slice X m.length a3), iv_ x, iv_ y, iv_ z, iv_ B, iv_ D, (.slice Y s.length a4), iv_ E] 34 (0, 0))) ∧ Aside0 (Below w.heap.size w w'))
 case atStart => exact ⟨(f3), (0), (by first | rfl | (simp; done) | (simp [*]; done)), H', ⟨Nat.le_refl _⟩, ⟨ra_ b0⟩, ⟨by (with_reducible repeat (first | refine blk_drewN ?_ _ | refine blk_drew ?_ | refine blk_alloc ?_ _)); exact j.out⟩, ⟨bl1_ HB G⟩⟩
 case round =>
  clear H'
  obtain ⟨b3, J, rfl, HA, a8, I, j, HB⟩ := hrel
  cases gk with
  | zero => exact absurd HA.out (by simp [spec_PlanOf.l0])
  | succ k1 =>
   have H := HA.out
   clear HA
   simp only [spec_PlanOf.l0] at H
   by_cases c10 : J < L
   ·rw [if_pos c10] at H
    have e7 := decide_eq_true c10
    clear c10
    have H' := Aside0.mk H
    clear H
    go_wp2
    go_loopg [7, 10] k1 (fun kq v7 f1 w' => ∃ (a6 : List S54) (T : Int), f1 = iv_ T ∧ Aside0 (spec_PlanOf.l1 kq M O a6 L J T u l m x y z B D s E = some r) ∧ Aside0 (kq ≤ k1) ∧ Aside0 (Kd.R k54 54 w' w.heap.size (fun _ => True) v7 a6) ∧ Aside0 (w'.heap[b4]? = some (.cells #[iv_ u, (.slice U l.length a0), (.slice X m.length a3), iv_ x, iv_ y, iv_ z, iv_ B, iv_ D, (.slice Y s.length a4), iv_ E] 34 (0, 0))) ∧ Aside0 (Below w.heap.size w w'))
    case atStart => exact ⟨(b3), (wrap64 (J + 1)), (by first | rfl | (simp; done) | (simp [*]; done)), H', ⟨Nat.le_refl _⟩, ⟨ra_ I⟩, ⟨by (with_reducible repeat (first | refine blk_drewN ?_ _ | refine blk_drew ?_ | refine blk_alloc ?_ _)); exact j.out⟩, ⟨bl1_ HB G⟩⟩
    case round =>
     clear H'
     obtain ⟨a6, T, rfl, HA, a9, I, j, HB⟩ := hrel
     cases gk with
     | zero => exact absurd HA.out (by simp [spec_PlanOf.l1])
     | succ k2 =>
      have H := HA.out
      clear HA
      simp only [spec_PlanOf.l1] at H
      by_cases a5 : T < L
      ·rw [if_pos a5] at H
       have e8 := decide_eq_true a5
       clear a5
       replace H := bs_ H
       obtain ⟨b2, e1, H⟩ := H
       replace H := ifn_ H
       obtain ⟨d2, H⟩ := H
       have e5 := Aside0.mk d2
       clear d2
       replace H : ∃ y_ : List S54, Aside0 (y_ = (a6 ++ b2)) ∧ (spec_PlanOf.l1 k2 M O y_ L J (wrap64 (T + 1)) u l m x y z B D s E) = some r := ⟨_, ⟨rfl⟩, yh_ H⟩
       obtain ⟨f4, e6, H⟩ := H
       have H' := Aside0.mk H
       clear H
       have f5 := cf10_ j
       go_wp2_with (first | ((with_reducible refine gate_callee (f := 6) rfl ?_); refine gl_ 32 Tryz.func6 (spec_ContactsOf.calls k2 u _ _ l _ _ m x y z B D _ _ s E J T M O b2 _ (ck_ c0 HB) b7.out (ck_ c1 HB) b8.out (ck_ d0 HB) b9.out e1.out) ?_; rintro e g1 ⟨f9, rfl, b5, hb⟩; refine ⟨_, rfl, sh4_ (Kd.R_elder' (ra_ I) (Kd.R_base b5) hb) (Kd.R_lower (Kd.R_new' b5 (Kd.R_lt (ra_ I))) (below_size (bl1_ HB G))) (blk_below (bk_ j) hb) (below_step (bl1_ HB G) hb) ?_⟩; clear I j HB hb b5; intro I Z j HB; obtain ⟨e3, e9, f0⟩ := Kd.R_slice Z.out; subst f0) | ((with_reducible refine gate_builtin (b := .append) (xs := #[.tmp 26, .tmp 32]) rfl ?_); at_builtin; refine Kd.R_append_rows k54 (w0 := w) w.heap.size rfl (.tmp 26) (.tmp 32) 28 54 (.agg #[(iv_ 0), (iv_ 0), (iv_ 0), (iv_ 0)]) 32 rfl Tryz.underlying28 info54 rfl (by decide) (by omega) u7 a6 b2 _ _ _ (fun k_ => some k_ ≠ (.slice e3 b2.length e9 : Value).ownBlock) (fun _ => False) rfl rfl ?aO ?aR (fun _ _ h => h) (fun _ h => h.elim) ?aF ?aB ?aS ?aL ?_; (case aR => repeat (first | exact (Kd.R_reads' Z.out).2.2 | (with_reducible refine Kd.C_alloc ?_ _) | (with_reducible refine Kd.C_drewN ?_ _) | (with_reducible refine Kd.C_drew ?_))); (case aB => exact (bl1_ HB G)); (case aF => exact (fun k_ hk => Kd.fresh' (Kd.R_lt (ra_ Z)) k_ hk)); (case aO => exact (by (with_reducible repeat (first | apply Kd.R_alloc | apply Kd.R_drewN | apply Kd.R_drew)); exact Kd.R_mono I.out (fun _ hk => hk.2))); (case aS => exact (below_size (bl1_ HB G))); (case aL => have := e5.out; omega); intro g0 g2 ho hb hg hat; rw [← e6.out] at ho; refine sh4_ (blk_grown (g := b4) (o := .cells #[iv_ u, .slice U l.length a0, .slice X m.length a3, iv_ x, iv_ y, iv_ z, iv_ B, iv_ D, .slice Y s.length a4, iv_ E] 34 (0, 0)) (bk_ j) hg (Kd.R_ne I.out j.out (by decide))) (Kd.R_after (ok := (fun _ => True)) (ra_ Z) hg hat) hb ho ?_; clear j Z HB I ho hb hg hat; intro j Z HB e4))
       go_roundg k2
       case measure => have := a8.out; have := a9.out; omega
       case rel => exact ⟨(f4), (wrap64 (T + 1)), (by first | rfl | (simp; done) | (simp [*]; done)), H', ⟨by have := a8.out; have := a9.out; omega⟩, ⟨by (with_reducible repeat (first | apply Kd.R_alloc | apply Kd.R_drewN | apply Kd.R_drew)); exact Kd.R_mono e4.out (fun _ hk => trivial)⟩, ⟨by (with_reducible repeat (first | refine blk_drewN ?_ _ | refine blk_drew ?_ | refine blk_alloc ?_ _)); exact j.out⟩, ⟨bl1_ HB G⟩⟩
      ·rw [if_neg a5] at H
       have e8 := decide_eq_false a5
       clear a5
       have H' := Aside0.mk H
       clear H
       go_wp2
       go_roundg k2
       case measure => have := a8.out; have := a9.out; omega
       case rel => exact ⟨(a6), (wrap64 (J + 1)), (by first | rfl | (simp; done) | (simp [*]; done)), H', ⟨by have := a8.out; have := a9.out; omega⟩, ⟨ra_ I⟩, ⟨by (with_reducible repeat (first | refine blk_drewN ?_ _ | refine blk_drew ?_ | refine blk_alloc ?_ _)); exact j.out⟩, ⟨bl1_ HB G⟩⟩
   ·rw [if_neg c10] at H
    have e7 : decide (J < L) = false := decide_eq_false c10
    clear c10
    obtain rfl := Option.some.inj H
    go_wp2
    go_ret
    exact ⟨_, er_, ra_ I, bl1_ HB G⟩

end Go.Proofs.YtpjhdehbikohmaaGreat.PFnExactPlanOf
