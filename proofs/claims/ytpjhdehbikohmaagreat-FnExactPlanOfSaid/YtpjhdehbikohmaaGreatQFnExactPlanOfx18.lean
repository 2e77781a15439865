-- Written by a program of this session for this claim (the kit's printer with changes).
import Derived.Test.YtpjhdehbikohmaaGreatQFnExactPlanOfx0
import Derived.Test.YtpjhdehbikohmaaGreatQFnExactPlanOfx12
import Derived.Test.YtpjhdehbikohmaaGreatQFnExactPlanOfx13
import Derived.Test.YtpjhdehbikohmaaGreatQFnExactPlanOfx14
import Derived.Test.YtpjhdehbikohmaaGreatQFnExactPlanOfx17
namespace Go.Proofs.YtpjhdehbikohmaaGreat.PFnExactPlanOf
open Go.RowKit Go.Proofs.YtpjhdehbikohmaaGreatW.PrintWords Go.Proofs.YtpjhdehbikohmaaGreatW.PrintLast Go.Proofs.YtpjhdehbikohmaaGreatW.PrintMore
attribute [local go_sem] max2_int min2_int max_two min_two max_three min_three max_four min_four   -- for this text's walks alone
set_option linter.unusedVariables false
set_option maxHeartbeats 8000000
set_option maxRecDepth 100000
set_option linter.unusedSimpArgs false

/-! ### impl_SpeakingSpans: function 29 -/
def impl_SpeakingSpans.f (k : Nat) (j : Int) (D : List S68) (E : List S70) (l m s u x : Int) (G : List S76) (y I J z B : Int) : Option (List S52) := (impl_SureWindows.f k j D E l m s u x G y I J z B).bind fun L => ((impl_QuietSpans.f k j D E l m s u x G y I z B).bind fun M => ((impl_QuietSpans.f k j D E l m s u x G y J z B).bind fun O => ((impl_Span_57.f k (([M, O] : List (List S52)))).bind fun T => ((impl_CutSpans.f k L T).bind fun U => (some U)))))
def impl_SpeakingSpans.T1 : Bool × List (List Nat × List Nat) := (true, [([], []), ([], []), ([], []), ([], []), ([], []), ([0, 1, 2, 3, 4], [0, 1, 2, 3, 4]), ([], []), ([], []), ([], []), ([], []), ([6, 7, 8, 9, 5], [6, 7, 8, 9]), ([], []), ([], []), ([], []), ([], []), ([11, 12, 13, 14, 10], [11, 12, 13, 14]), ([10, 15], [10, 15]), ([16, 15], [16]), ([5, 17, 17], [5, 17]), ([18, 18, 0, 1, 2, 3, 4, 5, 6, 7, 8, 9, 10, 11, 12, 13, 14, 15, 16, 17, 18], [18])])
def impl_SpeakingSpans.B1 : List Nat := [0, 0, 0, 0, 0, 31, 0, 0, 0, 0, 1023, 0, 0, 0, 0, 32767, 65535, 131071, 262143, 524287]
theorem impl_SpeakingSpans.tab1 : rtab .any (opsOf Tryz.f29 1) = impl_SpeakingSpans.T1 := by kernel_rfl
theorem impl_SpeakingSpans.bits1 : waitsOk impl_SpeakingSpans.T1.2 impl_SpeakingSpans.B1 = true := by kernel_rfl
theorem impl_SpeakingSpans.calls (k : Nat) (I : Int) (a5 : Option Addr) (b0 : Nat) (u : List S68) (a6 : Option Addr) (b1 : Nat) (x : List S70) (J L M O T : Int) (a7 : Option Addr) (b2 : Nat) (y : List S76) (U a1 a2 a3 a4 : Int) (r : List S52) (w : World) (e7 : Kd.C k68 w a5 u.length u) (e4 : u.length ≤ b0) (e8 : Kd.C k70 w a6 x.length x) (e5 : x.length ≤ b1) (e9 : Kd.C k76 w a7 y.length y) (e6 : y.length ≤ b2) (h : impl_SpeakingSpans.f k I u x J L M O T y U a1 a2 a3 a4 = some r) :
  Calls Tryz.prog 29 #[.agg #[iv_ I, .slice a5 u.length b0, .slice a6 x.length b1, iv_ J, iv_ L, iv_ M, iv_ O, iv_ T, .slice a7 y.length b2, iv_ U], iv_ a1, iv_ a2, iv_ a3, iv_ a4] w fun e w' => ∃ f0 : Value, e = .returned (f0) ∧ Kd.R k52 52 w' w.heap.size (fun _ => True) f0 r ∧ Below w.heap.size w w' := by
 have g6 := Tryz.underlying34
 have c1 := Aside0.mk e7
 have b8 := Aside0.mk e4
 clear e7 e4
 have d0 := Aside0.mk e8
 have b9 := Aside0.mk e5
 clear e8 e5
 have d1 := Aside0.mk e9
 have c0 := Aside0.mk e6
 clear e9 e6
 have HB := Aside0.mk (Below.refl w.heap.size w)
 have H := h
 clear h
 unfold impl_SpeakingSpans.f at H
 replace H := bs_ H
 obtain ⟨d2, A6, H⟩ := H
 replace H := bs_ H
 obtain ⟨Z, A7, H⟩ := H
 replace H := bs_ H
 obtain ⟨a0, A8, H⟩ := H
 replace H : ∃ y_ : List (List S52), Aside0 (y_ = (([Z, a0] : List (List S52)))) ∧ ((impl_Span_57.f k y_).bind fun b7 => ((impl_CutSpans.f k d2 b7).bind fun d3 => (some d3))) = some r := ⟨_, ⟨rfl⟩, yh_ H⟩
 obtain ⟨f1, d6, H⟩ := H
 replace H := bs_ H
 obtain ⟨b7, A9, H⟩ := H
 replace H := bs_ H
 obtain ⟨d3, f2, H⟩ := H
 obtain rfl := Option.some.inj H
 go_enter Tryz.func29, Tryz.ntmps29
 try go_wp2_with (first | ((with_reducible refine gd_ 5 ?_); refine bx_ 5 34 #[iv_ I, .slice a5 u.length b0, .slice a6 x.length b1, iv_ J, iv_ L, iv_ M, iv_ O, iv_ T, .slice a7 y.length b2, iv_ U] ?_; intro E hg g0 hbox hb; refine sh3_ (below_step (bl_ HB) hb) hbox (ge_ hg (bl_ HB)) ?_; clear HB hb hbox hg; intro HB j s))
 refine sh2_ (blk_drew j.out) (below_drew1 HB.out) ?_
 clear j HB
 intro j HB
 refine start_ (n := 20) (S := fun w' => Cz10 w' E (iv_ I) (.slice a5 u.length b0) (.slice a6 x.length b1) (iv_ J) (iv_ L) (iv_ M) (iv_ O) (iv_ T) (.slice a7 y.length b2) (iv_ U)) (ds := []) (bo_ 20 0) (by kernel_rfl) rfl rfl (cz10_ j) (fun hHeld => ?_); refine with_tabW impl_SpeakingSpans.tab1 impl_SpeakingSpans.bits1 (fun HT_ HW_ => ?_)
 generalize g0.drew = h2 at j HB hHeld ⊢
 refine pur_ 1 (bo_ 20 2) (some 12) HT_ ?_
 refine pur_ 2 (bo_ 20 6) (some 13) HT_ ?_
 refine pur_ 3 (bo_ 20 14) (some 14) HT_ ?_
 refine pur_ 4 (bo_ 20 30) (some 15) HT_ ?_
 refine pur_ 7 (bo_ 20 158) (some 18) HT_ ?_
 refine pur_ 8 (bo_ 20 414) (some 19) HT_ ?_
 refine pur_ 9 (bo_ 20 926) (some 20) HT_ ?_
 refine pur_ 12 (bo_ 20 5022) (some 23) HT_ ?_
 refine pur_ 13 (bo_ 20 13214) (some 24) HT_ ?_
 refine pur_ 14 (bo_ 20 29598) (some 25) HT_ ?_
 refine tak_ 0 (bo_ 20 29599) (some 11) HT_ HW_ hHeld ?_
 refine tak_ 6 (bo_ 20 29663) (some 17) HT_ HW_ hHeld ?_
 refine tak_ 11 (bo_ 20 31711) (some 22) HT_ HW_ hHeld ?_
 refine onc_ 5 (bo_ 20 31743) (some 16) HT_ Tryz.func56 (impl_SureWindows.calls k I _ _ u _ _ x J L M O T _ _ y U a1 a2 a3 a4 d2 _ (ck_ c1 HB) b8.out (ck_ d0 HB) b9.out (ck_ d1 HB) c0.out A6.out) ?_
 rintro e h3 ⟨Y, rfl, m, hb⟩
 refine sh3_ (Kd.R_lower m (below_size (bl1_ HB s))) (blk_below (bk_ j) hb) (below_step (bl1_ HB s) hb) ?_
 clear j HB hb m
 intro l j HB
 refine ⟨_, _, rfl, (cz10_ j), pt_, fun hHeld => ?_⟩
 refine onc_ 10 (bo_ 20 32767) (some 21) HT_ Tryz.func58 (impl_QuietSpans.calls k I _ _ u _ _ x J L M O T _ _ y U a1 a3 a4 Z _ (ck_ c1 HB) b8.out (ck_ d0 HB) b9.out (ck_ d1 HB) c0.out A7.out) ?_
 rintro e h4 ⟨g7, rfl, m, hb⟩
 refine sh4_ (Kd.R_elder' (ra_ l) (Kd.R_base m) hb) (Kd.R_lower (Kd.R_new' m (Kd.R_lt (ra_ l))) (below_size (bl1_ HB s))) (blk_below (bk_ j) hb) (below_step (bl1_ HB s) hb) ?_
 clear l j HB hb m
 intro l G j HB
 refine ⟨_, _, rfl, (cz10_ j), pt_, fun hHeld => ?_⟩
 refine onc_ 15 (bo_ 20 65535) (some 26) HT_ Tryz.func58 (impl_QuietSpans.calls k I _ _ u _ _ x J L M O T _ _ y U a2 a3 a4 a0 _ (ck_ c1 HB) b8.out (ck_ d0 HB) b9.out (ck_ d1 HB) c0.out A8.out) ?_
 rintro e g1 ⟨g8, rfl, m, hb⟩
 refine sh5_ (Kd.R_elder' (ra_ l) (Kd.R_base m) hb) (Kd.R_elder' (ra_ G) (Kd.R_base m) hb) (Kd.R_lower (Kd.R_new' (Kd.R_new' m (Kd.R_lt (ra_ l))) (Kd.R_lt (ra_ G))) (below_size (bl1_ HB s))) (blk_below (bk_ j) hb) (below_step (bl1_ HB s) hb) ?_
 clear l G j HB hb m
 intro l G b4 j HB
 obtain ⟨d4, d7, d9⟩ := Kd.R_slice G.out
 (first | subst d9 | (injection d9 with f1_ f2_ f3_; have B := f1_.symm; have D := f3_.symm; clear f1_ f2_ f3_; subst B; subst D))
 obtain ⟨d5, d8, e0⟩ := Kd.R_slice b4.out
 (first | subst e0 | (injection e0 with f1_ f2_ f3_; have B := f1_.symm; have D := f3_.symm; clear f1_ f2_ f3_; subst B; subst D))
 refine ⟨_, _, rfl, (cz10_ j), pt_, fun hHeld => ?_⟩
 refine one_ (i := 16) (N := some 27) (bo_ 20 131071) rfl rfl (one_of HT_.out (by kernel_rfl)) (by decide) (fun K hK => ?_)
 refine Kd.N_lit_step (Kd.slice 52 k52) _ 47 ?hg (N' := 27) ?hd (xs := ([Z, a0] : List (List S52))) (inner := [.slice d4 Z.length d7, .slice d5 a0.length d8]) (ok := (fun k_ => some k_ ≠ (Y : Value).ownBlock ∧ k_ ≠ E)) (okp := (fun k_ => some k_ ≠ (Y : Value).ownBlock ∧ k_ ≠ E)) ?hr ?hp (fun _ hk => hk) ((show ∀ k_, g1.heap.size ≤ k_ → (fun k_ => some k_ ≠ (Y : Value).ownBlock ∧ k_ ≠ E) k_ from fun k_ hk => ⟨Kd.fresh' (Kd.R_lt (ra_ l)) k_ hk, Kd.freshB (g := E) (o := .cells #[iv_ I, .slice a5 u.length b0, .slice a6 x.length b1, iv_ J, iv_ L, iv_ M, iv_ O, iv_ T, .slice a7 y.length b2, iv_ U] 34 (0, 0)) (bk_ j) k_ hk⟩) _ (Nat.le_refl _)) (Below.refl _ _) (Nat.le_refl _) (by simp) ?_; (case hd => rfl); (case hg => rfl); (case hr => first | (go_simp; done) | (go_simp; rfl)); (case hp => exact (Reps.one (show Kd.FK (Kd.slice 52 k52) _ _ Z [.slice d4 Z.length d7] from (Kd.FK_slice_mk (Kd.R_reads' (Kd.R_mono (ok' := (fun k_ => some k_ ≠ (Y : Value).ownBlock ∧ k_ ≠ E)) (Kd.R_types (G.out) j.out (by decide)) (fun k_ hk => ⟨hk.1.1.2, hk.2⟩))).2.1 (Kd.R_F (Kd.R_mono (ok' := (fun k_ => some k_ ≠ (Y : Value).ownBlock ∧ k_ ≠ E)) (Kd.R_types (G.out) j.out (by decide)) (fun k_ hk => ⟨hk.1.1.2, hk.2⟩))))) (Reps.one (show Kd.FK (Kd.slice 52 k52) _ _ a0 [.slice d5 a0.length d8] from (Kd.FK_slice_mk (Kd.R_reads' (Kd.R_mono (ok' := (fun k_ => some k_ ≠ (Y : Value).ownBlock ∧ k_ ≠ E)) (Kd.R_types (b4.out) j.out (by decide)) (fun k_ hk => ⟨hk.1.1.2, hk.2⟩))).2.1 (Kd.R_F (Kd.R_mono (ok' := (fun k_ => some k_ ≠ (Y : Value).ownBlock ∧ k_ ≠ E)) (Kd.R_types (b4.out) j.out (by decide)) (fun k_ hk => ⟨hk.1.1.2, hk.2⟩))))) (Reps.none _ _))))
 intro g9 h5 b3 hb hg_ hnew_
 clear hg_ hnew_
 (first | rw [← d6.out] at b3 | (simp only [Int.reduceToNat] at b3; rw [← d6.out] at b3))
 refine sh4_ (Kd.R_below (ra_ l) hb) (Kd.N_lower b3 (below_size (bl1_ HB s))) (blk_below (bk_ j) hb) (below_step (bl1_ HB s) hb) ?_
 clear l j HB G b4 hb b3
 intro l z j HB
 obtain ⟨f7, f9, e1⟩ := Kd.N_slice z.out
 (first | subst e1 | (injection e1 with f1_ f2_ f3_; have B := f1_.symm; have D := f3_.symm; clear f1_ f2_ f3_; subst B; subst D))
 refine hK.out _ _ (cz10_ j) (fun hHeld => ?_)
 clear hK K
 refine norm_ (show Act.put _ (some 27) _ = _ from pt_) ?_
 refine one_ (i := 17) (N := some 28) (bo_ 20 262143) rfl rfl (one_of HT_.out (by kernel_rfl)) (by decide) (fun K hK => ?_)
 refine goes_ Tryz.func57 (by kernel_rfl) rfl #[.slice f7 f1.length f9] (by rfl) rfl rfl mp_ ?_
 with_reducible refine (impl_Span_57.calls k _ _ f1 b7 _ ?side1 ?side2 A9.out).mono ?_
 (case side1 => repeat (first | exact (Kd.N_reads' z.out).2.2 | (with_reducible refine Kd.C_alloc ?_ _) | (with_reducible refine Kd.C_drewN ?_ _) | (with_reducible refine Kd.C_drew ?_)))
 (case side2 => exact (Kd.N_reads' z.out).2.1)
 rintro e h6 ⟨h0, rfl, m, hb⟩
 refine ⟨_, rfl, sh5_ (Kd.R_elder' (ra_ l) (Kd.R_base m) hb) (Kd.N_elder' (by (with_reducible repeat (first | apply Kd.N_alloc | apply Kd.N_drewN | apply Kd.N_drew)); exact z.out) (Kd.R_base m) hb) (Kd.R_lower (Kd.R_new' m (Kd.R_lt (ra_ l))) (below_size (bl1_ HB s))) (blk_below (bk_ j) hb) (below_step (bl1_ HB s) hb) ?_⟩
 clear l z j HB hb m
 intro l z X j HB
 obtain ⟨g2, g4, e2⟩ := Kd.R_slice l.out
 (first | subst e2 | (injection e2 with f1_ f2_ f3_; have B := f1_.symm; have D := f3_.symm; clear f1_ f2_ f3_; subst B; subst D))
 obtain ⟨g3, g5, e3⟩ := Kd.R_slice X.out
 (first | subst e3 | (injection e3 with f1_ f2_ f3_; have B := f1_.symm; have D := f3_.symm; clear f1_ f2_ f3_; subst B; subst D))
 refine hK.out _ _ (cz10_ j) (fun hHeld => ?_)
 clear hK K
 refine norm_ (show Act.put _ (some 28) _ = _ from pt_) ?_
 refine onc_ 18 (bo_ 20 524287) (some 29) HT_ Tryz.func55 (impl_CutSpans.calls k _ _ d2 _ _ b7 d3 _ (cr_ l) (rl_ l) (cr_ X) (rl_ X) f2.out) ?_
 rintro e h7 ⟨h1, rfl, m, hb⟩
 refine sh6_ (Kd.R_elder' (ra_ l) (Kd.R_base m) hb) (Kd.N_elder' (by (with_reducible repeat (first | apply Kd.N_alloc | apply Kd.N_drewN | apply Kd.N_drew)); exact z.out) (Kd.R_base m) hb) (Kd.R_elder' (ra_ X) (Kd.R_base m) hb) (Kd.R_lower (Kd.R_new' (Kd.R_new' m (Kd.R_lt (ra_ l))) (Kd.R_lt (ra_ X))) (below_size (bl1_ HB s))) (blk_below (bk_ j) hb) (below_step (bl1_ HB s) hb) ?_
 clear l z X j HB hb m
 intro l z X f8 j HB
 refine ⟨_, _, rfl, (cz10_ j), pt_, fun hHeld => ?_⟩
 refine pur_ 19 (bo_ 20 1048575) (some 10) HT_ ?_
 refine done_ (done_of HT_.out (by kernel_rfl)) ?_
 try go_wp2
 go_ret
 exact ⟨_, er_, by (with_reducible repeat (first | apply Kd.R_alloc | apply Kd.R_drewN | apply Kd.R_drew)); exact Kd.R_mono f8.out (fun _ hk => trivial), bl1_ HB s⟩

/-! ### impl_ContactsOf: function 8 -/
mutual
def impl_ContactsOf.j0 : Nat → Int → Int → Int → Int → List S54 → Bool → Int → List S68 → List S70 → Int → Int → Int → Int → Int → List S76 → Int → Option (List S54)
 | 0, _, _, _, _, _, _, _, _, _, _, _, _, _, _, _, _ => none
 | k + 1, j, m, E, G, l, D, I, J, L, M, O, T, U, X, Y, z => if D = true then (some l) else ((impl_SpeakingSpans.f k I J L M O T U X Y z j m E G).bind fun B => ((impl_ShortenSpans.f k B z 0).bind fun x => (impl_ContactsOf.l0 k j m l x (x.length : Int) 0)))
def impl_ContactsOf.l0 : Nat → Int → Int → List S54 → List S52 → Int → Int → Option (List S54)
 | 0, _, _, _, _, _, _ => none
 | k + 1, j, m, l, u, y, s => if s < y then (if 0 ≤ s then (if s < (u.length : Int) then (if l.length < 4398046511104 then (impl_ContactsOf.l0 k j m (l ++ [(⟨mn j m, mx j m, (rd_T52 u s).f0, (rd_T52 u s).f1⟩ : S54)]) u y (wrap64 (s + 1))) else (none)) else (none)) else (none)) else (some l)
end
def impl_ContactsOf.f (k : Nat) (j : Int) (D : List S68) (E : List S70) (l m s u x : Int) (G : List S76) (y z B I J : Int) : Option (List S54) := (some (([] : List S54) : List S54)).bind fun L => (if z = B then (impl_ContactsOf.j0 k z B I J L true j D E l m s u x G y) else ((impl_IsSky.f k j D E l m s u x G y).bind fun M => (impl_ContactsOf.j0 k z B I J L (!M) j D E l m s u x G y)))
def impl_ContactsOf.T4 : Bool × List (List Nat × List Nat) := (true, [([], []), ([], []), ([], []), ([], []), ([], []), ([0, 1, 2, 3, 4], [0, 1, 2, 3, 4]), ([], []), ([6], [6]), ([5, 7, 5], [5, 7]), ([8], [8]), ([], [])])
def impl_ContactsOf.B4 : List Nat := [0, 0, 0, 0, 0, 31, 0, 64, 255, 511, 0]
theorem impl_ContactsOf.tab4 : rtab .any (opsOf Tryz.f8 4) = impl_ContactsOf.T4 := by kernel_rfl
theorem impl_ContactsOf.bits4 : waitsOk impl_ContactsOf.T4.2 impl_ContactsOf.B4 = true := by kernel_rfl
theorem impl_ContactsOf.calls (k : Nat) (G : Int) (Y : Option Addr) (a9 : Nat) (z : List S68) (Z : Option Addr) (b0 : Nat) (B : List S70) (I J L M O : Int) (a0 : Option Addr) (b1 : Nat) (D : List S76) (E u x a3 a4 : Int) (r : List S54) (w : World) (g0 : Kd.C k68 w Y z.length z) (f7 : z.length ≤ a9) (g1 : Kd.C k70 w Z B.length B) (f8 : B.length ≤ b0) (g2 : Kd.C k76 w a0 D.length D) (f9 : D.length ≤ b1) (h : impl_ContactsOf.f k G z B I J L M O D E u x a3 a4 = some r) :
  Calls Tryz.prog 8 #[.agg #[iv_ G, .slice Y z.length a9, .slice Z B.length b0, iv_ I, iv_ J, iv_ L, iv_ M, iv_ O, .slice a0 D.length b1, iv_ E], iv_ u, iv_ x, iv_ a3, iv_ a4] w fun e w' => ∃ g3 : Value, e = .returned (g3) ∧ Kd.R k54 54 w' w.heap.size (fun _ => True) g3 r ∧ Below w.heap.size w w' := by
 have j4 := Tryz.underlying34
 have j5 := Tryz.underlying52
 have j6 := Tryz.underlying54
 have e6 := Aside0.mk g0
 have e0 := Aside0.mk f7
 clear g0 f7
 have e7 := Aside0.mk g1
 have e1 := Aside0.mk f8
 clear g1 f8
 have e8 := Aside0.mk g2
 have e2 := Aside0.mk f9
 clear g2 f9
 have HB := Aside0.mk (Below.refl w.heap.size w)
 have H := h
 clear h
 unfold impl_ContactsOf.f at H
 replace H : ∃ y_ : List S54, Aside0 (y_ = (([] : List S54))) ∧ (if u = x then (impl_ContactsOf.j0 k u x a3 a4 y_ true G z B I J L M O D E) else ((impl_IsSky.f k G z B I J L M O D E).bind fun c1 => (impl_ContactsOf.j0 k u x a3 a4 y_ (!c1) G z B I J L M O D E))) = some r := ⟨_, ⟨rfl⟩, yh_ H⟩
 obtain ⟨d2, e9, H⟩ := H
 have d4 := Aside0.mk H
 clear H
 go_enter Tryz.func8, Tryz.ntmps8
 go_upto_region 2 with (first | ((with_reducible refine gd_ 5 ?_); refine bx_ 5 34 #[iv_ G, .slice Y z.length a9, .slice Z B.length b0, iv_ I, iv_ J, iv_ L, iv_ M, iv_ O, .slice a0 D.length b1, iv_ E] ?_; intro b9 hg w7 hbox hb; refine sh3_ (below_step (bl_ HB) hb) hbox (ge_ hg (bl_ HB)) ?_; clear HB hb hbox hg; intro HB l y) | ((with_reducible refine gate_dst (N := 14) rfl ?_); refine Kd.R_lit k54 _ 54 ?hg (N := 14) ?hd (xs := ([] : List S54)) (inner := []) (ok := fun _ => True) (okp := fun _ => True) ?hr ?hp (fun _ hk => hk) trivial (Below.refl _ _) (Nat.le_refl _) (by simp) ?_; (case hd => rfl); (case hg => rfl); (case hr => first | (go_simp; done) | (go_simp; rfl)); (case hp => exact (Reps.none _ _)); intro i0 w8 b7 hb hg_ hnew_; clear hg_ hnew_; (first | rw [← e9.out] at b7 | (simp only [Int.reduceToNat] at b7; rw [← e9.out] at b7)); refine sh3_ (Kd.R_lower b7 (below_size (bl1_ HB y))) (blk_below (bk_ l) hb) (below_step (bl1_ HB y) hb) ?_; clear l HB hb b7; intro b5 l HB))
 (try simp only [Act.put, List.setIfInBounds_toArray, List.set_cons_zero, List.set_cons_succ])
 go_cut [22] (fun h8 wc => ∃ (kq : Nat) (d1 : Bool), h8 = .bool d1 ∧ Aside0 (impl_ContactsOf.j0 kq u x a3 a4 d2 d1 G z B I J L M O D E = some r) ∧ Aside0 (kq ≤ k) ∧ Aside0 (Kd.R k54 54 wc w.heap.size (fun _ => True) i0 d2) ∧ Aside0 (wc.heap[b9]? = some (.cells #[iv_ G, (.slice Y z.length a9), (.slice Z B.length b0), iv_ I, iv_ J, iv_ L, iv_ M, iv_ O, (.slice a0 D.length b1), iv_ E] 34 (0, 0))) ∧ Aside0 (Below w.heap.size w wc))
 case first =>
  have H := d4.out
  clear d4
  by_cases c10 : u = x
  ·rw [if_pos c10] at H
   obtain ⟨b6, h3⟩ := bt_ c10
   clear c10
   (first | rw [b6] | (simp only [i64_w, i32_w]; rw [b6]) | skip)
   have H' := Aside0.mk H
   clear H
   go_wp2
   go_meet
   case rel => exact ⟨_, (true), (by first | rfl | (simp; done) | (simp [*]; done)), H', ⟨by first | omega | exact Nat.le_refl _⟩, ⟨ra_ b5⟩, ⟨by (with_reducible repeat (first | refine blk_drewN ?_ _ | refine blk_drew ?_ | refine blk_alloc ?_ _)); exact l.out⟩, ⟨bl1_ HB y⟩⟩
  ·rw [if_neg c10] at H
   obtain ⟨b6, h3⟩ := bn_ c10
   (first | rw [b6] | (simp only [i64_w, i32_w]; rw [b6]) | skip)
   replace H := bs_ H
   obtain ⟨c1, g4, H⟩ := H
   have H' := Aside0.mk H
   clear H
   have i7 := cf10_ l
   go_wp2_with (first | (go_at_call 27; (with_reducible refine (impl_IsSky.calls k G _ _ z _ _ B I J L M O _ _ D E c1 _ ?side1 ?side2 ?side3 ?side4 ?side5 ?side6 g4.out).mono ?_); (case side1 => exact ck_ e6 HB); (case side2 => exact e0.out); (case side3 => exact ck_ e7 HB); (case side4 => exact e1.out); (case side5 => exact ck_ e8 HB); (case side6 => exact e2.out); rintro e k3 ⟨rfl, hb⟩; refine sh3_ (Kd.R_below (ra_ b5) hb) (blk_below (bk_ l) hb) (below_step (bl1_ HB y) hb) ?_; clear b5 l HB hb; intro b5 l HB))
   go_meet
   case rel => exact ⟨_, (!c1), (by first | rfl | (simp; done) | (simp [*]; done)), H', ⟨by first | omega | exact Nat.le_refl _⟩, ⟨ra_ b5⟩, ⟨by (with_reducible repeat (first | refine blk_drewN ?_ _ | refine blk_drew ?_ | refine blk_alloc ?_ _)); exact l.out⟩, ⟨bl1_ HB y⟩⟩
 case rest =>
  clear d4
  obtain ⟨kq, d1, rfl, HA, e3, s, l, HB⟩ := hcut
  cases kq with
  | zero => exact absurd HA.out (by simp [impl_ContactsOf.j0])
  | succ b2 =>
   have H := HA.out
   clear HA
   simp only [impl_ContactsOf.j0] at H
   by_cases b8 : d1 = true
   ·subst b8
    rw [if_pos rfl] at H
    obtain rfl := Option.some.inj H
    go_wp2
    go_ret
    exact ⟨_, er_, ra_ s, bl1_ HB y⟩
   ·replace b8 := Bool.eq_false_iff.mpr b8
    subst b8
    have H1 : ((impl_SpeakingSpans.f b2 G z B I J L M O D E u x a3 a4).bind fun d0 => ((impl_ShortenSpans.f b2 d0 E 0).bind fun j => (impl_ContactsOf.l0 b2 u x d2 j (j.length : Int) 0))) = some r := by rw [if_neg (show ¬ (false = true) by decide)] at H; exact H
    clear H
    have H := H1
    clear H1
    replace H := bs_ H
    obtain ⟨d0, g5, H⟩ := H
    replace H := bs_ H
    obtain ⟨j, g6, H⟩ := H
    have H' := Aside0.mk H
    clear H
    try go_wp2
    refine sh3_ (Kd.R_drew s.out) (blk_drew l.out) (below_drew1 HB.out) ?_
    clear s l HB
    intro s l HB
    refine start_ (n := 11) (S := fun w' => Cz10 w' b9 (iv_ G) (.slice Y z.length a9) (.slice Z B.length b0) (iv_ I) (iv_ J) (iv_ L) (iv_ M) (iv_ O) (.slice a0 D.length b1) (iv_ E)) (ds := []) (bo_ 11 0) (by kernel_rfl) rfl rfl (cz10_ l) (fun hHeld => ?_); refine with_tabW impl_ContactsOf.tab4 impl_ContactsOf.bits4 (fun HT_ HW_ => ?_)
    generalize wc.drew = k4 at s l HB hHeld ⊢
    refine pur_ 1 (bo_ 11 2) (some 25) HT_ ?_
    refine pur_ 2 (bo_ 11 6) (some 26) HT_ ?_
    refine pur_ 3 (bo_ 11 14) (some 27) HT_ ?_
    refine pur_ 4 (bo_ 11 30) (some 28) HT_ ?_
    refine pur_ 6 (bo_ 11 94) (some 30) HT_ ?_
    refine pur_ 10 (bo_ 11 1118) (some 34) HT_ ?_
    refine tak_ 0 (bo_ 11 1119) (some 24) HT_ HW_ hHeld ?_
    refine tak_ 7 (bo_ 11 1247) (some 31) HT_ HW_ hHeld ?_
    refine onc_ 5 (bo_ 11 1279) (some 29) HT_ Tryz.func29 (impl_SpeakingSpans.calls b2 G _ _ z _ _ B I J L M O _ _ D E u x a3 a4 d0 _ (ck_ e6 HB) e0.out (ck_ e7 HB) e1.out (ck_ e8 HB) e2.out g5.out) ?_
    rintro e k5 ⟨j9, rfl, b4, hb⟩
    refine sh4_ (Kd.R_below (ra_ s) hb) (Kd.R_lower b4 (below_size (bl1_ HB y))) (blk_below (bk_ l) hb) (below_step (bl1_ HB y) hb) ?_
    clear s l HB hb b4
    intro s a6 l HB
    obtain ⟨i2, i6, f5⟩ := Kd.R_slice a6.out
    (first | subst f5 | (injection f5 with f1_ f2_ f3_; have d5 := f1_.symm; have d6 := f3_.symm; clear f1_ f2_ f3_; subst d5; subst d6))
    refine ⟨_, _, rfl, (cz10_ l), pt_, fun hHeld => ?_⟩
    refine onc_ 8 (bo_ 11 1535) (some 32) HT_ Tryz.func28 (impl_ShortenSpans.calls b2 _ _ d0 E 0 j _ (cr_ a6) (rl_ a6) g6.out) ?_
    rintro e k6 ⟨k0, rfl, b4, hb⟩
    refine sh5_ (Kd.R_below (ra_ s) hb) (Kd.R_elder' (ra_ a6) (Kd.R_base b4) hb) (Kd.R_lower (Kd.R_new' b4 (Kd.R_lt (ra_ a6))) (below_size (bl1_ HB y))) (blk_below (bk_ l) hb) (below_step (bl1_ HB y) hb) ?_
    clear s a6 l HB hb b4
    intro s a6 e5 l HB
    obtain ⟨g7, h5, f6⟩ := Kd.R_slice e5.out
    (first | subst f6 | (injection f6 with f1_ f2_ f3_; have d5 := f1_.symm; have d6 := f3_.symm; clear f1_ f2_ f3_; subst d5; subst d6))
    refine ⟨_, _, rfl, (cz10_ l), pt_, fun hHeld => ?_⟩
    refine pur_ 9 (bo_ 11 2047) (some 33) HT_ ?_
    refine done_ (done_of HT_.out (by kernel_rfl)) ?_
    try go_wp2
    go_loopg [11, 34] b2 (fun kq h7 h9 w' => ∃ (U : List S54) (m : Int), h9 = iv_ m ∧ Aside0 (impl_ContactsOf.l0 kq u x U j (j.length : Int) m = some r) ∧ Aside0 (kq ≤ b2) ∧ Aside0 (Kd.R k54 54 w' w.heap.size (fun _ => True) h7 U) ∧ Aside0 (Kd.R k52 52 w' w.heap.size (fun _ => True) (.slice g7 j.length h5) j) ∧ Aside0 (w'.heap[b9]? = some (.cells #[iv_ G, (.slice Y z.length a9), (.slice Z B.length b0), iv_ I, iv_ J, iv_ L, iv_ M, iv_ O, (.slice a0 D.length b1), iv_ E] 34 (0, 0))) ∧ Aside0 (Below w.heap.size w w'))
    case atStart => exact ⟨(d2), (0), (by first | rfl | (simp; done) | (simp [*]; done)), H', ⟨Nat.le_refl _⟩, ⟨ra_ s⟩, ⟨by (with_reducible repeat (first | apply Kd.R_alloc | apply Kd.R_drewN | apply Kd.R_drew)); exact Kd.R_mono e5.out (fun _ hk => trivial)⟩, ⟨by (with_reducible repeat (first | refine blk_drewN ?_ _ | refine blk_drew ?_ | refine blk_alloc ?_ _)); exact l.out⟩, ⟨bl1_ HB y⟩⟩
    case round =>
     clear H'
     obtain ⟨U, m, rfl, HA, e4, s, X, l, HB⟩ := hrel
     cases gk with
     | zero => exact absurd HA.out (by simp [impl_ContactsOf.l0])
     | succ k2 =>
      have H := HA.out
      clear HA
      simp only [impl_ContactsOf.l0] at H
      by_cases b3 : m < (j.length : Int)
      ·rw [if_pos b3] at H
       have h4 := decide_eq_true b3
       clear b3
       replace H := ifn_ H
       obtain ⟨f2, H⟩ := H
       have i4 := decide_eq_true f2
       clear f2
       replace H := ifn_ H
       obtain ⟨f3, H⟩ := H
       have i5 := decide_eq_true f3
       clear f3
       obtain ⟨ji25, hji25⟩ : ∃ j_ : Int, (mn u x) = j_ := ⟨_, rfl⟩
       replace H : (if U.length < 4398046511104 then (impl_ContactsOf.l0 k2 u x (U ++ [(⟨ji25, mx u x, (rd_T52 j m).f0, (rd_T52 j m).f1⟩ : S54)]) j (j.length : Int) (wrap64 (m + 1))) else (none)) = some r := by first | (rw [hji25] at H; exact H) | (simp only [hji25] at H ⊢; exact H)
       have i9 : (if x < u then x else u) = ji25 := hji25
       obtain ⟨ji26, hji26⟩ : ∃ j_ : Int, (mx u x) = j_ := ⟨_, rfl⟩
       replace H : (if U.length < 4398046511104 then (impl_ContactsOf.l0 k2 u x (U ++ [(⟨ji25, ji26, (rd_T52 j m).f0, (rd_T52 j m).f1⟩ : S54)]) j (j.length : Int) (wrap64 (m + 1))) else (none)) = some r := by first | (rw [hji26] at H; exact H) | (simp only [hji26] at H ⊢; exact H)
       have j1 : (if u < x then x else u) = ji26 := hji26
       replace H := ifn_ H
       obtain ⟨f4, H⟩ := H
       have g9 := Aside0.mk f4
       clear f4
       replace H : ∃ y_ : List S54, Aside0 (y_ = (U ++ [(⟨ji25, ji26, (rd_T52 j m).f0, (rd_T52 j m).f1⟩ : S54)])) ∧ (impl_ContactsOf.l0 k2 u x y_ j (j.length : Int) (wrap64 (m + 1))) = some r := ⟨_, ⟨rfl⟩, yh_ H⟩
       obtain ⟨i1, h2, H⟩ := H
       have H' := Aside0.mk H
       clear H
       have d7 : 0 ≤ (m : Int) := od_
       have d8 : m < (j.length : Int) := od_
       obtain ⟨i3, h6, j7, j8⟩ := at_T52 (Kd.R_reads' X.out).2.2 m d7 d8
       cases h6
       replace d7 := eq_true d7
       replace d8 := eq_true d8
       go_wp2_with (first | ((with_reducible refine gd_ 13 ?_); refine bx_ 13 52 #[iv_ 0, iv_ 0] ?_; intro T hg k7 hbox hb; refine sh8_ (Kd.R_below (ra_ s) hb) (Kd.R_below (Kd.R_elderB (ra_ X) T (Nat.le_of_eq hg.symm)) hb) (blk_below (bk_ l) hb) (below_step (bl1_ HB y) hb) hbox (ge_ hg (bl1_ HB y)) (nl_ hg (bk_ l)) (ng_ hg (bk_ l)) ?_; clear s X l HB hb hbox hg; intro s X l HB a5 d3 h0 h1; have j2 := h1.out; have j3 := h0.out; have i8 := cf2_ a5) | ((with_reducible refine gate_builtin (b := .append) (xs := #[.tmp 38, .tmp 50]) rfl ?_); at_builtin; refine Kd.R_append k54 (w0 := w) w.heap.size rfl (.tmp 38) (.tmp 50) 28 54 (.agg #[(iv_ 0), (iv_ 0), (iv_ 0), (iv_ 0)]) 32 rfl Tryz.underlying28 info54 rfl (by decide) (by omega) u11 U (⟨ji25, ji26, (rd_T52 j m).f0, (rd_T52 j m).f1⟩ : S54) [iv_ ji25, iv_ ji26, iv_ ((rd_T52 j m).f0), iv_ ((rd_T52 j m).f1)] (fun _ => True) (fun _ => False) rfl (by first | (go_simp; done) | (go_simp; rfl)) ?aP (fun _ hk => hk.elim) ?aF ?aO ?aB ?aS ?aL ?_; (case aP => exact k54_mkM _ _ _ (⟨ji25, ji26, (rd_T52 j m).f0, (rd_T52 j m).f1⟩ : S54)); (case aB => exact (bl2_ HB y d3)); (case aF => exact (fun _ _ => trivial)); (case aO => exact (by (with_reducible repeat (first | apply Kd.R_alloc | apply Kd.R_drewN | apply Kd.R_drew)); exact Kd.R_mono (Kd.R_far (p := ⟨T, 1, none⟩) (Kd.R_far (p := ⟨T, 0, none⟩) (Kd.R_types s.out a5.out (by decide)) (fun _ hk => hk.2) (iv_ ((rd_T52 j m).f0))) (fun _ hk => hk.2) (iv_ ((rd_T52 j m).f1))) (fun _ hk => trivial))); (case aS => exact (below_size (bl2_ HB y d3))); (case aL => have := g9.out; omega); intro k1 k8 ho hb hg hat; rw [← h2.out] at ho; refine sh5_ (Kd.R_over' (by (with_reducible repeat (first | apply Kd.R_alloc | apply Kd.R_drewN | apply Kd.R_drew)); exact (Kd.R_mono (Kd.R_far (p := ⟨T, 1, none⟩) (Kd.R_far (p := ⟨T, 0, none⟩) (Kd.R_mono X.out (fun k_ hk => (⟨hk, hk.2⟩ : _ ∧ k_ ≠ T))) (fun _ hk => hk.2) (iv_ ((rd_T52 j m).f0))) (fun _ hk => hk.2) (iv_ ((rd_T52 j m).f1))) (fun _ h_ => h_.1))) (Kd.R_typed (by (with_reducible repeat (first | apply Kd.R_alloc | apply Kd.R_drewN | apply Kd.R_drew)); exact (Kd.R_mono (Kd.R_far (p := ⟨T, 1, none⟩) (Kd.R_far (p := ⟨T, 0, none⟩) (Kd.R_types s.out a5.out (by decide)) (fun _ hk => hk.2) (iv_ ((rd_T52 j m).f0))) (fun _ hk => hk.2) (iv_ ((rd_T52 j m).f1))) (fun _ h_ => h_.1)))) (by decide) hg) (blk_grown (g := b9) (o := .cells #[iv_ G, .slice Y z.length a9, .slice Z B.length b0, iv_ I, iv_ J, iv_ L, iv_ M, iv_ O, .slice a0 D.length b1, iv_ E] 34 (0, 0)) (bp_ l) hg (Kd.R_ne s.out l.out (by decide))) (blk_grown (g := T) (o := .cells #[iv_ ((rd_T52 j m).f0), iv_ ((rd_T52 j m).f1)] 52 (0, 0)) (bp_ a5) hg (Kd.R_ne s.out a5.out (by decide))) hb ho ?_; clear X l a5 HB s ho hb hg hat; intro X l a5 HB g8))
       go_roundg k2
       case measure => have := e3.out; have := e4.out; omega
       case rel => exact ⟨(i1), (wrap64 (m + 1)), (by first | rfl | (simp; done) | (simp [*]; done)), H', ⟨by have := e3.out; have := e4.out; omega⟩, ⟨ra_ g8⟩, ⟨by (with_reducible repeat (first | apply Kd.R_alloc | apply Kd.R_drewN | apply Kd.R_drew)); exact Kd.R_mono X.out (fun _ hk => trivial)⟩, ⟨by (with_reducible repeat (first | refine blk_drewN ?_ _ | refine blk_drew ?_ | refine blk_alloc ?_ _)); exact l.out⟩, ⟨bl2_ HB y d3⟩⟩
      ·rw [if_neg b3] at H
       have h4 := decide_eq_false b3
       clear b3
       obtain rfl := Option.some.inj H
       go_wp2
       go_ret
       exact ⟨_, er_, ra_ s, bl1_ HB y⟩

/-! ### impl_PlanOf: function 15 -/
mutual
def impl_PlanOf.l0 : Nat → Int → Int → List S54 → Int → Int → Int → List S68 → List S70 → Int → Int → Int → Int → Int → List S76 → Int → Option (List S54)
 | 0, _, _, _, _, _, _, _, _, _, _, _, _, _, _, _ => none
 | k + 1, I, L, G, J, j, l, m, s, u, x, y, z, B, D, E => if j < J then (impl_PlanOf.l1 k I L G j (wrap64 (j + 1)) J j l m s u x y z B D E) else (some G)
def impl_PlanOf.l1 : Nat → Int → Int → List S54 → Int → Int → Int → Int → Int → List S68 → List S70 → Int → Int → Int → Int → Int → List S76 → Int → Option (List S54)
 | 0, _, _, _, _, _, _, _, _, _, _, _, _, _, _, _, _, _ => none
 | k + 1, I, L, G, T, M, J, j, l, m, s, u, x, y, z, B, D, E => (impl_NodesOf.f l m s u x y z B D E).bind fun U => (if M < U then ((impl_ContactsOf.f k l m s u x y z B D E T M I L).bind fun O => (if G.length + O.length < 4398046511104 then (impl_PlanOf.l1 k I L (G ++ O) T (wrap64 (M + 1)) J j l m s u x y z B D E) else (none))) else (impl_PlanOf.l0 k I L G J (wrap64 (j + 1)) l m s u x y z B D E))
end
def impl_PlanOf.f (k : Nat) (j : Int) (z : List S68) (B : List S70) (l m s u x : Int) (D : List S76) (y E G : Int) : Option (List S54) := (impl_NodesOf.f j z B l m s u x D y).bind fun I => (impl_PlanOf.l0 k E G (([] : List S54)) I 0 j z B l m s u x D y)
theorem impl_PlanOf.calls (k : Nat) (x : Int) (U : Option Addr) (a0 : Nat) (l : List S68) (X : Option Addr) (a3 : Nat) (m : List S70) (y z B D E : Int) (Y : Option Addr) (a4 : Nat) (s : List S76) (G M O : Int) (r : List S54) (w : World) (d8 : Kd.C k68 w U l.length l) (d5 : l.length ≤ a0) (d9 : Kd.C k70 w X m.length m) (d6 : m.length ≤ a3) (e0 : Kd.C k76 w Y s.length s) (d7 : s.length ≤ a4) (h : impl_PlanOf.f k x l m y z B D E s G M O = some r) :
  Calls Tryz.prog 15 #[.agg #[iv_ x, .slice U l.length a0, .slice X m.length a3, iv_ y, iv_ z, iv_ B, iv_ D, iv_ E, .slice Y s.length a4, iv_ G], iv_ M, iv_ O] w fun e w' => ∃ e2 : Value, e = .returned (e2) ∧ Kd.R k54 54 w' w.heap.size (fun _ => True) e2 r ∧ Below w.heap.size w w' := by
 have g1 := Tryz.underlying34
 have b4 := Aside0.mk d8
 have a8 := Aside0.mk d5
 clear d8 d5
 have b5 := Aside0.mk d9
 have a9 := Aside0.mk d6
 clear d9 d6
 have b6 := Aside0.mk e0
 have b0 := Aside0.mk d7
 clear e0 d7
 have HB := Aside0.mk (Below.refl w.heap.size w)
 have H := h
 clear h
 unfold impl_PlanOf.f at H
 replace H : ∃ y_ : List S54, Aside0 (y_ = (([] : List S54))) ∧ ((impl_NodesOf.f x l m y z B D E s G).bind fun L => (impl_PlanOf.l0 k M O y_ L 0 x l m y z B D E s G)) = some r := ⟨_, ⟨rfl⟩, yh_ H⟩
 obtain ⟨f5, d3, H⟩ := H
 replace H := bs_ H
 obtain ⟨L, A4, H⟩ := H
 have H' := Aside0.mk H
 clear H
 go_enter Tryz.func15, Tryz.ntmps15
 go_wp2_with (first | ((with_reducible refine gd_ 3 ?_); refine bx_ 3 34 #[iv_ x, .slice U l.length a0, .slice X m.length a3, iv_ y, iv_ z, iv_ B, iv_ D, iv_ E, .slice Y s.length a4, iv_ G] ?_; intro c0 hg w5 hbox hb; refine sh3_ (below_step (bl_ HB) hb) hbox (ge_ hg (bl_ HB)) ?_; clear HB hb hbox hg; intro HB j I) | ((with_reducible refine gate_dst (N := 10) rfl ?_); refine Kd.R_lit k54 _ 54 ?hg (N := 10) ?hd (xs := ([] : List S54)) (inner := []) (ok := fun _ => True) (okp := fun _ => True) ?hr ?hp (fun _ hk => hk) trivial (Below.refl _ _) (Nat.le_refl _) (by simp) ?_; (case hd => rfl); (case hg => rfl); (case hr => first | (go_simp; done) | (go_simp; rfl)); (case hp => exact (Reps.none _ _)); intro g2 w6 a7 hb hg_ hnew_; clear hg_ hnew_; (first | rw [← d3.out] at a7 | (simp only [Int.reduceToNat] at a7; rw [← d3.out] at a7)); refine sh3_ (Kd.R_lower a7 (below_size (bl1_ HB I))) (blk_below (bk_ j) hb) (below_step (bl1_ HB I) hb) ?_; clear j HB hb a7; intro b3 j HB; have g0 := cf10_ j) | ((with_reducible refine gate_callee (f := 38) rfl ?_); refine gl_ 12 Tryz.func38 (impl_NodesOf.calls x _ _ l _ _ m y z B D E _ _ s G L _ (ck_ b4 HB) a8.out (ck_ b5 HB) a9.out (ck_ b6 HB) b0.out A4.out) ?_; rintro e w9 ⟨rfl, hb⟩; refine ⟨_, rfl, sh3_ (Kd.R_below (ra_ b3) hb) (blk_below (bk_ j) hb) (below_step (bl1_ HB I) hb) ?_⟩; clear b3 j HB hb; intro b3 j HB))
 go_loopg [7, 13] k (fun kq v7 f3 w' => ∃ (b9 : List S54) (J : Int), f3 = iv_ J ∧ Aside0 (impl_PlanOf.l0 kq M O b9 L J x l m y z B D E s G = some r) ∧ Aside0 (kq ≤ k) ∧ Aside0 (Kd.R k54 54 w' w.heap.size (fun _ => True) v7 b9) ∧ Aside0 (w'.heap[c0]? = some (.cells #[iv_ x, (.slice U l.length a0), (.slice X m.length a3), iv_ y, iv_ z, iv_ B, iv_ D, iv_ E, (.slice Y s.length a4), iv_ G] 34 (0, 0))) ∧ Aside0 (Below w.heap.size w w'))
 case atStart => exact ⟨(f5), (0), (by first | rfl | (simp; done) | (simp [*]; done)), H', ⟨Nat.le_refl _⟩, ⟨ra_ b3⟩, ⟨by (with_reducible repeat (first | refine blk_drewN ?_ _ | refine blk_drew ?_ | refine blk_alloc ?_ _)); exact j.out⟩, ⟨bl1_ HB I⟩⟩
 case round =>
  clear H'
  obtain ⟨b9, J, rfl, HA, b1, u, j, HB⟩ := hrel
  cases gk with
  | zero => exact absurd HA.out (by simp [impl_PlanOf.l0])
  | succ k1 =>
   have H := HA.out
   clear HA
   simp only [impl_PlanOf.l0] at H
   by_cases c10 : J < L
   ·rw [if_pos c10] at H
    have e9 := decide_eq_true c10
    clear c10
    have H' := Aside0.mk H
    clear H
    go_wp2
    go_loopg [7, 9] k1 (fun kq v7 v9 w' => ∃ (a6 : List S54) (T : Int), v9 = iv_ T ∧ Aside0 (impl_PlanOf.l1 kq M O a6 J T L J x l m y z B D E s G = some r) ∧ Aside0 (kq ≤ k1) ∧ Aside0 (Kd.R k54 54 w' w.heap.size (fun _ => True) v7 a6) ∧ Aside0 (w'.heap[c0]? = some (.cells #[iv_ x, (.slice U l.length a0), (.slice X m.length a3), iv_ y, iv_ z, iv_ B, iv_ D, iv_ E, (.slice Y s.length a4), iv_ G] 34 (0, 0))) ∧ Aside0 (Below w.heap.size w w'))
    case atStart => exact ⟨(b9), (wrap64 (J + 1)), (by first | rfl | (simp; done) | (simp [*]; done)), H', ⟨Nat.le_refl _⟩, ⟨ra_ u⟩, ⟨by (with_reducible repeat (first | refine blk_drewN ?_ _ | refine blk_drew ?_ | refine blk_alloc ?_ _)); exact j.out⟩, ⟨bl1_ HB I⟩⟩
    case round =>
     clear H'
     obtain ⟨a6, T, rfl, HA, b2, u, j, HB⟩ := hrel
     cases gk with
     | zero => exact absurd HA.out (by simp [impl_PlanOf.l1])
     | succ k2 =>
      have H := HA.out
      clear HA
      simp only [impl_PlanOf.l1] at H
      replace H := bs_ H
      obtain ⟨d0, d2, H⟩ := H
      by_cases a5 : T < d0
      ·rw [if_pos a5] at H
       have f0 := decide_eq_true a5
       clear a5
       replace H := bs_ H
       obtain ⟨b8, e3, H⟩ := H
       replace H := ifn_ H
       obtain ⟨d4, H⟩ := H
       have e7 := Aside0.mk d4
       clear d4
       replace H : ∃ y_ : List S54, Aside0 (y_ = (a6 ++ b8)) ∧ (impl_PlanOf.l1 k2 M O y_ J (wrap64 (T + 1)) L J x l m y z B D E s G) = some r := ⟨_, ⟨rfl⟩, yh_ H⟩
       obtain ⟨f6, e8, H⟩ := H
       have H' := Aside0.mk H
       clear H
       have f7 := cf10_ j
       go_wp2_with (first | ((with_reducible refine gate_callee (f := 38) rfl ?_); refine gl_ 20 Tryz.func38 (impl_NodesOf.calls x _ _ l _ _ m y z B D E _ _ s G d0 _ (ck_ b4 HB) a8.out (ck_ b5 HB) a9.out (ck_ b6 HB) b0.out d2.out) ?_; rintro e g5 ⟨rfl, hb⟩; refine ⟨_, rfl, sh3_ (Kd.R_below (ra_ u) hb) (blk_below (bk_ j) hb) (below_step (bl1_ HB I) hb) ?_⟩; clear u j HB hb; intro u j HB; have f8 := cf10_ j) | ((with_reducible refine gate_callee (f := 8) rfl ?_); refine gl_ 30 Tryz.func8 (impl_ContactsOf.calls k2 x _ _ l _ _ m y z B D E _ _ s G J T M O b8 _ (ck_ b4 HB) a8.out (ck_ b5 HB) a9.out (ck_ b6 HB) b0.out e3.out) ?_; rintro e g6 ⟨g3, rfl, c1, hb⟩; refine ⟨_, rfl, sh4_ (Kd.R_elder' (ra_ u) (Kd.R_base c1) hb) (Kd.R_lower (Kd.R_new' c1 (Kd.R_lt (ra_ u))) (below_size (bl1_ HB I))) (blk_below (bk_ j) hb) (below_step (bl1_ HB I) hb) ?_⟩; clear u j HB hb c1; intro u Z j HB; obtain ⟨e5, f1, f2⟩ := Kd.R_slice Z.out; subst f2) | ((with_reducible refine gate_builtin (b := .append) (xs := #[.tmp 24, .tmp 30]) rfl ?_); at_builtin; refine Kd.R_append_rows k54 (w0 := w) w.heap.size rfl (.tmp 24) (.tmp 30) 28 54 (.agg #[(iv_ 0), (iv_ 0), (iv_ 0), (iv_ 0)]) 32 rfl Tryz.underlying28 info54 rfl (by decide) (by omega) u7 a6 b8 _ _ _ (fun k_ => some k_ ≠ (.slice e5 b8.length f1 : Value).ownBlock) (fun _ => False) rfl rfl ?aO ?aR (fun _ _ h => h) (fun _ h => h.elim) ?aF ?aB ?aS ?aL ?_; (case aR => repeat (first | exact (Kd.R_reads' Z.out).2.2 | (with_reducible refine Kd.C_alloc ?_ _) | (with_reducible refine Kd.C_drewN ?_ _) | (with_reducible refine Kd.C_drew ?_))); (case aB => exact (bl1_ HB I)); (case aF => exact (fun k_ hk => Kd.fresh' (Kd.R_lt (ra_ Z)) k_ hk)); (case aO => exact (by (with_reducible repeat (first | apply Kd.R_alloc | apply Kd.R_drewN | apply Kd.R_drew)); exact Kd.R_mono u.out (fun _ hk => hk.2))); (case aS => exact (below_size (bl1_ HB I))); (case aL => have := e7.out; omega); intro g4 g7 ho hb hg hat; rw [← e8.out] at ho; refine sh4_ (blk_grown (g := c0) (o := .cells #[iv_ x, .slice U l.length a0, .slice X m.length a3, iv_ y, iv_ z, iv_ B, iv_ D, iv_ E, .slice Y s.length a4, iv_ G] 34 (0, 0)) (bk_ j) hg (Kd.R_ne u.out j.out (by decide))) (Kd.R_after (ok := (fun _ => True)) (ra_ Z) hg hat) hb ho ?_; clear j Z HB u ho hb hg hat; intro j Z HB e6))
       go_roundg k2
       case measure => have := b1.out; have := b2.out; omega
       case rel => exact ⟨(f6), (wrap64 (T + 1)), (by first | rfl | (simp; done) | (simp [*]; done)), H', ⟨by have := b1.out; have := b2.out; omega⟩, ⟨by (with_reducible repeat (first | apply Kd.R_alloc | apply Kd.R_drewN | apply Kd.R_drew)); exact Kd.R_mono e6.out (fun _ hk => trivial)⟩, ⟨by (with_reducible repeat (first | refine blk_drewN ?_ _ | refine blk_drew ?_ | refine blk_alloc ?_ _)); exact j.out⟩, ⟨bl1_ HB I⟩⟩
      ·rw [if_neg a5] at H
       have f0 := decide_eq_false a5
       clear a5
       have H' := Aside0.mk H
       clear H
       have f9 := cf10_ j
       go_wp2_with (first | ((with_reducible refine gate_callee (f := 38) rfl ?_); refine gl_ 20 Tryz.func38 (impl_NodesOf.calls x _ _ l _ _ m y z B D E _ _ s G d0 _ (ck_ b4 HB) a8.out (ck_ b5 HB) a9.out (ck_ b6 HB) b0.out d2.out) ?_; rintro e g8 ⟨rfl, hb⟩; refine ⟨_, rfl, sh3_ (Kd.R_below (ra_ u) hb) (blk_below (bk_ j) hb) (below_step (bl1_ HB I) hb) ?_⟩; clear u j HB hb; intro u j HB))
       go_roundg k2
       case measure => have := b1.out; have := b2.out; omega
       case rel => exact ⟨(a6), (wrap64 (J + 1)), (by first | rfl | (simp; done) | (simp [*]; done)), H', ⟨by have := b1.out; have := b2.out; omega⟩, ⟨ra_ u⟩, ⟨by (with_reducible repeat (first | refine blk_drewN ?_ _ | refine blk_drew ?_ | refine blk_alloc ?_ _)); exact j.out⟩, ⟨bl1_ HB I⟩⟩
   ·rw [if_neg c10] at H
    have e9 : decide (J < L) = false := decide_eq_false c10
    clear c10
    obtain rfl := Option.some.inj H
    go_wp2
    go_ret
    exact ⟨_, er_, ra_ u, bl1_ HB I⟩

end Go.Proofs.YtpjhdehbikohmaaGreat.PFnExactPlanOf
