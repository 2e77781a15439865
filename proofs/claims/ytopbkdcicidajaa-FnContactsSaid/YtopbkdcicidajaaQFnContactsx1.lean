-- Written by a program of this session for this claim (the kit's printer with changes).
import Derived.Test.YtopbkdcicidajaaQFnContactsx0
namespace Go.Proofs.Ytopbkdcicidajaa.PFnContacts
open Go.RowKit Go.Proofs.YtopbkdcicidajaaW.PrintWords Go.Proofs.YtopbkdcicidajaaW.PrintLast Go.Proofs.YtopbkdcicidajaaW.PrintMore
attribute [local go_sem] max2_int min2_int max_two min_two max_three min_three max_four min_four   -- for this text's walks alone
set_option linter.unusedVariables false
set_option maxHeartbeats 8000000
set_option maxRecDepth 100000
set_option linter.unusedSimpArgs false

/-! ### laws_big: function 8 -/
def laws_big.f (j : List Int) : Option (Bool) := some (decide ((j.length : Int) > 1048576))
theorem laws_big.calls (l : Option Addr) (m : Nat) (j : List Int) (r : Bool) (w : World) (u : Kd.C (Kd.int .u8) w l j.length j) (s : j.length ≤ m) (h : laws_big.f j = some r) :
  Calls Try.prog 8 #[.slice l j.length m] w fun e w' => e = .returned (.bool r) ∧ Drawn0 w w' := by
 have y := Aside0.mk u
 have x := Aside0.mk s
 clear u s
 have H := h
 clear h
 unfold laws_big.f at H
 obtain rfl := Option.some.inj H
 go_enter Try.func8, Try.ntmps8
 go_wp2
 go_ret
 exact ⟨by first | rfl | (simp; done) | (simp [*]; done), by repeat (first | exact Drawn0.refl _ | apply Drawn0.step)⟩

/-! ### impl_InRange: function 93 -/
def impl_InRange.f (j l m : Int) : Option (Bool) := if l ≤ j then (some (decide (j ≤ m))) else (some false)
theorem impl_InRange.calls (j l m : Int) (r : Bool) (w : World) (h : impl_InRange.f j l m = some r) :
  Calls Try.prog 93 #[iv_ j, iv_ l, iv_ m] w fun e w' => e = .returned (.bool r) ∧ Drawn0 w w' := by
 have H := h
 clear h
 unfold impl_InRange.f at H
 by_cases c4 : l ≤ j
 ·rw [if_pos c4] at H
  have s := decide_eq_true c4
  clear c4
  obtain rfl := Option.some.inj H
  go_enter Try.func93, Try.ntmps93
  go_wp2
  go_ret
  exact ⟨by first | rfl | (simp; done) | (simp [*]; done), by repeat (first | exact Drawn0.refl _ | apply Drawn0.step)⟩
 ·rw [if_neg c4] at H
  have s := decide_eq_false c4
  clear c4
  obtain rfl := Option.some.inj H
  go_enter Try.func93, Try.ntmps93
  go_wp2
  go_ret
  exact ⟨by first | rfl | (simp; done) | (simp [*]; done), by repeat (first | exact Drawn0.refl _ | apply Drawn0.step)⟩

/-! ### impl_isSatellite: function 53 -/
def impl_isSatellite.f (s : Int) (l : List S72) (E : List S74) (u x y z B : Int) (G : List S88) (D j : Int) : Option (Bool) := (impl_InRange.f j 0 (wrap64 ((l.length : Int) - 1))).bind fun m => (some m)
theorem impl_isSatellite.calls (y : Int) (s : Option Addr) (L : Nat) (j : List S72) (u : Option Addr) (M : Nat) (l : List S74) (z B D E G : Int) (x : Option Addr) (O : Nat) (m : List S88) (I J : Int) (r : Bool) (w : World) (Y : Kd.C k72 w s j.length j) (T : j.length ≤ L) (Z : Kd.C k74 w u l.length l) (U : l.length ≤ M) (a0 : Kd.C k88 w x m.length m) (X : m.length ≤ O) (h : impl_isSatellite.f y j l z B D E G m I J = some r) :
  Calls Try.prog 53 #[.agg #[iv_ y, .slice s j.length L, .slice u l.length M, iv_ z, iv_ B, iv_ D, iv_ E, iv_ G, .slice x m.length O, iv_ I], iv_ J] w fun e w' => e = .returned (.bool r) ∧ Below w.heap.size w w' := by
 have b4 := Try.underlying28
 have a9 := Aside0.mk Y
 have a6 := Aside0.mk T
 clear Y T
 have b0 := Aside0.mk Z
 have a7 := Aside0.mk U
 clear Z U
 have b1 := Aside0.mk a0
 have a8 := Aside0.mk X
 clear a0 X
 have HB := Aside0.mk (Below.refl w.heap.size w)
 have H := h
 clear h
 unfold impl_isSatellite.f at H
 replace H := bs_ H
 obtain ⟨a5, A3, H⟩ := H
 obtain rfl := Option.some.inj H
 go_enter Try.func53, Try.ntmps53
 go_wp2_with (first | ((with_reducible refine gd_ 2 ?_); refine bx_ 2 28 #[iv_ y, .slice s j.length L, .slice u l.length M, iv_ z, iv_ B, iv_ D, iv_ E, iv_ G, .slice x m.length O, iv_ I] ?_; intro b2 hg w4 hbox hb; refine sh3_ (below_step (bl_ HB) hb) hbox (ge_ hg (bl_ HB)) ?_; clear HB hb hbox hg; intro HB a3 a4; have b3 := cf10_ a3) | ((with_reducible refine gate_callee (f := 93) rfl ?_); refine gl_ 10 Try.func93 (impl_InRange.calls J 0 (wrap64 ((j.length : Int) - 1)) a5 _ A3.out) ?_; rintro e w' ⟨rfl, ⟨nd, rfl⟩⟩; refine ⟨_, rfl, ?_⟩))
 go_ret
 exact ⟨by first | (rw [hRT_.out]; rfl) | exact er_, bl1_ HB a4⟩

/-! ### impl_NodesOf: function 41 -/
def impl_NodesOf.f (m : Int) (j : List S72) (l : List S74) (s u x y z : Int) (D : List S88) (B : Int) : Option (Int) := some (wrap64 ((j.length : Int) + (l.length : Int)))
theorem impl_NodesOf.calls (y : Int) (s : Option Addr) (J : Nat) (j : List S72) (u : Option Addr) (L : Nat) (l : List S74) (z B D E G : Int) (x : Option Addr) (M : Nat) (m : List S88) (I r : Int) (w : World) (X : Kd.C k72 w s j.length j) (O : j.length ≤ J) (Y : Kd.C k74 w u l.length l) (T : l.length ≤ L) (Z : Kd.C k88 w x m.length m) (U : m.length ≤ M) (h : impl_NodesOf.f y j l z B D E G m I = some r) :
  Calls Try.prog 41 #[.agg #[iv_ y, .slice s j.length J, .slice u l.length L, iv_ z, iv_ B, iv_ D, iv_ E, iv_ G, .slice x m.length M, iv_ I]] w fun e w' => e = .returned (iv_ r) ∧ Below w.heap.size w w' := by
 have b0 := Try.underlying28
 have a5 := Aside0.mk X
 have a2 := Aside0.mk O
 clear X O
 have a6 := Aside0.mk Y
 have a3 := Aside0.mk T
 clear Y T
 have a7 := Aside0.mk Z
 have a4 := Aside0.mk U
 clear Z U
 have HB := Aside0.mk (Below.refl w.heap.size w)
 have H := h
 clear h
 unfold impl_NodesOf.f at H
 obtain rfl := Option.some.inj H
 go_enter Try.func41, Try.ntmps41
 go_wp2_with (first | ((with_reducible refine gd_ 1 ?_); refine bx_ 1 28 #[iv_ y, .slice s j.length J, .slice u l.length L, iv_ z, iv_ B, iv_ D, iv_ E, iv_ G, .slice x m.length M, iv_ I] ?_; intro a8 hg w2 hbox hb; refine sh3_ (below_step (bl_ HB) hb) hbox (ge_ hg (bl_ HB)) ?_; clear HB hb hbox hg; intro HB a0 a1; have a9 := cf10_ a0))
 go_ret
 exact ⟨by first | (rw [hRT_.out]; rfl) | exact er_, bl1_ HB a1⟩

/-! ### impl_IsSite: function 54 -/
def impl_IsSite.f (l : Int) (j : List S72) (D : List S74) (m s u x y : Int) (E : List S88) (z B : Int) : Option (Bool) := (impl_NodesOf.f l j D m s u x y E z).bind fun G => ((impl_InRange.f B (j.length : Int) (wrap64 (G - 1))).bind fun I => (some I))
def impl_IsSite.T1 : Bool × List (List Nat × List Nat) := (true, [([], []), ([], []), ([1], [1]), ([2], [2]), ([], []), ([4], [4]), ([5], [5]), ([0, 3, 6, 5], [0, 3, 6]), ([7, 7, 0, 1, 2, 3, 4, 5, 6, 7], [7])])
def impl_IsSite.B1 : List Nat := [0, 0, 2, 6, 0, 16, 48, 127, 255]
theorem impl_IsSite.tab1 : rtab .any (opsOf Try.f54 1) = impl_IsSite.T1 := by kernel_rfl
theorem impl_IsSite.bits1 : waitsOk impl_IsSite.T1.2 impl_IsSite.B1 = true := by kernel_rfl
theorem impl_IsSite.calls (u : Int) (G : Option Addr) (L : Nat) (l : List S72) (I : Option Addr) (M : Nat) (m : List S74) (x y z B D : Int) (J : Option Addr) (O : Nat) (s : List S88) (E T : Int) (r : Bool) (w : World) (a0 : Kd.C k72 w G l.length l) (X : l.length ≤ L) (a2 : Kd.C k74 w I m.length m) (Y : m.length ≤ M) (a3 : Kd.C k88 w J s.length s) (Z : s.length ≤ O) (h : impl_IsSite.f u l m x y z B D s E T = some r) :
  Calls Try.prog 54 #[.agg #[iv_ u, .slice G l.length L, .slice I m.length M, iv_ x, iv_ y, iv_ z, iv_ B, iv_ D, .slice J s.length O, iv_ E], iv_ T] w fun e w' => e = .returned (.bool r) ∧ Below w.heap.size w w' := by
 have b6 := Try.underlying28
 have b0 := Aside0.mk a0
 have a7 := Aside0.mk X
 clear a0 X
 have b1 := Aside0.mk a2
 have a8 := Aside0.mk Y
 clear a2 Y
 have b2 := Aside0.mk a3
 have a9 := Aside0.mk Z
 clear a3 Z
 have HB := Aside0.mk (Below.refl w.heap.size w)
 have H := h
 clear h
 unfold impl_IsSite.f at H
 replace H := bs_ H
 obtain ⟨a4, A3, H⟩ := H
 replace H := bs_ H
 obtain ⟨b4, A4, H⟩ := H
 obtain rfl := Option.some.inj H
 go_enter Try.func54, Try.ntmps54
 try go_wp2_with (first | ((with_reducible refine gd_ 2 ?_); refine bx_ 2 28 #[iv_ u, .slice G l.length L, .slice I m.length M, iv_ x, iv_ y, iv_ z, iv_ B, iv_ D, .slice J s.length O, iv_ E] ?_; intro b3 hg w5 hbox hb; refine sh3_ (below_step (bl_ HB) hb) hbox (ge_ hg (bl_ HB)) ?_; clear HB hb hbox hg; intro HB j U))
 refine sh2_ (blk_drew j.out) (below_drew1 HB.out) ?_
 clear j HB
 intro j HB
 refine start_ (n := 9) (S := fun w' => Cz10 w' b3 (iv_ u) (.slice G l.length L) (.slice I m.length M) (iv_ x) (iv_ y) (iv_ z) (iv_ B) (iv_ D) (.slice J s.length O) (iv_ E)) (ds := []) (bo_ 9 0) (by kernel_rfl) rfl rfl (cz10_ j) (fun hHeld => ?_); refine with_tabW impl_IsSite.tab1 impl_IsSite.bits1 (fun HT_ HW_ => ?_)
 generalize w5.drew = w6 at j HB hHeld ⊢
 refine pur_ 0 (bo_ 9 1) (some 5) HT_ ?_
 refine pur_ 1 (bo_ 9 3) (some 6) HT_ ?_
 refine tak_ 2 (bo_ 9 7) (some 7) HT_ HW_ hHeld ?_
 refine pur_ 3 (bo_ 9 15) (some 8) HT_ ?_
 refine tak_ 4 (bo_ 9 31) (some 9) HT_ HW_ hHeld ?_
 refine onc_ 5 (bo_ 9 63) (some 10) HT_ Try.func41 (impl_NodesOf.calls u _ _ l _ _ m x y z B D _ _ s E a4 _ (ck_ b0 HB) a7.out (ck_ b1 HB) a8.out (ck_ b2 HB) a9.out A3.out) ?_
 rintro e w7 ⟨rfl, hb⟩
 refine sh2_ (blk_below (bk_ j) hb) (below_step (bl1_ HB U) hb) ?_
 clear j HB hb
 intro j HB
 refine ⟨_, _, rfl, (cz10_ j), pt_, fun hHeld => ?_⟩
 refine pur_ 6 (bo_ 9 127) (some 11) HT_ ?_
 refine onc_ 7 (bo_ 9 255) (some 12) HT_ Try.func93 (impl_InRange.calls T (l.length : Int) (wrap64 (a4 - 1)) b4 _ A4.out) ?_
 rintro e w' ⟨rfl, ⟨nd, rfl⟩⟩
 refine ⟨_, _, rfl, (cz10_ j), pt_, fun hHeld => ?_⟩
 refine pur_ 8 (bo_ 9 511) (some 4) HT_ ?_
 refine done_ (done_of HT_.out (by kernel_rfl)) ?_
 try go_wp2
 go_ret
 exact ⟨by first | (rw [hRT_.out]; rfl) | exact er_, bl1_ HB U⟩

/-! ### impl_PlaneOf: function 52 -/
def impl_PlaneOf.f (s : Int) (l : List S72) (m : List S74) (u x y z B : Int) (E : List S88) (D j : Int) : Option (Int) := (impl_isSatellite.f s l m u x y z B E D j).bind fun G => (if G = true then (if 0 ≤ j then (if j < (l.length : Int) then (some ((rd_T72 l j).f0)) else (none)) else (none)) else ((impl_IsSite.f s l m u x y z B E D j).bind fun I => (if I = true then (if 0 ≤ (wrap64 (j - (l.length : Int))) then (if (wrap64 (j - (l.length : Int))) < (m.length : Int) then (some ((rd_T74 m (wrap64 (j - (l.length : Int)))).f0)) else (none)) else (none)) else (some (-1)))))
theorem impl_PlaneOf.calls (x : Int) (M : Option Addr) (a2 : Nat) (l : List S72) (O : Option Addr) (a3 : Nat) (m : List S74) (y z B D E : Int) (T : Option Addr) (a4 : Nat) (u : List S88) (G s r : Int) (w : World) (b9 : Kd.C k72 w M l.length l) (b6 : l.length ≤ a2) (c0 : Kd.C k74 w O m.length m) (b7 : m.length ≤ a3) (c1 : Kd.C k88 w T u.length u) (b8 : u.length ≤ a4) (h : impl_PlaneOf.f x l m y z B D E u G s = some r) :
  Calls Try.prog 52 #[.agg #[iv_ x, .slice M l.length a2, .slice O m.length a3, iv_ y, iv_ z, iv_ B, iv_ D, iv_ E, .slice T u.length a4, iv_ G], iv_ s] w fun e w' => e = .returned (iv_ r) ∧ Below w.heap.size w w' := by
 have f5 := Try.underlying28
 have J := Aside0.mk b9
 have X := Aside0.mk b6
 clear b9 b6
 have L := Aside0.mk c0
 have Y := Aside0.mk b7
 clear c0 b7
 have a0 := Aside0.mk c1
 have Z := Aside0.mk b8
 clear c1 b8
 have HB := Aside0.mk (Below.refl w.heap.size w)
 have H := h
 clear h
 unfold impl_PlaneOf.f at H
 replace H := bs_ H
 obtain ⟨d9, A3, H⟩ := H
 by_cases c4 : d9 = true
 ·subst c4
  rw [if_pos rfl] at H
  replace H := ifn_ H
  obtain ⟨c5, H⟩ := H
  have e4 := decide_eq_true c5
  clear c5
  replace H := ifn_ H
  obtain ⟨c6, H⟩ := H
  have e5 := decide_eq_true c6
  clear c6
  obtain rfl := Option.some.inj H
  go_enter Try.func52, Try.ntmps52
  go_wp2_with (first | ((with_reducible refine gd_ 2 ?_); refine bx_ 2 28 #[iv_ x, .slice M l.length a2, .slice O m.length a3, iv_ y, iv_ z, iv_ B, iv_ D, iv_ E, .slice T u.length a4, iv_ G] ?_; intro b5 hg w7 hbox hb; refine sh3_ (below_step (bl_ HB) hb) hbox (ge_ hg (bl_ HB)) ?_; clear HB hb hbox hg; intro HB j I; have f3 := cf10_ j) | ((with_reducible refine gate_callee (f := 53) rfl ?_); refine gl_ 8 Try.func53 (impl_isSatellite.calls x _ _ l _ _ m y z B D E _ _ u G s true _ (ck_ J HB) X.out (ck_ L HB) Y.out (ck_ a0 HB) Z.out A3.out) ?_; rintro e w9 ⟨rfl, hb⟩; refine ⟨_, rfl, sh2_ (blk_below (bk_ j) hb) (below_step (bl1_ HB I) hb) ?_⟩; clear j HB hb; intro j HB; have e6 := cf10_ j; have a8 : 0 ≤ (s : Int) := od_; have b0 : s < (l.length : Int) := od_; obtain ⟨e0, d7, d0, d1, d2, d3⟩ := at_T72 J.out s a8 b0; cases d7; replace d0 := hbc_ HB d0; replace d1 := hbc_ HB d1; replace d2 := hbc_ HB d2; replace d3 := hbc_ HB d3; replace a8 := eq_true a8; replace b0 := eq_true b0))
  go_ret
  exact ⟨by first | (rw [hRT_.out]; rfl) | exact er_, bl1_ HB I⟩
 ·replace c4 := Bool.eq_false_iff.mpr c4
  subst c4
  have U : ((impl_IsSite.f x l m y z B D E u G s).bind fun b2 => (if b2 = true then (if 0 ≤ (wrap64 (s - (l.length : Int))) then (if (wrap64 (s - (l.length : Int))) < (m.length : Int) then (some ((rd_T74 m (wrap64 (s - (l.length : Int)))).f0)) else (none)) else (none)) else (some (-1)))) = some r := by rw [if_neg (show ¬ (false = true) by decide)] at H; exact H
  clear H
  have H := U
  clear U
  replace H := bs_ H
  obtain ⟨b2, a7, H⟩ := H
  by_cases a6 : b2 = true
  ·subst a6
   rw [if_pos rfl] at H
   obtain ⟨ji13, hji13⟩ : ∃ j_ : Int, (wrap64 (s - (l.length : Int))) = j_ := ⟨_, rfl⟩
   replace H : (if 0 ≤ (ji13) then (if (ji13) < (m.length : Int) then (some ((rd_T74 m (ji13)).f0)) else (none)) else (none)) = some r := by first | (rw [hji13] at H; exact H) | (simp only [hji13] at H ⊢; exact H)
   (try rw [hji13] at A3)
   (try rw [hji13] at a7)
   have f4 : (IntKind.i64.wrap (s - (l.length : Int))) = ji13 := (i64_w _).trans hji13
   replace H := ifn_ H
   obtain ⟨b3, H⟩ := H
   have e2 := decide_eq_true b3
   clear b3
   replace H := ifn_ H
   obtain ⟨b4, H⟩ := H
   have e3 := decide_eq_true b4
   clear b4
   obtain rfl := Option.some.inj H
   go_enter Try.func52, Try.ntmps52
   go_wp2_with (first | ((with_reducible refine gd_ 2 ?_); refine bx_ 2 28 #[iv_ x, .slice M l.length a2, .slice O m.length a3, iv_ y, iv_ z, iv_ B, iv_ D, iv_ E, .slice T u.length a4, iv_ G] ?_; intro b5 hg f6 hbox hb; refine sh3_ (below_step (bl_ HB) hb) hbox (ge_ hg (bl_ HB)) ?_; clear HB hb hbox hg; intro HB j I; have e7 := cf10_ j) | ((with_reducible refine gate_callee (f := 53) rfl ?_); refine gl_ 8 Try.func53 (impl_isSatellite.calls x _ _ l _ _ m y z B D E _ _ u G s false _ (ck_ J HB) X.out (ck_ L HB) Y.out (ck_ a0 HB) Z.out A3.out) ?_; rintro e f7 ⟨rfl, hb⟩; refine ⟨_, rfl, sh2_ (blk_below (bk_ j) hb) (below_step (bl1_ HB I) hb) ?_⟩; clear j HB hb; intro j HB; have e8 := cf10_ j) | ((with_reducible refine gate_callee (f := 54) rfl ?_); refine gl_ 18 Try.func54 (impl_IsSite.calls x _ _ l _ _ m y z B D E _ _ u G s true _ (ck_ J HB) X.out (ck_ L HB) Y.out (ck_ a0 HB) Z.out a7.out) ?_; rintro e f8 ⟨rfl, hb⟩; refine ⟨_, rfl, sh2_ (blk_below (bk_ j) hb) (below_step (bl1_ HB I) hb) ?_⟩; clear j HB hb; intro j HB; have e9 := cf10_ j; have a9 : 0 ≤ ((ji13) : Int) := od_; have b1 : (ji13) < (m.length : Int) := od_; obtain ⟨e1, d8, d4, d5, d6⟩ := at_T74 L.out (ji13) a9 b1; cases d8; replace d4 := hbc_ HB d4; replace d5 := hbc_ HB d5; replace d6 := hbc_ HB d6; replace a9 := eq_true a9; replace b1 := eq_true b1))
   go_ret
   exact ⟨by first | rfl | (rw [hRT_.out]; rfl) | (simp [errW_none, errW_some] <;> rfl) | (simp only [← hji13]; first | rfl | (simp [errW_none, errW_some] <;> rfl)) | (simp [*, errW_none, errW_some] <;> rfl), bl1_ HB I⟩
  ·replace a6 := Bool.eq_false_iff.mpr a6
   subst a6
   have U : (some (-1)) = some r := by rw [if_neg (show ¬ (false = true) by decide)] at H; exact H
   clear H
   have H := U
   clear U
   obtain rfl := Option.some.inj H
   go_enter Try.func52, Try.ntmps52
   go_wp2_with (first | ((with_reducible refine gd_ 2 ?_); refine bx_ 2 28 #[iv_ x, .slice M l.length a2, .slice O m.length a3, iv_ y, iv_ z, iv_ B, iv_ D, iv_ E, .slice T u.length a4, iv_ G] ?_; intro b5 hg f9 hbox hb; refine sh3_ (below_step (bl_ HB) hb) hbox (ge_ hg (bl_ HB)) ?_; clear HB hb hbox hg; intro HB j I; have f1 := cf10_ j) | ((with_reducible refine gate_callee (f := 53) rfl ?_); refine gl_ 8 Try.func53 (impl_isSatellite.calls x _ _ l _ _ m y z B D E _ _ u G s false _ (ck_ J HB) X.out (ck_ L HB) Y.out (ck_ a0 HB) Z.out A3.out) ?_; rintro e g0 ⟨rfl, hb⟩; refine ⟨_, rfl, sh2_ (blk_below (bk_ j) hb) (below_step (bl1_ HB I) hb) ?_⟩; clear j HB hb; intro j HB; have f2 := cf10_ j) | ((with_reducible refine gate_callee (f := 54) rfl ?_); refine gl_ 18 Try.func54 (impl_IsSite.calls x _ _ l _ _ m y z B D E _ _ u G s false _ (ck_ J HB) X.out (ck_ L HB) Y.out (ck_ a0 HB) Z.out a7.out) ?_; rintro e g1 ⟨rfl, hb⟩; refine ⟨_, rfl, sh2_ (blk_below (bk_ j) hb) (below_step (bl1_ HB I) hb) ?_⟩; clear j HB hb; intro j HB))
   go_ret
   exact ⟨by first | (rw [hRT_.out]; rfl) | exact er_, bl1_ HB I⟩

/-! ### impl_areNeighbors: function 55 -/
def impl_areNeighbors.f (m : Int) (J : List S72) (L : List S74) (z B D E G : Int) (M : List S88) (I j l : Int) : Option (Bool) := if j > l then (if l ≥ 0 then (if (wrap64 (j - l)) = 1 then (some true) else (if l = 0 then (if j = (wrap64 (m - 1)) then ((impl_InRange.f j 1 4).bind fun s => (some s)) else (some false)) else (some false))) else (if l = 0 then (if j = (wrap64 (m - 1)) then ((impl_InRange.f j 1 4).bind fun u => (some u)) else (some false)) else (some false))) else (if j ≥ 0 then (if (wrap64 (l - j)) = 1 then (some true) else (if j = 0 then (if l = (wrap64 (m - 1)) then ((impl_InRange.f l 1 4).bind fun x => (some x)) else (some false)) else (some false))) else (if j = 0 then (if l = (wrap64 (m - 1)) then ((impl_InRange.f l 1 4).bind fun y => (some y)) else (some false)) else (some false)))
theorem impl_areNeighbors.calls (m : Int) (y : Option Addr) (T : Nat) (s : List S72) (z : Option Addr) (U : Nat) (u : List S74) (D E G I J : Int) (B : Option Addr) (X : Nat) (x : List S88) (L M O : Int) (r : Bool) (w : World) (b2 : Kd.C k72 w y s.length s) (a9 : s.length ≤ T) (b3 : Kd.C k74 w z u.length u) (b0 : u.length ≤ U) (b4 : Kd.C k88 w B x.length x) (b1 : x.length ≤ X) (h : impl_areNeighbors.f m s u D E G I J x L M O = some r) :
  Calls Try.prog 55 #[.agg #[iv_ m, .slice y s.length T, .slice z u.length U, iv_ D, iv_ E, iv_ G, iv_ I, iv_ J, .slice B x.length X, iv_ L], iv_ M, iv_ O] w fun e w' => e = .returned (.bool r) ∧ Below w.heap.size w w' := by
 have g8 := Try.underlying28
 have f7 := Aside0.mk b2
 have f4 := Aside0.mk a9
 clear b2 a9
 have f8 := Aside0.mk b3
 have f5 := Aside0.mk b0
 clear b3 b0
 have f9 := Aside0.mk b4
 have f6 := Aside0.mk b1
 clear b4 b1
 have HB := Aside0.mk (Below.refl w.heap.size w)
 have H := h
 clear h
 unfold impl_areNeighbors.f at H
 by_cases c4 : M > O
 ·rw [if_pos c4] at H
  have e2 : decide (O < M) = true := decide_eq_true c4
  clear c4
  by_cases c5 : O ≥ 0
  ·rw [if_pos c5] at H
   have e3 : decide (0 ≤ O) = true := decide_eq_true c5
   clear c5
   by_cases c6 : (wrap64 (M - O)) = 1
   ·rw [if_pos c6] at H
    obtain ⟨e4, e5⟩ := bt_ c6
    clear c6
    obtain rfl := Option.some.inj H
    go_enter Try.func55, Try.ntmps55
    go_wp2_with (first | ((with_reducible refine gd_ 3 ?_); refine bx_ 3 28 #[iv_ m, .slice y s.length T, .slice z u.length U, iv_ D, iv_ E, iv_ G, iv_ I, iv_ J, .slice B x.length X, iv_ L] ?_; intro Y hg w7 hbox hb; refine sh3_ (below_step (bl_ HB) hb) hbox (ge_ hg (bl_ HB)) ?_; clear HB hb hbox hg; intro HB l j))
    go_ret
    exact ⟨by first | (rw [hRT_.out]; rfl) | exact er_, bl1_ HB j⟩
   ·rw [if_neg c6] at H
    obtain ⟨e4, e5⟩ := bn_ c6
    by_cases c8 : O = 0
    ·rw [if_pos c8] at H
     obtain ⟨e6, e7⟩ := bt_ c8
     clear c8
     by_cases c9 : M = (wrap64 (m - 1))
     ·rw [if_pos c9] at H
      obtain ⟨e8, e9⟩ := bt_ c9
      clear c9
      replace H := bs_ H
      obtain ⟨f0, b5, H⟩ := H
      obtain rfl := Option.some.inj H
      go_enter Try.func55, Try.ntmps55
      go_wp2_with (first | ((with_reducible refine gd_ 3 ?_); refine bx_ 3 28 #[iv_ m, .slice y s.length T, .slice z u.length U, iv_ D, iv_ E, iv_ G, iv_ I, iv_ J, .slice B x.length X, iv_ L] ?_; intro Y hg g9 hbox hb; refine sh3_ (below_step (bl_ HB) hb) hbox (ge_ hg (bl_ HB)) ?_; clear HB hb hbox hg; intro HB l j; have g0 := cf10_ l) | (go_at_call 93; (with_reducible refine (impl_InRange.calls M 1 4 f0 _ b5.out).mono ?_); rintro e w' ⟨rfl, ⟨nd, rfl⟩⟩))
      go_ret
      exact ⟨by first | (rw [hRT_.out]; rfl) | exact er_, bl1_ HB j⟩
     ·rw [if_neg c9] at H
      obtain ⟨e8, e9⟩ := bn_ c9
      obtain rfl := Option.some.inj H
      go_enter Try.func55, Try.ntmps55
      go_wp2_with (first | ((with_reducible refine gd_ 3 ?_); refine bx_ 3 28 #[iv_ m, .slice y s.length T, .slice z u.length U, iv_ D, iv_ E, iv_ G, iv_ I, iv_ J, .slice B x.length X, iv_ L] ?_; intro Y hg h0 hbox hb; refine sh3_ (below_step (bl_ HB) hb) hbox (ge_ hg (bl_ HB)) ?_; clear HB hb hbox hg; intro HB l j; have g1 := cf10_ l))
      go_ret
      exact ⟨by first | (rw [hRT_.out]; rfl) | exact er_, bl1_ HB j⟩
    ·rw [if_neg c8] at H
     obtain ⟨e6, e7⟩ := bn_ c8
     obtain rfl := Option.some.inj H
     go_enter Try.func55, Try.ntmps55
     go_wp2_with (first | ((with_reducible refine gd_ 3 ?_); refine bx_ 3 28 #[iv_ m, .slice y s.length T, .slice z u.length U, iv_ D, iv_ E, iv_ G, iv_ I, iv_ J, .slice B x.length X, iv_ L] ?_; intro Y hg h1 hbox hb; refine sh3_ (below_step (bl_ HB) hb) hbox (ge_ hg (bl_ HB)) ?_; clear HB hb hbox hg; intro HB l j))
     go_ret
     exact ⟨by first | (rw [hRT_.out]; rfl) | exact er_, bl1_ HB j⟩
  ·rw [if_neg c5] at H
   have e3 : decide (0 ≤ O) = false := decide_eq_false c5
   clear c5
   by_cases a0 : O = 0
   ·rw [if_pos a0] at H
    obtain ⟨b9, c0⟩ := bt_ a0
    clear a0
    by_cases a3 : M = (wrap64 (m - 1))
    ·rw [if_pos a3] at H
     obtain ⟨c1, d0⟩ := bt_ a3
     clear a3
     replace H := bs_ H
     obtain ⟨f1, b6, H⟩ := H
     obtain rfl := Option.some.inj H
     go_enter Try.func55, Try.ntmps55
     go_wp2_with (first | ((with_reducible refine gd_ 3 ?_); refine bx_ 3 28 #[iv_ m, .slice y s.length T, .slice z u.length U, iv_ D, iv_ E, iv_ G, iv_ I, iv_ J, .slice B x.length X, iv_ L] ?_; intro Y hg h2 hbox hb; refine sh3_ (below_step (bl_ HB) hb) hbox (ge_ hg (bl_ HB)) ?_; clear HB hb hbox hg; intro HB l j; have g2 := cf10_ l) | (go_at_call 93; (with_reducible refine (impl_InRange.calls M 1 4 f1 _ b6.out).mono ?_); rintro e w' ⟨rfl, ⟨nd, rfl⟩⟩))
     go_ret
     exact ⟨by first | (rw [hRT_.out]; rfl) | exact er_, bl1_ HB j⟩
    ·rw [if_neg a3] at H
     obtain ⟨c1, d0⟩ := bn_ a3
     obtain rfl := Option.some.inj H
     go_enter Try.func55, Try.ntmps55
     go_wp2_with (first | ((with_reducible refine gd_ 3 ?_); refine bx_ 3 28 #[iv_ m, .slice y s.length T, .slice z u.length U, iv_ D, iv_ E, iv_ G, iv_ I, iv_ J, .slice B x.length X, iv_ L] ?_; intro Y hg h3 hbox hb; refine sh3_ (below_step (bl_ HB) hb) hbox (ge_ hg (bl_ HB)) ?_; clear HB hb hbox hg; intro HB l j; have g3 := cf10_ l))
     go_ret
     exact ⟨by first | (rw [hRT_.out]; rfl) | exact er_, bl1_ HB j⟩
   ·rw [if_neg a0] at H
    obtain ⟨b9, c0⟩ := bn_ a0
    obtain rfl := Option.some.inj H
    go_enter Try.func55, Try.ntmps55
    go_wp2_with (first | ((with_reducible refine gd_ 3 ?_); refine bx_ 3 28 #[iv_ m, .slice y s.length T, .slice z u.length U, iv_ D, iv_ E, iv_ G, iv_ I, iv_ J, .slice B x.length X, iv_ L] ?_; intro Y hg h4 hbox hb; refine sh3_ (below_step (bl_ HB) hb) hbox (ge_ hg (bl_ HB)) ?_; clear HB hb hbox hg; intro HB l j))
    go_ret
    exact ⟨by first | (rw [hRT_.out]; rfl) | exact er_, bl1_ HB j⟩
 ·rw [if_neg c4] at H
  have e2 : decide (O < M) = false := decide_eq_false c4
  clear c4
  by_cases Z : M ≥ 0
  ·rw [if_pos Z] at H
   have d1 : decide (0 ≤ M) = true := decide_eq_true Z
   clear Z
   by_cases a4 : (wrap64 (O - M)) = 1
   ·rw [if_pos a4] at H
    obtain ⟨d2, d3⟩ := bt_ a4
    clear a4
    obtain rfl := Option.some.inj H
    go_enter Try.func55, Try.ntmps55
    go_wp2_with (first | ((with_reducible refine gd_ 3 ?_); refine bx_ 3 28 #[iv_ m, .slice y s.length T, .slice z u.length U, iv_ D, iv_ E, iv_ G, iv_ I, iv_ J, .slice B x.length X, iv_ L] ?_; intro Y hg h5 hbox hb; refine sh3_ (below_step (bl_ HB) hb) hbox (ge_ hg (bl_ HB)) ?_; clear HB hb hbox hg; intro HB l j))
    go_ret
    exact ⟨by first | (rw [hRT_.out]; rfl) | exact er_, bl1_ HB j⟩
   ·rw [if_neg a4] at H
    obtain ⟨d2, d3⟩ := bn_ a4
    by_cases a5 : M = 0
    ·rw [if_pos a5] at H
     obtain ⟨d4, d5⟩ := bt_ a5
     clear a5
     by_cases a6 : O = (wrap64 (m - 1))
     ·rw [if_pos a6] at H
      obtain ⟨d6, d7⟩ := bt_ a6
      clear a6
      replace H := bs_ H
      obtain ⟨f2, b7, H⟩ := H
      obtain rfl := Option.some.inj H
      go_enter Try.func55, Try.ntmps55
      go_wp2_with (first | ((with_reducible refine gd_ 3 ?_); refine bx_ 3 28 #[iv_ m, .slice y s.length T, .slice z u.length U, iv_ D, iv_ E, iv_ G, iv_ I, iv_ J, .slice B x.length X, iv_ L] ?_; intro Y hg h6 hbox hb; refine sh3_ (below_step (bl_ HB) hb) hbox (ge_ hg (bl_ HB)) ?_; clear HB hb hbox hg; intro HB l j; have g4 := cf10_ l) | (go_at_call 93; (with_reducible refine (impl_InRange.calls O 1 4 f2 _ b7.out).mono ?_); rintro e w' ⟨rfl, ⟨nd, rfl⟩⟩))
      go_ret
      exact ⟨by first | (rw [hRT_.out]; rfl) | exact er_, bl1_ HB j⟩
     ·rw [if_neg a6] at H
      obtain ⟨d6, d7⟩ := bn_ a6
      obtain rfl := Option.some.inj H
      go_enter Try.func55, Try.ntmps55
      go_wp2_with (first | ((with_reducible refine gd_ 3 ?_); refine bx_ 3 28 #[iv_ m, .slice y s.length T, .slice z u.length U, iv_ D, iv_ E, iv_ G, iv_ I, iv_ J, .slice B x.length X, iv_ L] ?_; intro Y hg h7 hbox hb; refine sh3_ (below_step (bl_ HB) hb) hbox (ge_ hg (bl_ HB)) ?_; clear HB hb hbox hg; intro HB l j; have g5 := cf10_ l))
      go_ret
      exact ⟨by first | (rw [hRT_.out]; rfl) | exact er_, bl1_ HB j⟩
    ·rw [if_neg a5] at H
     obtain ⟨d4, d5⟩ := bn_ a5
     obtain rfl := Option.some.inj H
     go_enter Try.func55, Try.ntmps55
     go_wp2_with (first | ((with_reducible refine gd_ 3 ?_); refine bx_ 3 28 #[iv_ m, .slice y s.length T, .slice z u.length U, iv_ D, iv_ E, iv_ G, iv_ I, iv_ J, .slice B x.length X, iv_ L] ?_; intro Y hg h8 hbox hb; refine sh3_ (below_step (bl_ HB) hb) hbox (ge_ hg (bl_ HB)) ?_; clear HB hb hbox hg; intro HB l j))
     go_ret
     exact ⟨by first | (rw [hRT_.out]; rfl) | exact er_, bl1_ HB j⟩
  ·rw [if_neg Z] at H
   have d1 : decide (0 ≤ M) = false := decide_eq_false Z
   clear Z
   by_cases a7 : M = 0
   ·rw [if_pos a7] at H
    obtain ⟨d8, d9⟩ := bt_ a7
    clear a7
    by_cases a8 : O = (wrap64 (m - 1))
    ·rw [if_pos a8] at H
     obtain ⟨e0, e1⟩ := bt_ a8
     clear a8
     replace H := bs_ H
     obtain ⟨f3, b8, H⟩ := H
     obtain rfl := Option.some.inj H
     go_enter Try.func55, Try.ntmps55
     go_wp2_with (first | ((with_reducible refine gd_ 3 ?_); refine bx_ 3 28 #[iv_ m, .slice y s.length T, .slice z u.length U, iv_ D, iv_ E, iv_ G, iv_ I, iv_ J, .slice B x.length X, iv_ L] ?_; intro Y hg h9 hbox hb; refine sh3_ (below_step (bl_ HB) hb) hbox (ge_ hg (bl_ HB)) ?_; clear HB hb hbox hg; intro HB l j; have g6 := cf10_ l) | (go_at_call 93; (with_reducible refine (impl_InRange.calls O 1 4 f3 _ b8.out).mono ?_); rintro e w' ⟨rfl, ⟨nd, rfl⟩⟩))
     go_ret
     exact ⟨by first | (rw [hRT_.out]; rfl) | exact er_, bl1_ HB j⟩
    ·rw [if_neg a8] at H
     obtain ⟨e0, e1⟩ := bn_ a8
     obtain rfl := Option.some.inj H
     go_enter Try.func55, Try.ntmps55
     go_wp2_with (first | ((with_reducible refine gd_ 3 ?_); refine bx_ 3 28 #[iv_ m, .slice y s.length T, .slice z u.length U, iv_ D, iv_ E, iv_ G, iv_ I, iv_ J, .slice B x.length X, iv_ L] ?_; intro Y hg i0 hbox hb; refine sh3_ (below_step (bl_ HB) hb) hbox (ge_ hg (bl_ HB)) ?_; clear HB hb hbox hg; intro HB l j; have g7 := cf10_ l))
     go_ret
     exact ⟨by first | (rw [hRT_.out]; rfl) | exact er_, bl1_ HB j⟩
   ·rw [if_neg a7] at H
    obtain ⟨d8, d9⟩ := bn_ a7
    obtain rfl := Option.some.inj H
    go_enter Try.func55, Try.ntmps55
    go_wp2_with (first | ((with_reducible refine gd_ 3 ?_); refine bx_ 3 28 #[iv_ m, .slice y s.length T, .slice z u.length U, iv_ D, iv_ E, iv_ G, iv_ I, iv_ J, .slice B x.length X, iv_ L] ?_; intro Y hg i1 hbox hb; refine sh3_ (below_step (bl_ HB) hb) hbox (ge_ hg (bl_ HB)) ?_; clear HB hb hbox hg; intro HB l j))
    go_ret
    exact ⟨by first | (rw [hRT_.out]; rfl) | exact er_, bl1_ HB j⟩

end Go.Proofs.Ytopbkdcicidajaa.PFnContacts
