-- Written by a program of this session for this claim (the kit's printer with changes).
import Derived.Test.YtopbkdcicidajaaQFnContactsx0
import Derived.Test.YtopbkdcicidajaaQFnContactsx1
import Derived.Test.YtopbkdcicidajaaQFnContactsx2
import Derived.Test.YtopbkdcicidajaaQFnContactsx3
import Derived.Test.YtopbkdcicidajaaQFnContactsx4
namespace Go.Proofs.Ytopbkdcicidajaa.PFnContacts
open Go.RowKit Go.Proofs.YtopbkdcicidajaaW.PrintWords Go.Proofs.YtopbkdcicidajaaW.PrintLast Go.Proofs.YtopbkdcicidajaaW.PrintMore
attribute [local go_sem] max2_int min2_int max_two min_two max_three min_three max_four min_four   -- for this text's walks alone
set_option linter.unusedVariables false
set_option maxHeartbeats 8000000
set_option maxRecDepth 100000
set_option linter.unusedSimpArgs false

/-! ### impl_IsSure: function 12 -/
def impl_IsSure.f (k : Nat) (j : Int) (E : List S72) (G : List S74) (l m s u x : Int) (I : List S88) (y z B D : Int) : Option (Bool) := (impl_SightAt.f k j E G l m s u x I y z B D).bind fun J => (some (J == 2))
theorem impl_IsSure.calls (k : Nat) (u : Int) (G : Option Addr) (T : Nat) (j : List S72) (I : Option Addr) (U : Nat) (l : List S74) (x y z B D : Int) (J : Option Addr) (X : Nat) (m : List S88) (E L M O : Int) (r : Bool) (w : World) (a5 : Kd.C k72 w G j.length j) (Z : j.length ≤ T) (a6 : Kd.C k74 w I l.length l) (a0 : l.length ≤ U) (a7 : Kd.C k88 w J m.length m) (a4 : m.length ≤ X) (h : impl_IsSure.f k u j l x y z B D m E L M O = some r) :
  Calls Try.prog 12 #[.agg #[iv_ u, .slice G j.length T, .slice I l.length U, iv_ x, iv_ y, iv_ z, iv_ B, iv_ D, .slice J m.length X, iv_ E], iv_ L, iv_ M, iv_ O] w fun e w' => e = .returned (.bool r) ∧ Below w.heap.size w w' := by
 have b8 := Try.underlying28
 have b2 := Aside0.mk a5
 have a9 := Aside0.mk Z
 clear a5 Z
 have b3 := Aside0.mk a6
 have b0 := Aside0.mk a0
 clear a6 a0
 have b4 := Aside0.mk a7
 have b1 := Aside0.mk a4
 clear a7 a4
 have HB := Aside0.mk (Below.refl w.heap.size w)
 have H := h
 clear h
 unfold impl_IsSure.f at H
 replace H := bs_ H
 obtain ⟨b5, A5, H⟩ := H
 obtain rfl := Option.some.inj H
 go_enter Try.func12, Try.ntmps12
 go_wp2_with (first | ((with_reducible refine gd_ 4 ?_); refine bx_ 4 28 #[iv_ u, .slice G j.length T, .slice I l.length U, iv_ x, iv_ y, iv_ z, iv_ B, iv_ D, .slice J m.length X, iv_ E] ?_; intro b6 hg w6 hbox hb; refine sh3_ (below_step (bl_ HB) hb) hbox (ge_ hg (bl_ HB)) ?_; clear HB hb hbox hg; intro HB s Y; have b7 := cf10_ s) | ((with_reducible refine gate_callee (f := 10) rfl ?_); refine gl_ 13 Try.func10 (impl_SightAt.calls k u _ _ j _ _ l x y z B D _ _ m E L M O b5 _ (ck_ b2 HB) a9.out (ck_ b3 HB) b0.out (ck_ b4 HB) b1.out A5.out) ?_; rintro e w8 ⟨rfl, hb⟩; refine ⟨_, rfl, sh2_ (blk_below (bk_ s) hb) (below_step (bl1_ HB Y) hb) ?_⟩; clear s HB hb; intro s HB))
 go_ret
 exact ⟨by first | (rw [hRT_.out]; rfl) | exact er_, bl1_ HB Y⟩

/-! ### impl_Max: function 30 -/
def impl_Max.f (j l : Int) : Option (Int) := some (mx j l)
theorem impl_Max.calls (j l r : Int) (w : World) (h : impl_Max.f j l = some r) :
  Calls Try.prog 30 #[iv_ j, iv_ l] w fun e w' => e = .returned (iv_ r) ∧ Below w.heap.size w w' := by
 have HB := Aside0.mk (Below.refl w.heap.size w)
 have H := h
 clear h
 unfold impl_Max.f at H
 obtain ⟨ji3, hji3⟩ : ∃ j_ : Int, (mx j l) = j_ := ⟨_, rfl⟩
 replace H : (some ji3) = some r := by first | (rw [hji3] at H; exact H) | (simp only [hji3] at H ⊢; exact H)
 have m : (if j < l then l else j) = ji3 := hji3
 obtain rfl := Option.some.inj H
 go_enter Try.func30, Try.ntmps30
 go_wp2
 go_ret
 exact ⟨by first | rfl | (rw [hRT_.out]; rfl) | (simp [errW_none, errW_some] <;> rfl) | (simp only [← hji3]; first | rfl | (simp [errW_none, errW_some] <;> rfl)) | (simp [*, errW_none, errW_some] <;> rfl), bl_ HB⟩

/-! ### impl_InArc: function 110 -/
def impl_InArc.f (j l m : Int) : Option (Bool) := (impl_AngleOf.f m).bind fun s => ((impl_AngleOf.f j).bind fun u => ((impl_AngleOf.f (wrap64 (s - u))).bind fun x => (some (decide (x ≤ l)))))
theorem impl_InArc.calls (j l s : Int) (r : Bool) (w : World) (h : impl_InArc.f j l s = some r) :
  Calls Try.prog 110 #[.agg #[iv_ j, iv_ l], iv_ s] w fun e w' => e = .returned (.bool r) ∧ Below w.heap.size w w' := by
 have M := Try.underlying35
 have HB := Aside0.mk (Below.refl w.heap.size w)
 have H := h
 clear h
 unfold impl_InArc.f at H
 replace H := bs_ H
 obtain ⟨u, z, H⟩ := H
 replace H := bs_ H
 obtain ⟨x, B, H⟩ := H
 obtain ⟨ji5, hji5⟩ : ∃ j_ : Int, (wrap64 (u - x)) = j_ := ⟨_, rfl⟩
 replace H : ((impl_AngleOf.f (ji5)).bind fun y => (some (decide (y ≤ l)))) = some r := by first | (rw [hji5] at H; exact H) | (simp only [hji5] at H ⊢; exact H)
 (try rw [hji5] at z)
 (try rw [hji5] at B)
 have L : (IntKind.i64.wrap (u - x)) = ji5 := (i64_w _).trans hji5
 replace H := bs_ H
 obtain ⟨y, D, H⟩ := H
 obtain rfl := Option.some.inj H
 go_enter Try.func110, Try.ntmps110
 go_wp2_with (first | ((with_reducible refine gd_ 2 ?_); refine bx_ 2 35 #[iv_ j, iv_ l] ?_; intro G hg J hbox hb; refine sh3_ (below_step (bl_ HB) hb) hbox (ge_ hg (bl_ HB)) ?_; clear HB hb hbox hg; intro HB m E) | (go_at_call 58; (with_reducible refine (impl_AngleOf.calls s u _ z.out).mono ?_); rintro e w' ⟨rfl, ⟨nd, rfl⟩⟩; (try exact dd_); have I := cf2_ m) | (go_at_call 58; (with_reducible refine (impl_AngleOf.calls j x _ B.out).mono ?_); rintro e w' ⟨rfl, ⟨nd, rfl⟩⟩; (try exact dd_)) | (go_at_call 58; (with_reducible refine (impl_AngleOf.calls ji5 y _ D.out).mono ?_); rintro e w' ⟨rfl, ⟨nd, rfl⟩⟩; (try exact dd_)))
 repeat (go_quiet (first | ((with_reducible refine gd_ 2 ?_); refine bx_ 2 35 #[iv_ j, iv_ l] ?_; intro G hg J hbox hb; refine sh3_ (below_step (bl_ HB) hb) hbox (ge_ hg (bl_ HB)) ?_; clear HB hb hbox hg; intro HB m E) | (go_at_call 58; (with_reducible refine (impl_AngleOf.calls s u _ z.out).mono ?_); rintro e w' ⟨rfl, ⟨nd, rfl⟩⟩; (try exact dd_); have I := cf2_ m) | (go_at_call 58; (with_reducible refine (impl_AngleOf.calls j x _ B.out).mono ?_); rintro e w' ⟨rfl, ⟨nd, rfl⟩⟩; (try exact dd_)) | (go_at_call 58; (with_reducible refine (impl_AngleOf.calls ji5 y _ D.out).mono ?_); rintro e w' ⟨rfl, ⟨nd, rfl⟩⟩; (try exact dd_))); try go_wp2_with (first | ((with_reducible refine gd_ 2 ?_); refine bx_ 2 35 #[iv_ j, iv_ l] ?_; intro G hg J hbox hb; refine sh3_ (below_step (bl_ HB) hb) hbox (ge_ hg (bl_ HB)) ?_; clear HB hb hbox hg; intro HB m E) | (go_at_call 58; (with_reducible refine (impl_AngleOf.calls s u _ z.out).mono ?_); rintro e w' ⟨rfl, ⟨nd, rfl⟩⟩; (try exact dd_); have I := cf2_ m) | (go_at_call 58; (with_reducible refine (impl_AngleOf.calls j x _ B.out).mono ?_); rintro e w' ⟨rfl, ⟨nd, rfl⟩⟩; (try exact dd_)) | (go_at_call 58; (with_reducible refine (impl_AngleOf.calls ji5 y _ D.out).mono ?_); rintro e w' ⟨rfl, ⟨nd, rfl⟩⟩; (try exact dd_))))
 go_ret
 exact ⟨by first | rfl | (rw [hRT_.out]; rfl) | (simp [errW_none, errW_some] <;> rfl) | (simp only [← hji5]; first | rfl | (simp [errW_none, errW_some] <;> rfl)) | (simp [*, errW_none, errW_some] <;> rfl), bl1_ HB E⟩

/-! ### impl_ArcsMeet: function 75 -/
def impl_ArcsMeet.l0 : Nat → Int → Int → Int → Int → Int → Option (Bool)
 | 0, _, _, _, _, _ => none
 | k + 1, j, l, m, s, u => if j < 360 then ((impl_InArc.f l m j).bind fun x => (if x = true then ((impl_InArc.f s u j).bind fun y => (if y = true then (some true) else (impl_ArcsMeet.l0 k (wrap64 (j + 1)) l m s u))) else (impl_ArcsMeet.l0 k (wrap64 (j + 1)) l m s u))) else (some false)
def impl_ArcsMeet.f (k : Nat) (j l m s : Int) : Option (Bool) := impl_ArcsMeet.l0 k 0 j l m s
theorem impl_ArcsMeet.calls (k : Nat) (x y z B : Int) (r : Bool) (w : World) (h : impl_ArcsMeet.f k x y z B = some r) :
  Calls Try.prog 75 #[.agg #[iv_ x, iv_ y], .agg #[iv_ z, iv_ B]] w fun e w' => e = .returned (.bool r) ∧ Below w.heap.size w w' := by
 have b1 := Try.underlying35
 have HB := Aside0.mk (Below.refl w.heap.size w)
 have H := h
 clear h
 unfold impl_ArcsMeet.f at H
 have H' := Aside0.mk H
 clear H
 go_enter Try.func75, Try.ntmps75
 go_wp2_with (first | ((with_reducible refine gd_ 2 ?_); refine bx_ 2 35 #[iv_ x, iv_ y] ?_; intro T hg w3 hbox hb; refine sh3_ (below_step (bl_ HB) hb) hbox (ge_ hg (bl_ HB)) ?_; clear HB hb hbox hg; intro HB j s) | ((with_reducible refine gd_ 3 ?_); refine bx_ 3 35 #[iv_ z, iv_ B] ?_; intro U hg w4 hbox hb; refine sh6_ (blk_below (bk_ j) hb) (below_step (bl1_ HB s) hb) hbox (ge_ hg (bl1_ HB s)) (nl_ hg (bk_ j)) (ng_ hg (bk_ j)) ?_; clear j HB hb hbox hg; intro j HB l u J L))
 go_loopg [6] k (fun kq Z w' => ∃ (m : Int), Z = iv_ m ∧ Aside0 (impl_ArcsMeet.l0 kq m x y z B = some r) ∧ Aside0 (kq ≤ k) ∧ Aside0 (w'.heap[T]? = some (.cells #[iv_ x, iv_ y] 35 (0, 0))) ∧ Aside0 (w'.heap[U]? = some (.cells #[iv_ z, iv_ B] 35 (0, 0))) ∧ Aside0 (Below w.heap.size w w'))
 case atStart => exact ⟨(0), (by first | rfl | (simp; done) | (simp [*]; done)), H', ⟨Nat.le_refl _⟩, ⟨(bk_ j)⟩, ⟨(bk_ l)⟩, ⟨bl2_ HB s u⟩⟩
 case round =>
  clear H'
  obtain ⟨m, rfl, HA, E, j, l, HB⟩ := hrel
  cases gk with
  | zero => exact absurd HA.out (by simp [impl_ArcsMeet.l0])
  | succ G =>
   have H := HA.out
   clear HA
   simp only [impl_ArcsMeet.l0] at H
   by_cases c5 : m < 360
   ·rw [if_pos c5] at H
    have O := decide_eq_true c5
    clear c5
    replace H := bs_ H
    obtain ⟨X, I, H⟩ := H
    by_cases c7 : X = true
    ·subst c7
     rw [if_pos rfl] at H
     replace H := bs_ H
     obtain ⟨Y, M, H⟩ := H
     by_cases c9 : Y = true
     ·subst c9
      rw [if_pos rfl] at H
      obtain rfl := Option.some.inj H
      have a5 := J.out
      have a8 := L.out
      have a0 := cf2_ j
      go_wp2_with (first | ((with_reducible refine gate_callee (f := 110) rfl ?_); refine gl_ 11 Try.func110 (impl_InArc.calls x y m true _ I.out) ?_; rintro e b2 ⟨rfl, hb⟩; refine ⟨_, rfl, sh3_ (blk_below (bk_ j) hb) (blk_below (bk_ l) hb) (below_step (bl2_ HB s u) hb) ?_⟩; clear j l HB hb; intro j l HB; have a1 := cf2_ l) | (go_at_call 110; (with_reducible refine (impl_InArc.calls z B m true _ M.out).mono ?_); rintro e b3 ⟨rfl, hb⟩; refine sh3_ (blk_below (bk_ j) hb) (blk_below (bk_ l) hb) (below_step (bl2_ HB s u) hb) ?_; clear j l HB hb; intro j l HB))
      go_ret
      exact ⟨by first | (rw [hRT_.out]; rfl) | exact er_, bl2_ HB s u⟩
     ·replace c9 := Bool.eq_false_iff.mpr c9
      subst c9
      have D : (impl_ArcsMeet.l0 G (wrap64 (m + 1)) x y z B) = some r := by rw [if_neg (show ¬ (false = true) by decide)] at H; exact H
      clear H
      have H := D
      clear D
      have H' := Aside0.mk H
      clear H
      have a6 := J.out
      have a9 := L.out
      have a2 := cf2_ j
      go_wp2_with (first | ((with_reducible refine gate_callee (f := 110) rfl ?_); refine gl_ 11 Try.func110 (impl_InArc.calls x y m true _ I.out) ?_; rintro e b4 ⟨rfl, hb⟩; refine ⟨_, rfl, sh3_ (blk_below (bk_ j) hb) (blk_below (bk_ l) hb) (below_step (bl2_ HB s u) hb) ?_⟩; clear j l HB hb; intro j l HB; have a3 := cf2_ l) | (go_at_call 110; (with_reducible refine (impl_InArc.calls z B m false _ M.out).mono ?_); rintro e b5 ⟨rfl, hb⟩; refine sh3_ (blk_below (bk_ j) hb) (blk_below (bk_ l) hb) (below_step (bl2_ HB s u) hb) ?_; clear j l HB hb; intro j l HB))
      go_roundg G
      case measure => have := E.out; omega
      case rel => exact ⟨(wrap64 (m + 1)), (by first | rfl | (simp; done) | (simp [*]; done)), H', ⟨by have := E.out; omega⟩, ⟨(bk_ j)⟩, ⟨(bk_ l)⟩, ⟨bl2_ HB s u⟩⟩
    ·replace c7 := Bool.eq_false_iff.mpr c7
     subst c7
     have D : (impl_ArcsMeet.l0 G (wrap64 (m + 1)) x y z B) = some r := by rw [if_neg (show ¬ (false = true) by decide)] at H; exact H
     clear H
     have H := D
     clear D
     have H' := Aside0.mk H
     clear H
     have a7 := J.out
     have b0 := L.out
     have a4 := cf2_ j
     go_wp2_with (first | ((with_reducible refine gate_callee (f := 110) rfl ?_); refine gl_ 11 Try.func110 (impl_InArc.calls x y m false _ I.out) ?_; rintro e b6 ⟨rfl, hb⟩; refine ⟨_, rfl, sh3_ (blk_below (bk_ j) hb) (blk_below (bk_ l) hb) (below_step (bl2_ HB s u) hb) ?_⟩; clear j l HB hb; intro j l HB))
     go_roundg G
     case measure => have := E.out; omega
     case rel => exact ⟨(wrap64 (m + 1)), (by first | rfl | (simp; done) | (simp [*]; done)), H', ⟨by have := E.out; omega⟩, ⟨(bk_ j)⟩, ⟨(bk_ l)⟩, ⟨bl2_ HB s u⟩⟩
   ·rw [if_neg c5] at H
    have O : decide (m < 360) = false := decide_eq_false c5
    clear c5
    obtain rfl := Option.some.inj H
    go_wp2
    go_ret
    exact ⟨by first | (rw [hRT_.out]; rfl) | exact er_, bl2_ HB s u⟩

/-! ### impl_MayDisturb: function 31 -/
def impl_MayDisturb.l0 : Nat → Int → List S88 → Int → Int → Int → List S72 → List S74 → Int → Int → Int → Int → Int → List S88 → Int → Int → Int → Option (Bool)
 | 0, _, _, _, _, _, _, _, _, _, _, _, _, _, _, _, _ => none
 | k + 1, m, l, y, j, z, s, B, D, E, G, I, J, L, M, u, x => if j < y then (if 0 ≤ j then (if j < (l.length : Int) then (if 0 ≤ m then (if m < (s.length : Int) then (if ((rd_T88 l j).f0) = ((rd_T72 s m).f0) then ((impl_ArcsMeet.f k u x ((rd_T88 l j).f1.f0) ((rd_T88 l j).f1.f1)).bind fun O => (if O = true then (some true) else (impl_MayDisturb.l0 k m l y (wrap64 (j + 1)) z s B D E G I J L M u x))) else (impl_MayDisturb.l0 k m l y (wrap64 (j + 1)) z s B D E G I J L M u x)) else (none)) else (none)) else (none)) else (none)) else (some false)
def impl_MayDisturb.f (k : Nat) (l : Int) (D : List S72) (E : List S74) (m s u x y : Int) (j : List S88) (z B I : Int) : Option (Bool) := (impl_isSatellite.f l D E m s u x y j z B).bind fun J => (if J = true then ((impl_NodeAt.f l D E m s u x y j z B I).bind fun G => (impl_MayDisturb.l0 k B j (j.length : Int) 0 l D E m s u x y j z G.1 G.2)) else (some false))
def impl_MayDisturb.T7 : Bool × List (List Nat × List Nat) := (true, [([], []), ([0], [0]), ([], []), ([2], [2]), ([], []), ([3, 4], [3, 4]), ([5], [5]), ([6], [6]), ([1, 7], [1, 7]), ([8], [8]), ([9], [9]), ([9], [9]), ([11, 9], [9, 11]), ([10, 12, 9, 9], [9, 10, 12]), ([9, 13], [9, 13])])
def impl_MayDisturb.B7 : List Nat := [0, 1, 0, 4, 0, 28, 60, 124, 255, 511, 1023, 1023, 3071, 8191, 16383]
theorem impl_MayDisturb.tab7 : rtab .any (opsOf Try.f31 7) = impl_MayDisturb.T7 := by kernel_rfl
theorem impl_MayDisturb.bits7 : waitsOk impl_MayDisturb.T7.2 impl_MayDisturb.B7 = true := by kernel_rfl
theorem impl_MayDisturb.calls (k : Nat) (I : Int) (d2 : Option Addr) (b1 : Nat) (z : List S72) (b0 : Option Addr) (b2 : Nat) (E : List S74) (J L M O T : Int) (e2 : Option Addr) (b3 : Nat) (l : List S88) (U x a2 : Int) (r : Bool) (w : World) (h4 : Kd.C k72 w d2 z.length z) (h1 : z.length ≤ b1) (h5 : Kd.C k74 w b0 E.length E) (h2 : E.length ≤ b2) (h6 : Kd.C k88 w e2 l.length l) (h3 : l.length ≤ b3) (h : impl_MayDisturb.f k I z E J L M O T l U x a2 = some r) :
  Calls Try.prog 31 #[.agg #[iv_ I, .slice d2 z.length b1, .slice b0 E.length b2, iv_ J, iv_ L, iv_ M, iv_ O, iv_ T, .slice e2 l.length b3, iv_ U], iv_ x, iv_ a2] w fun e w' => e = .returned (.bool r) ∧ Below w.heap.size w w' := by
 have l6 := Try.underlying28
 have l7 := Try.underlying35
 have l8 := Try.underlying88
 have d8 := Aside0.mk h4
 have f9 := Aside0.mk h1
 clear h4 h1
 have g2 := Aside0.mk h5
 have g0 := Aside0.mk h2
 clear h5 h2
 have d9 := Aside0.mk h6
 have g1 := Aside0.mk h3
 clear h6 h3
 have HB := Aside0.mk (Below.refl w.heap.size w)
 have H := h
 clear h
 unfold impl_MayDisturb.f at H
 replace H := bs_ H
 obtain ⟨i2, A4, H⟩ := H
 by_cases c5 : i2 = true
 ·subst c5
  rw [if_pos rfl] at H
  replace H := bs_ H
  obtain ⟨⟨a9, d0⟩, A6, H⟩ := H
  dsimp only at H
  have H' := Aside0.mk H
  clear H
  go_enter Try.func31, Try.ntmps31
  go_wp2_with (first | ((with_reducible refine gd_ 3 ?_); refine bx_ 3 28 #[iv_ I, .slice d2 z.length b1, .slice b0 E.length b2, iv_ J, iv_ L, iv_ M, iv_ O, iv_ T, .slice e2 l.length b3, iv_ U] ?_; intro d4 hg w7 hbox hb; refine sh3_ (below_step (bl_ HB) hb) hbox (ge_ hg (bl_ HB)) ?_; clear HB hb hbox hg; intro HB j D; have j9 := cf10_ j) | ((with_reducible refine gate_callee (f := 53) rfl ?_); refine gl_ 12 Try.func53 (impl_isSatellite.calls I _ _ z _ _ E J L M O T _ _ l U x true _ (ck_ d8 HB) f9.out (ck_ g2 HB) g0.out (ck_ d9 HB) g1.out A4.out) ?_; rintro e w9 ⟨rfl, hb⟩; refine ⟨_, rfl, sh2_ (blk_below (bk_ j) hb) (below_step (bl1_ HB D) hb) ?_⟩; clear j HB hb; intro j HB; have j2 := cf10_ j) | ((with_reducible refine gate_callee (f := 13) rfl ?_); refine gl_ 17 Try.func13 (impl_NodeAt.calls I _ _ z _ _ E J L M O T _ _ l U x a2 a9 d0 _ (ck_ d8 HB) f9.out (ck_ g2 HB) g0.out (ck_ d9 HB) g1.out A6.out) ?_; rintro e l9 ⟨rfl, hb⟩; refine ⟨_, rfl, sh2_ (blk_below (bk_ j) hb) (below_step (bl1_ HB D) hb) ?_⟩; clear j HB hb; intro j HB) | ((with_reducible refine gd_ 7 ?_); refine bx_ 7 35 #[iv_ 0, iv_ 0] ?_; intro e1 hg m0 hbox hb; refine sh6_ (blk_below (bk_ j) hb) (below_step (bl1_ HB D) hb) hbox (ge_ hg (bl1_ HB D)) (nl_ hg (bk_ j)) (ng_ hg (bk_ j)) ?_; clear j HB hb hbox hg; intro j HB s G g3 h8; have k0 := h8.out; have k8 := g3.out; have j3 := cf2_ s; have j4 := cf10_ j))
  go_loopg [21] k (fun kq i4 w' => ∃ (m : Int), i4 = iv_ m ∧ Aside0 (impl_MayDisturb.l0 kq x l (l.length : Int) m I z E J L M O T l U a9 d0 = some r) ∧ Aside0 (kq ≤ k) ∧ Aside0 (w'.heap[d4]? = some (.cells #[iv_ I, (.slice d2 z.length b1), (.slice b0 E.length b2), iv_ J, iv_ L, iv_ M, iv_ O, iv_ T, (.slice e2 l.length b3), iv_ U] 28 (0, 0))) ∧ Aside0 (w'.heap[e1]? = some (.cells #[iv_ a9, iv_ d0] 35 (0, 0))) ∧ Aside0 (Below w.heap.size w w'))
  case atStart => exact ⟨(0), (by first | rfl | (simp; done) | (simp [*]; done)), H', ⟨Nat.le_refl _⟩, ⟨by (with_reducible repeat (first | refine blk_drewN ?_ _ | refine blk_drew ?_ | refine blk_alloc ?_ _)); refine blk_far ?_ g3.out _; (with_reducible repeat (first | refine blk_drewN ?_ _ | refine blk_drew ?_ | refine blk_alloc ?_ _)); refine blk_far ?_ g3.out _; exact bk_ j⟩, ⟨by (with_reducible repeat (first | refine blk_drewN ?_ _ | refine blk_drew ?_ | refine blk_alloc ?_ _)); refine blk_put (cs := #[iv_ a9, iv_ 0]) ?_ 1 _ rfl; (with_reducible repeat (first | refine blk_drewN ?_ _ | refine blk_drew ?_ | refine blk_alloc ?_ _)); refine blk_put (cs := #[iv_ 0, iv_ 0]) ?_ 0 _ rfl; exact bk_ s⟩, ⟨bl2_ HB D G⟩⟩
  case round =>
   clear H'
   obtain ⟨m, rfl, HA, f7, j, s, HB⟩ := hrel
   cases gk with
   | zero => exact absurd HA.out (by simp [impl_MayDisturb.l0])
   | succ k1 =>
    have H := HA.out
    clear HA
    simp only [impl_MayDisturb.l0] at H
    by_cases e0 : m < (l.length : Int)
    ·rw [if_pos e0] at H
     have h9 := decide_eq_true e0
     clear e0
     replace H := ifn_ H
     obtain ⟨g7, H⟩ := H
     have i8 := decide_eq_true g7
     clear g7
     replace H := ifn_ H
     obtain ⟨g8, H⟩ := H
     have i9 := decide_eq_true g8
     clear g8
     replace H := ifn_ H
     obtain ⟨g9, H⟩ := H
     have j0 := decide_eq_true g9
     clear g9
     replace H := ifn_ H
     obtain ⟨h0, H⟩ := H
     have j1 := decide_eq_true h0
     clear h0
     by_cases e6 : ((rd_T88 l m).f0) = ((rd_T72 z x).f0)
     ·rw [if_pos e6] at H
      obtain ⟨i0, i1⟩ := bt_ e6
      clear e6
      replace H := bs_ H
      obtain ⟨i3, g5, H⟩ := H
      by_cases f8 : i3 = true
      ·subst f8
       rw [if_pos rfl] at H
       obtain rfl := Option.some.inj H
       have b8 : 0 ≤ (m : Int) := od_
       have c0 : m < (l.length : Int) := od_
       obtain ⟨d3, e7, d5, d6, d7⟩ := at_T88 d9.out m b8 c0
       cases e7
       replace d5 := hbc_ HB d5
       replace d6 := hbc_ HB d6
       replace d7 := hbc_ HB d7
       replace b8 := eq_true b8
       replace c0 := eq_true c0
       try go_wp2_with (first | ((with_reducible refine gd_ 9 ?_); refine bx_ 9 88 #[iv_ 0, iv_ 0, iv_ 0] ?_; intro u hg f4 hbox hb; refine sh9_ (blk_below (bk_ j) hb) (blk_below (bk_ s) hb) (below_step (bl2_ HB D G) hb) hbox (ge_ hg (bl2_ HB D G)) (nl_ hg (bk_ j)) (ng_ hg (bk_ j)) (nl_ hg (bk_ s)) (ng_ hg (bk_ s)) ?_; clear j s HB hb hbox hg; intro j s HB y d1 X e4 Y e5; have k2 := e4.out; have k9 := X.out; have k3 := e5.out; have l1 := Y.out; have j5 := cf3_ y))
       have b4 : Aside0 ((((f4.setCell ⟨u, 0, none⟩ (iv_ ((rd_T88 l m).f0))).setCell ⟨u, 1, none⟩ (iv_ ((rd_T88 l m).f1.f0))).setCell ⟨u, 2, none⟩ (iv_ ((rd_T88 l m).f1.f1))).heap[d4]? = some (.cells #[iv_ I, .slice d2 z.length b1, .slice b0 E.length b2, iv_ J, iv_ L, iv_ M, iv_ O, iv_ T, .slice (some d3) l.length b3, iv_ U] 28 (0, 0))) := ⟨by (with_reducible repeat (first | refine blk_drewN ?_ _ | refine blk_drew ?_ | refine blk_alloc ?_ _)); refine blk_far ?_ X.out _; (with_reducible repeat (first | refine blk_drewN ?_ _ | refine blk_drew ?_ | refine blk_alloc ?_ _)); refine blk_far ?_ X.out _; (with_reducible repeat (first | refine blk_drewN ?_ _ | refine blk_drew ?_ | refine blk_alloc ?_ _)); refine blk_far ?_ X.out _; exact bk_ j⟩
       have b5 : Aside0 ((((f4.setCell ⟨u, 0, none⟩ (iv_ ((rd_T88 l m).f0))).setCell ⟨u, 1, none⟩ (iv_ ((rd_T88 l m).f1.f0))).setCell ⟨u, 2, none⟩ (iv_ ((rd_T88 l m).f1.f1))).heap[e1]? = some (.cells #[iv_ a9, iv_ d0] 35 (0, 0))) := ⟨by (with_reducible repeat (first | refine blk_drewN ?_ _ | refine blk_drew ?_ | refine blk_alloc ?_ _)); refine blk_far ?_ Y.out _; (with_reducible repeat (first | refine blk_drewN ?_ _ | refine blk_drew ?_ | refine blk_alloc ?_ _)); refine blk_far ?_ Y.out _; (with_reducible repeat (first | refine blk_drewN ?_ _ | refine blk_drew ?_ | refine blk_alloc ?_ _)); refine blk_far ?_ Y.out _; exact bk_ s⟩
       have b6 : Aside0 ((((f4.setCell ⟨u, 0, none⟩ (iv_ ((rd_T88 l m).f0))).setCell ⟨u, 1, none⟩ (iv_ ((rd_T88 l m).f1.f0))).setCell ⟨u, 2, none⟩ (iv_ ((rd_T88 l m).f1.f1))).heap[u]? = some (.cells #[iv_ ((rd_T88 l m).f0), iv_ ((rd_T88 l m).f1.f0), iv_ ((rd_T88 l m).f1.f1)] 88 (0, 0))) := ⟨by (with_reducible repeat (first | refine blk_drewN ?_ _ | refine blk_drew ?_ | refine blk_alloc ?_ _)); refine blk_put (cs := #[iv_ ((rd_T88 l m).f0), iv_ ((rd_T88 l m).f1.f0), iv_ 0]) ?_ 2 _ rfl; (with_reducible repeat (first | refine blk_drewN ?_ _ | refine blk_drew ?_ | refine blk_alloc ?_ _)); refine blk_put (cs := #[iv_ ((rd_T88 l m).f0), iv_ 0, iv_ 0]) ?_ 1 _ rfl; (with_reducible repeat (first | refine blk_drewN ?_ _ | refine blk_drew ?_ | refine blk_alloc ?_ _)); refine blk_put (cs := #[iv_ 0, iv_ 0, iv_ 0]) ?_ 0 _ rfl; exact bk_ y⟩
       have b7 : Aside0 (Below w.heap.size w (((f4.setCell ⟨u, 0, none⟩ (iv_ ((rd_T88 l m).f0))).setCell ⟨u, 1, none⟩ (iv_ ((rd_T88 l m).f1.f0))).setCell ⟨u, 2, none⟩ (iv_ ((rd_T88 l m).f1.f1)))) := ⟨bl3_ HB D G d1⟩
       (try clear j)
       (try clear s)
       (try clear y)
       (try clear HB)
       generalize (((f4.setCell ⟨u, 0, none⟩ (iv_ ((rd_T88 l m).f0))).setCell ⟨u, 1, none⟩ (iv_ ((rd_T88 l m).f1.f0))).setCell ⟨u, 2, none⟩ (iv_ ((rd_T88 l m).f1.f1))) = i5 at b4 b5 b6 b7 ⊢
       have j := b4
       have s := b5
       have y := b6
       have HB := b7
       clear b4 b5 b6 b7
       refine sh4_ (blk_drew j.out) (blk_drew s.out) (blk_drew y.out) (below_drew1 HB.out) ?_
       clear j s y HB
       intro j s y HB
       have b9 : 0 ≤ (x : Int) := od_
       have c1 : x < (z.length : Int) := od_
       obtain ⟨B, e8, Z, a0, a3, a4⟩ := at_T72 d8.out x b9 c1
       have a8 := a4
       have a7 := a3
       have a6 := a0
       have a5 := Z
       cases e8
       replace Z := hbc_ HB Z
       replace a0 := hbc_ HB a0
       replace a3 := hbc_ HB a3
       replace a4 := hbc_ HB a4
       replace b9 := eq_true b9
       replace c1 := eq_true c1
       refine start_ (n := 15) (S := fun w' => Ck3 w' u (iv_ ((rd_T88 l m).f0)) (iv_ ((rd_T88 l m).f1.f0)) (iv_ ((rd_T88 l m).f1.f1)) (Ck10 w' d4 (iv_ I) (.slice (some B) z.length b1) (.slice b0 E.length b2) (iv_ J) (iv_ L) (iv_ M) (iv_ O) (iv_ T) (.slice (some d3) l.length b3) (iv_ U) (Ck2 w' e1 (iv_ a9) (iv_ d0) (w'.cell? (B.add ((x).toNat * 4)) = some (iv_ ((rd_T72 z x).f0)) ∧ w'.cell? ⟨(B.add ((x).toNat * 4)).block, (B.add ((x).toNat * 4)).off + 1, none⟩ = some (iv_ ((rd_T72 z x).f1)) ∧ w'.cell? ⟨(B.add ((x).toNat * 4)).block, (B.add ((x).toNat * 4)).off + 2, none⟩ = some (iv_ ((rd_T72 z x).f2)) ∧ w'.cell? ⟨(B.add ((x).toNat * 4)).block, (B.add ((x).toNat * 4)).off + 3, none⟩ = some (iv_ ((rd_T72 z x).f3)))))) (ds := []) (bo_ 15 0) (by kernel_rfl) rfl rfl ⟨(bc_ y 0 rfl), (bc_ y 1 rfl), (bc_ y 2 rfl), (bc_ j 0 rfl), (bc_ j 1 rfl), (bc_ j 2 rfl), (bc_ j 3 rfl), (bc_ j 4 rfl), (bc_ j 5 rfl), (bc_ j 6 rfl), (bc_ j 7 rfl), (bc_ j 8 rfl), (bc_ j 9 rfl), (bc_ s 0 rfl), (bc_ s 1 rfl), ((HB.out.cell (World.block_lt_of_cell? w _ a5)).trans a5), ((HB.out.cell (World.block_lt_of_cell? w _ a6)).trans a6), ((HB.out.cell (World.block_lt_of_cell? w _ a7)).trans a7), ((HB.out.cell (World.block_lt_of_cell? w _ a8)).trans a8)⟩ (fun hHeld => ?_); refine with_tabW impl_MayDisturb.tab7 impl_MayDisturb.bits7 (fun HT_ HW_ => ?_)
       generalize i5.drew = m1 at j s y HB Z a0 a3 a4 hHeld ⊢
       refine pur_ 0 (bo_ 15 1) (some 25) HT_ ?_
       refine pur_ 2 (bo_ 15 5) (some 27) HT_ ?_
       refine pur_ 4 (bo_ 15 21) (some 29) HT_ ?_
       refine tak_ 1 (bo_ 15 23) (some 26) HT_ HW_ hHeld ?_
       refine tak_ 3 (bo_ 15 31) (some 28) HT_ HW_ hHeld ?_
       refine pur_ 5 (bo_ 15 63) (some 30) HT_ ?_
       refine pur_ 6 (bo_ 15 127) (some 31) HT_ ?_
       refine tak_ 7 (bo_ 15 255) (some 32) HT_ HW_ hHeld ?_
       refine pur_ 8 (bo_ 15 511) (some 33) HT_ ?_
       refine pur_ 9 (bo_ 15 1023) (some 34) HT_ ?_
       refine pur_ 11 (bo_ 15 3071) (some 36) HT_ ?_
       refine tak_ 10 (bo_ 15 4095) (some 35) HT_ HW_ hHeld ?_
       refine tak_ 12 (bo_ 15 8191) (some 37) HT_ HW_ hHeld ?_
       refine onc_ 13 (bo_ 15 16383) (some 38) HT_ Try.func75 (impl_ArcsMeet.calls k1 a9 d0 ((rd_T88 l m).f1.f0) ((rd_T88 l m).f1.f1) true _ g5.out) ?_
       rintro e m2 ⟨rfl, hb⟩
       refine sh4_ (blk_below (bk_ j) hb) (blk_below (bk_ s) hb) (blk_below (bk_ y) hb) (below_step (bl3_ HB D G d1) hb) ?_
       clear j s y HB hb
       intro j s y HB
       refine ⟨_, _, rfl, ⟨(bc_ y 0 rfl), (bc_ y 1 rfl), (bc_ y 2 rfl), (bc_ j 0 rfl), (bc_ j 1 rfl), (bc_ j 2 rfl), (bc_ j 3 rfl), (bc_ j 4 rfl), (bc_ j 5 rfl), (bc_ j 6 rfl), (bc_ j 7 rfl), (bc_ j 8 rfl), (bc_ j 9 rfl), (bc_ s 0 rfl), (bc_ s 1 rfl), ((HB.out.cell (World.block_lt_of_cell? w _ a5)).trans a5), ((HB.out.cell (World.block_lt_of_cell? w _ a6)).trans a6), ((HB.out.cell (World.block_lt_of_cell? w _ a7)).trans a7), ((HB.out.cell (World.block_lt_of_cell? w _ a8)).trans a8)⟩, pt_, fun hHeld => ?_⟩
       refine pur_ 14 (bo_ 15 32767) (some 39) HT_ ?_
       refine done_ (done_of HT_.out (by kernel_rfl)) ?_
       try go_wp2
       go_ret
       exact ⟨by first | (rw [hRT_.out]; rfl) | exact er_, bl3_ HB D G d1⟩
      ·replace f8 := Bool.eq_false_iff.mpr f8
       subst f8
       have H1 : (impl_MayDisturb.l0 k1 x l (l.length : Int) (wrap64 (m + 1)) I z E J L M O T l U a9 d0) = some r := by rw [if_neg (show ¬ (false = true) by decide)] at H; exact H
       clear H
       have H := H1
       clear H1
       have H' := Aside0.mk H
       clear H
       have b8 : 0 ≤ (m : Int) := od_
       have c0 : m < (l.length : Int) := od_
       obtain ⟨d3, e7, d5, d6, d7⟩ := at_T88 d9.out m b8 c0
       cases e7
       replace d5 := hbc_ HB d5
       replace d6 := hbc_ HB d6
       replace d7 := hbc_ HB d7
       replace b8 := eq_true b8
       replace c0 := eq_true c0
       try go_wp2_with (first | ((with_reducible refine gd_ 9 ?_); refine bx_ 9 88 #[iv_ 0, iv_ 0, iv_ 0] ?_; intro u hg f5 hbox hb; refine sh9_ (blk_below (bk_ j) hb) (blk_below (bk_ s) hb) (below_step (bl2_ HB D G) hb) hbox (ge_ hg (bl2_ HB D G)) (nl_ hg (bk_ j)) (ng_ hg (bk_ j)) (nl_ hg (bk_ s)) (ng_ hg (bk_ s)) ?_; clear j s HB hb hbox hg; intro j s HB y d1 X e4 Y e5; have k4 := e4.out; have l2 := X.out; have k5 := e5.out; have l3 := Y.out; have j6 := cf3_ y))
       have b4 : Aside0 ((((f5.setCell ⟨u, 0, none⟩ (iv_ ((rd_T88 l m).f0))).setCell ⟨u, 1, none⟩ (iv_ ((rd_T88 l m).f1.f0))).setCell ⟨u, 2, none⟩ (iv_ ((rd_T88 l m).f1.f1))).heap[d4]? = some (.cells #[iv_ I, .slice d2 z.length b1, .slice b0 E.length b2, iv_ J, iv_ L, iv_ M, iv_ O, iv_ T, .slice (some d3) l.length b3, iv_ U] 28 (0, 0))) := ⟨by (with_reducible repeat (first | refine blk_drewN ?_ _ | refine blk_drew ?_ | refine blk_alloc ?_ _)); refine blk_far ?_ X.out _; (with_reducible repeat (first | refine blk_drewN ?_ _ | refine blk_drew ?_ | refine blk_alloc ?_ _)); refine blk_far ?_ X.out _; (with_reducible repeat (first | refine blk_drewN ?_ _ | refine blk_drew ?_ | refine blk_alloc ?_ _)); refine blk_far ?_ X.out _; exact bk_ j⟩
       have b5 : Aside0 ((((f5.setCell ⟨u, 0, none⟩ (iv_ ((rd_T88 l m).f0))).setCell ⟨u, 1, none⟩ (iv_ ((rd_T88 l m).f1.f0))).setCell ⟨u, 2, none⟩ (iv_ ((rd_T88 l m).f1.f1))).heap[e1]? = some (.cells #[iv_ a9, iv_ d0] 35 (0, 0))) := ⟨by (with_reducible repeat (first | refine blk_drewN ?_ _ | refine blk_drew ?_ | refine blk_alloc ?_ _)); refine blk_far ?_ Y.out _; (with_reducible repeat (first | refine blk_drewN ?_ _ | refine blk_drew ?_ | refine blk_alloc ?_ _)); refine blk_far ?_ Y.out _; (with_reducible repeat (first | refine blk_drewN ?_ _ | refine blk_drew ?_ | refine blk_alloc ?_ _)); refine blk_far ?_ Y.out _; exact bk_ s⟩
       have b6 : Aside0 ((((f5.setCell ⟨u, 0, none⟩ (iv_ ((rd_T88 l m).f0))).setCell ⟨u, 1, none⟩ (iv_ ((rd_T88 l m).f1.f0))).setCell ⟨u, 2, none⟩ (iv_ ((rd_T88 l m).f1.f1))).heap[u]? = some (.cells #[iv_ ((rd_T88 l m).f0), iv_ ((rd_T88 l m).f1.f0), iv_ ((rd_T88 l m).f1.f1)] 88 (0, 0))) := ⟨by (with_reducible repeat (first | refine blk_drewN ?_ _ | refine blk_drew ?_ | refine blk_alloc ?_ _)); refine blk_put (cs := #[iv_ ((rd_T88 l m).f0), iv_ ((rd_T88 l m).f1.f0), iv_ 0]) ?_ 2 _ rfl; (with_reducible repeat (first | refine blk_drewN ?_ _ | refine blk_drew ?_ | refine blk_alloc ?_ _)); refine blk_put (cs := #[iv_ ((rd_T88 l m).f0), iv_ 0, iv_ 0]) ?_ 1 _ rfl; (with_reducible repeat (first | refine blk_drewN ?_ _ | refine blk_drew ?_ | refine blk_alloc ?_ _)); refine blk_put (cs := #[iv_ 0, iv_ 0, iv_ 0]) ?_ 0 _ rfl; exact bk_ y⟩
       have b7 : Aside0 (Below w.heap.size w (((f5.setCell ⟨u, 0, none⟩ (iv_ ((rd_T88 l m).f0))).setCell ⟨u, 1, none⟩ (iv_ ((rd_T88 l m).f1.f0))).setCell ⟨u, 2, none⟩ (iv_ ((rd_T88 l m).f1.f1)))) := ⟨bl3_ HB D G d1⟩
       (try clear j)
       (try clear s)
       (try clear y)
       (try clear HB)
       generalize (((f5.setCell ⟨u, 0, none⟩ (iv_ ((rd_T88 l m).f0))).setCell ⟨u, 1, none⟩ (iv_ ((rd_T88 l m).f1.f0))).setCell ⟨u, 2, none⟩ (iv_ ((rd_T88 l m).f1.f1))) = i6 at b4 b5 b6 b7 ⊢
       have j := b4
       have s := b5
       have y := b6
       have HB := b7
       clear b4 b5 b6 b7
       refine sh4_ (blk_drew j.out) (blk_drew s.out) (blk_drew y.out) (below_drew1 HB.out) ?_
       clear j s y HB
       intro j s y HB
       have b9 : 0 ≤ (x : Int) := od_
       have c1 : x < (z.length : Int) := od_
       obtain ⟨B, e8, Z, a0, a3, a4⟩ := at_T72 d8.out x b9 c1
       have a8 := a4
       have a7 := a3
       have a6 := a0
       have a5 := Z
       cases e8
       replace Z := hbc_ HB Z
       replace a0 := hbc_ HB a0
       replace a3 := hbc_ HB a3
       replace a4 := hbc_ HB a4
       replace b9 := eq_true b9
       replace c1 := eq_true c1
       refine start_ (n := 15) (S := fun w' => Ck3 w' u (iv_ ((rd_T88 l m).f0)) (iv_ ((rd_T88 l m).f1.f0)) (iv_ ((rd_T88 l m).f1.f1)) (Ck10 w' d4 (iv_ I) (.slice (some B) z.length b1) (.slice b0 E.length b2) (iv_ J) (iv_ L) (iv_ M) (iv_ O) (iv_ T) (.slice (some d3) l.length b3) (iv_ U) (Ck2 w' e1 (iv_ a9) (iv_ d0) (w'.cell? (B.add ((x).toNat * 4)) = some (iv_ ((rd_T72 z x).f0)) ∧ w'.cell? ⟨(B.add ((x).toNat * 4)).block, (B.add ((x).toNat * 4)).off + 1, none⟩ = some (iv_ ((rd_T72 z x).f1)) ∧ w'.cell? ⟨(B.add ((x).toNat * 4)).block, (B.add ((x).toNat * 4)).off + 2, none⟩ = some (iv_ ((rd_T72 z x).f2)) ∧ w'.cell? ⟨(B.add ((x).toNat * 4)).block, (B.add ((x).toNat * 4)).off + 3, none⟩ = some (iv_ ((rd_T72 z x).f3)))))) (ds := []) (bo_ 15 0) (by kernel_rfl) rfl rfl ⟨(bc_ y 0 rfl), (bc_ y 1 rfl), (bc_ y 2 rfl), (bc_ j 0 rfl), (bc_ j 1 rfl), (bc_ j 2 rfl), (bc_ j 3 rfl), (bc_ j 4 rfl), (bc_ j 5 rfl), (bc_ j 6 rfl), (bc_ j 7 rfl), (bc_ j 8 rfl), (bc_ j 9 rfl), (bc_ s 0 rfl), (bc_ s 1 rfl), ((HB.out.cell (World.block_lt_of_cell? w _ a5)).trans a5), ((HB.out.cell (World.block_lt_of_cell? w _ a6)).trans a6), ((HB.out.cell (World.block_lt_of_cell? w _ a7)).trans a7), ((HB.out.cell (World.block_lt_of_cell? w _ a8)).trans a8)⟩ (fun hHeld => ?_); refine with_tabW impl_MayDisturb.tab7 impl_MayDisturb.bits7 (fun HT_ HW_ => ?_)
       generalize i6.drew = m3 at j s y HB Z a0 a3 a4 hHeld ⊢
       refine pur_ 0 (bo_ 15 1) (some 25) HT_ ?_
       refine pur_ 2 (bo_ 15 5) (some 27) HT_ ?_
       refine pur_ 4 (bo_ 15 21) (some 29) HT_ ?_
       refine tak_ 1 (bo_ 15 23) (some 26) HT_ HW_ hHeld ?_
       refine tak_ 3 (bo_ 15 31) (some 28) HT_ HW_ hHeld ?_
       refine pur_ 5 (bo_ 15 63) (some 30) HT_ ?_
       refine pur_ 6 (bo_ 15 127) (some 31) HT_ ?_
       refine tak_ 7 (bo_ 15 255) (some 32) HT_ HW_ hHeld ?_
       refine pur_ 8 (bo_ 15 511) (some 33) HT_ ?_
       refine pur_ 9 (bo_ 15 1023) (some 34) HT_ ?_
       refine pur_ 11 (bo_ 15 3071) (some 36) HT_ ?_
       refine tak_ 10 (bo_ 15 4095) (some 35) HT_ HW_ hHeld ?_
       refine tak_ 12 (bo_ 15 8191) (some 37) HT_ HW_ hHeld ?_
       refine onc_ 13 (bo_ 15 16383) (some 38) HT_ Try.func75 (impl_ArcsMeet.calls k1 a9 d0 ((rd_T88 l m).f1.f0) ((rd_T88 l m).f1.f1) false _ g5.out) ?_
       rintro e m4 ⟨rfl, hb⟩
       refine sh4_ (blk_below (bk_ j) hb) (blk_below (bk_ s) hb) (blk_below (bk_ y) hb) (below_step (bl3_ HB D G d1) hb) ?_
       clear j s y HB hb
       intro j s y HB
       refine ⟨_, _, rfl, ⟨(bc_ y 0 rfl), (bc_ y 1 rfl), (bc_ y 2 rfl), (bc_ j 0 rfl), (bc_ j 1 rfl), (bc_ j 2 rfl), (bc_ j 3 rfl), (bc_ j 4 rfl), (bc_ j 5 rfl), (bc_ j 6 rfl), (bc_ j 7 rfl), (bc_ j 8 rfl), (bc_ j 9 rfl), (bc_ s 0 rfl), (bc_ s 1 rfl), ((HB.out.cell (World.block_lt_of_cell? w _ a5)).trans a5), ((HB.out.cell (World.block_lt_of_cell? w _ a6)).trans a6), ((HB.out.cell (World.block_lt_of_cell? w _ a7)).trans a7), ((HB.out.cell (World.block_lt_of_cell? w _ a8)).trans a8)⟩, pt_, fun hHeld => ?_⟩
       refine pur_ 14 (bo_ 15 32767) (some 39) HT_ ?_
       refine done_ (done_of HT_.out (by kernel_rfl)) ?_
       try go_wp2
       go_roundg k1
       case measure => have := f7.out; omega
       case rel => exact ⟨(wrap64 (m + 1)), (by first | rfl | (simp; done) | (simp [*]; done)), H', ⟨by have := f7.out; omega⟩, ⟨(bk_ j)⟩, ⟨(bk_ s)⟩, ⟨bl3_ HB D G d1⟩⟩
     ·rw [if_neg e6] at H
      obtain ⟨i0, i1⟩ := bn_ e6
      have H' := Aside0.mk H
      clear H
      have b8 : 0 ≤ (m : Int) := od_
      have c0 : m < (l.length : Int) := od_
      obtain ⟨d3, e7, d5, d6, d7⟩ := at_T88 d9.out m b8 c0
      cases e7
      replace d5 := hbc_ HB d5
      replace d6 := hbc_ HB d6
      replace d7 := hbc_ HB d7
      replace b8 := eq_true b8
      replace c0 := eq_true c0
      try go_wp2_with (first | ((with_reducible refine gd_ 9 ?_); refine bx_ 9 88 #[iv_ 0, iv_ 0, iv_ 0] ?_; intro u hg f6 hbox hb; refine sh9_ (blk_below (bk_ j) hb) (blk_below (bk_ s) hb) (below_step (bl2_ HB D G) hb) hbox (ge_ hg (bl2_ HB D G)) (nl_ hg (bk_ j)) (ng_ hg (bk_ j)) (nl_ hg (bk_ s)) (ng_ hg (bk_ s)) ?_; clear j s HB hb hbox hg; intro j s HB y d1 X e4 Y e5; have k6 := e4.out; have l4 := X.out; have k7 := e5.out; have l5 := Y.out; have j7 := cf3_ y))
      have b4 : Aside0 ((((f6.setCell ⟨u, 0, none⟩ (iv_ ((rd_T88 l m).f0))).setCell ⟨u, 1, none⟩ (iv_ ((rd_T88 l m).f1.f0))).setCell ⟨u, 2, none⟩ (iv_ ((rd_T88 l m).f1.f1))).heap[d4]? = some (.cells #[iv_ I, .slice d2 z.length b1, .slice b0 E.length b2, iv_ J, iv_ L, iv_ M, iv_ O, iv_ T, .slice (some d3) l.length b3, iv_ U] 28 (0, 0))) := ⟨by (with_reducible repeat (first | refine blk_drewN ?_ _ | refine blk_drew ?_ | refine blk_alloc ?_ _)); refine blk_far ?_ X.out _; (with_reducible repeat (first | refine blk_drewN ?_ _ | refine blk_drew ?_ | refine blk_alloc ?_ _)); refine blk_far ?_ X.out _; (with_reducible repeat (first | refine blk_drewN ?_ _ | refine blk_drew ?_ | refine blk_alloc ?_ _)); refine blk_far ?_ X.out _; exact bk_ j⟩
      have b5 : Aside0 ((((f6.setCell ⟨u, 0, none⟩ (iv_ ((rd_T88 l m).f0))).setCell ⟨u, 1, none⟩ (iv_ ((rd_T88 l m).f1.f0))).setCell ⟨u, 2, none⟩ (iv_ ((rd_T88 l m).f1.f1))).heap[e1]? = some (.cells #[iv_ a9, iv_ d0] 35 (0, 0))) := ⟨by (with_reducible repeat (first | refine blk_drewN ?_ _ | refine blk_drew ?_ | refine blk_alloc ?_ _)); refine blk_far ?_ Y.out _; (with_reducible repeat (first | refine blk_drewN ?_ _ | refine blk_drew ?_ | refine blk_alloc ?_ _)); refine blk_far ?_ Y.out _; (with_reducible repeat (first | refine blk_drewN ?_ _ | refine blk_drew ?_ | refine blk_alloc ?_ _)); refine blk_far ?_ Y.out _; exact bk_ s⟩
      have b6 : Aside0 ((((f6.setCell ⟨u, 0, none⟩ (iv_ ((rd_T88 l m).f0))).setCell ⟨u, 1, none⟩ (iv_ ((rd_T88 l m).f1.f0))).setCell ⟨u, 2, none⟩ (iv_ ((rd_T88 l m).f1.f1))).heap[u]? = some (.cells #[iv_ ((rd_T88 l m).f0), iv_ ((rd_T88 l m).f1.f0), iv_ ((rd_T88 l m).f1.f1)] 88 (0, 0))) := ⟨by (with_reducible repeat (first | refine blk_drewN ?_ _ | refine blk_drew ?_ | refine blk_alloc ?_ _)); refine blk_put (cs := #[iv_ ((rd_T88 l m).f0), iv_ ((rd_T88 l m).f1.f0), iv_ 0]) ?_ 2 _ rfl; (with_reducible repeat (first | refine blk_drewN ?_ _ | refine blk_drew ?_ | refine blk_alloc ?_ _)); refine blk_put (cs := #[iv_ ((rd_T88 l m).f0), iv_ 0, iv_ 0]) ?_ 1 _ rfl; (with_reducible repeat (first | refine blk_drewN ?_ _ | refine blk_drew ?_ | refine blk_alloc ?_ _)); refine blk_put (cs := #[iv_ 0, iv_ 0, iv_ 0]) ?_ 0 _ rfl; exact bk_ y⟩
      have b7 : Aside0 (Below w.heap.size w (((f6.setCell ⟨u, 0, none⟩ (iv_ ((rd_T88 l m).f0))).setCell ⟨u, 1, none⟩ (iv_ ((rd_T88 l m).f1.f0))).setCell ⟨u, 2, none⟩ (iv_ ((rd_T88 l m).f1.f1)))) := ⟨bl3_ HB D G d1⟩
      (try clear j)
      (try clear s)
      (try clear y)
      (try clear HB)
      generalize (((f6.setCell ⟨u, 0, none⟩ (iv_ ((rd_T88 l m).f0))).setCell ⟨u, 1, none⟩ (iv_ ((rd_T88 l m).f1.f0))).setCell ⟨u, 2, none⟩ (iv_ ((rd_T88 l m).f1.f1))) = i7 at b4 b5 b6 b7 ⊢
      have j := b4
      have s := b5
      have y := b6
      have HB := b7
      clear b4 b5 b6 b7
      refine sh4_ (blk_drew j.out) (blk_drew s.out) (blk_drew y.out) (below_drew1 HB.out) ?_
      clear j s y HB
      intro j s y HB
      have b9 : 0 ≤ (x : Int) := od_
      have c1 : x < (z.length : Int) := od_
      obtain ⟨B, e8, Z, a0, a3, a4⟩ := at_T72 d8.out x b9 c1
      have a8 := a4
      have a7 := a3
      have a6 := a0
      have a5 := Z
      cases e8
      replace Z := hbc_ HB Z
      replace a0 := hbc_ HB a0
      replace a3 := hbc_ HB a3
      replace a4 := hbc_ HB a4
      replace b9 := eq_true b9
      replace c1 := eq_true c1
      refine start_ (n := 15) (S := fun w' => Ck3 w' u (iv_ ((rd_T88 l m).f0)) (iv_ ((rd_T88 l m).f1.f0)) (iv_ ((rd_T88 l m).f1.f1)) (Ck10 w' d4 (iv_ I) (.slice (some B) z.length b1) (.slice b0 E.length b2) (iv_ J) (iv_ L) (iv_ M) (iv_ O) (iv_ T) (.slice (some d3) l.length b3) (iv_ U) (w'.cell? (B.add ((x).toNat * 4)) = some (iv_ ((rd_T72 z x).f0)) ∧ w'.cell? ⟨(B.add ((x).toNat * 4)).block, (B.add ((x).toNat * 4)).off + 1, none⟩ = some (iv_ ((rd_T72 z x).f1)) ∧ w'.cell? ⟨(B.add ((x).toNat * 4)).block, (B.add ((x).toNat * 4)).off + 2, none⟩ = some (iv_ ((rd_T72 z x).f2)) ∧ w'.cell? ⟨(B.add ((x).toNat * 4)).block, (B.add ((x).toNat * 4)).off + 3, none⟩ = some (iv_ ((rd_T72 z x).f3))))) (ds := []) (bo_ 15 0) (by kernel_rfl) rfl rfl ⟨(bc_ y 0 rfl), (bc_ y 1 rfl), (bc_ y 2 rfl), (bc_ j 0 rfl), (bc_ j 1 rfl), (bc_ j 2 rfl), (bc_ j 3 rfl), (bc_ j 4 rfl), (bc_ j 5 rfl), (bc_ j 6 rfl), (bc_ j 7 rfl), (bc_ j 8 rfl), (bc_ j 9 rfl), ((HB.out.cell (World.block_lt_of_cell? w _ a5)).trans a5), ((HB.out.cell (World.block_lt_of_cell? w _ a6)).trans a6), ((HB.out.cell (World.block_lt_of_cell? w _ a7)).trans a7), ((HB.out.cell (World.block_lt_of_cell? w _ a8)).trans a8)⟩ (fun hHeld => ?_); refine with_tabW impl_MayDisturb.tab7 impl_MayDisturb.bits7 (fun HT_ HW_ => ?_)
      generalize i7.drew = m5 at j s y HB Z a0 a3 a4 hHeld ⊢
      refine pur_ 0 (bo_ 15 1) (some 25) HT_ ?_
      refine pur_ 2 (bo_ 15 5) (some 27) HT_ ?_
      refine pur_ 4 (bo_ 15 21) (some 29) HT_ ?_
      refine tak_ 1 (bo_ 15 23) (some 26) HT_ HW_ hHeld ?_
      refine tak_ 3 (bo_ 15 31) (some 28) HT_ HW_ hHeld ?_
      refine pur_ 5 (bo_ 15 63) (some 30) HT_ ?_
      refine pur_ 6 (bo_ 15 127) (some 31) HT_ ?_
      refine tak_ 7 (bo_ 15 255) (some 32) HT_ HW_ hHeld ?_
      refine pur_ 8 (bo_ 15 511) (some 33) HT_ ?_
      refine pur_ 9 (bo_ 15 1023) (some 34) HT_ ?_
      refine pure_ (i := 10) (N := some 35) (v := undef) (a' := ?_) (bo_ 15 2047) rfl rfl (any_of HT_.out (by kernel_rfl)) (fun _ _ _ h => h) (Or.inr ⟨by rfl, rfl⟩) ?_ ?_
      rotate_left
      ·simp only [Act.put, List.setIfInBounds_toArray, List.set_cons_zero, List.set_cons_succ, i64_w, i32_w]
       rfl
      refine pure_ (i := 11) (N := some 36) (v := undef) (a' := ?_) (bo_ 15 4095) rfl rfl (any_of HT_.out (by kernel_rfl)) (fun _ _ _ h => h) (Or.inr ⟨by rfl, rfl⟩) ?_ ?_
      rotate_left
      ·simp only [Act.put, List.setIfInBounds_toArray, List.set_cons_zero, List.set_cons_succ, i64_w, i32_w]
       rfl
      refine pure_ (i := 12) (N := some 37) (v := undef) (a' := ?_) (bo_ 15 8191) rfl rfl (any_of HT_.out (by kernel_rfl)) (fun _ _ _ h => h) (Or.inr ⟨by rfl, rfl⟩) ?_ ?_
      rotate_left
      ·simp only [Act.put, List.setIfInBounds_toArray, List.set_cons_zero, List.set_cons_succ, i64_w, i32_w]
       rfl
      refine pure_ (i := 13) (N := some 38) (v := undef) (a' := ?_) (bo_ 15 16383) rfl rfl (any_of HT_.out (by kernel_rfl)) (fun _ _ _ h => h) (Or.inr ⟨by rfl, rfl⟩) ?_ ?_
      rotate_left
      ·simp only [Act.put, List.setIfInBounds_toArray, List.set_cons_zero, List.set_cons_succ, i64_w, i32_w]
       rfl
      refine pur_ 14 (bo_ 15 32767) (some 39) HT_ ?_
      refine done_ (done_of HT_.out (by kernel_rfl)) ?_
      try go_wp2
      go_roundg k1
      case measure => have := f7.out; omega
      case rel => exact ⟨(wrap64 (m + 1)), (by first | rfl | (simp; done) | (simp [*]; done)), H', ⟨by have := f7.out; omega⟩, ⟨(bk_ j)⟩, ⟨(bk_ s)⟩, ⟨bl3_ HB D G d1⟩⟩
    ·rw [if_neg e0] at H
     have h9 : decide (m < (l.length : Int)) = false := decide_eq_false e0
     clear e0
     obtain rfl := Option.some.inj H
     go_wp2
     go_ret
     exact ⟨by first | (rw [hRT_.out]; rfl) | exact er_, bl2_ HB D G⟩
 ·replace c5 := Bool.eq_false_iff.mpr c5
  subst c5
  have H1 : (some false) = some r := by rw [if_neg (show ¬ (false = true) by decide)] at H; exact H
  clear H
  have H := H1
  clear H1
  obtain rfl := Option.some.inj H
  go_enter Try.func31, Try.ntmps31
  go_wp2_with (first | ((with_reducible refine gd_ 3 ?_); refine bx_ 3 28 #[iv_ I, .slice d2 z.length b1, .slice b0 E.length b2, iv_ J, iv_ L, iv_ M, iv_ O, iv_ T, .slice e2 l.length b3, iv_ U] ?_; intro d4 hg m6 hbox hb; refine sh3_ (below_step (bl_ HB) hb) hbox (ge_ hg (bl_ HB)) ?_; clear HB hb hbox hg; intro HB j D; have j8 := cf10_ j) | ((with_reducible refine gate_callee (f := 53) rfl ?_); refine gl_ 12 Try.func53 (impl_isSatellite.calls I _ _ z _ _ E J L M O T _ _ l U x false _ (ck_ d8 HB) f9.out (ck_ g2 HB) g0.out (ck_ d9 HB) g1.out A4.out) ?_; rintro e m7 ⟨rfl, hb⟩; refine ⟨_, rfl, sh2_ (blk_below (bk_ j) hb) (below_step (bl1_ HB D) hb) ?_⟩; clear j HB hb; intro j HB))
  go_ret
  exact ⟨by first | (rw [hRT_.out]; rfl) | exact er_, bl1_ HB D⟩

/-- A state of type 102 at block g of W; what its slices lead to came in by w0. -/
def IsS102 (m W : World) (g : Nat) (j : List Int) (u x : Int) : Prop := ∃ l s, W.heap[g]? = some (.cells #[.slice l j.length s, iv_ u, iv_ x] 102 (0, 0)) ∧ m.heap.size ≤ g ∧ Kd.C (Kd.int .u8) m l j.length j
theorem IsS102.grown {u W : World} {g : Nat} {l : List Int} {m : Int} {s : Int} {j : World} {row : Option Nat} (h : IsS102 u W g l m s) (hw : W.grownBy j row) (hne : some g ≠ row) : IsS102 u j g l m s := by
 obtain ⟨x, y, hb, hg, z⟩ := h
 exact ⟨x, y, blk_grown hb hw hne, hg, z⟩
theorem IsS102.below {u W : World} {g : Nat} {l : List Int} {m : Int} {s : Int} {j : World} (h : IsS102 u W g l m s) (hw : Below W.heap.size W j) : IsS102 u j g l m s := h.grown (grown_of_below hw none) (by simp)
theorem IsS102.alloc {s W : World} {g : Nat} {j : List Int} {l : Int} {m : Int} (h : IsS102 s W g j l m) (o : Obj) : IsS102 s (W.alloc o) g j l m := h.below (below_alloc (Below.refl _ _) o)
theorem IsS102.drewN {u W : World} {g : Nat} {j : List Int} {l : Int} {s : Int} (h : IsS102 u W g j l s) (m : Nat) : IsS102 u (W.drewN m) g j l s := h
theorem IsS102.drew {s W : World} {g : Nat} {j : List Int} {l : Int} {m : Int} (h : IsS102 s W g j l m) : IsS102 s W.drew g j l m := h
theorem IsS102.apart {s W : World} {g : Nat} {j : List Int} {l : Int} {m : Int} {α : Type} {d : Kd α} {e : Nat} {base : Nat} {ok : Nat → Prop} {v : Value} {xs : List α} (h : IsS102 s W g j l m) (ho : d.R e W base ok v xs) (ht : ∀ q, q ∈ e :: d.E → q ≠ 102) : d.R e W base (fun k => ok k ∧ k ≠ g) v xs := by
 obtain ⟨u, x, hb, hg, y⟩ := h
 exact Kd.R_types ho hb ht
theorem IsS102.own_ne {s W : World} {g : Nat} {j : List Int} {l : Int} {m : Int} {α : Type} {d : Kd α} {e : Nat} {base : Nat} {ok : Nat → Prop} {v : Value} {xs : List α} (h : IsS102 s W g j l m) (ho : d.R e W base ok v xs) (ht : e ≠ 102) : some g ≠ v.ownBlock := by
 obtain ⟨u, x, hb, hg, y⟩ := h
 exact Kd.R_ne ho hb ht
theorem IsS102.lt {s W : World} {g : Nat} {j : List Int} {l : Int} {m : Int} (h : IsS102 s W g j l m) : g < W.heap.size := by
 obtain ⟨u, x, hb, hg, y⟩ := h
 exact blk_lt hb
theorem IsS102.ge {j W : World} {g : Nat} {l : List Int} {m : Int} {s : Int} (h : IsS102 j W g l m s) : j.heap.size ≤ g := by
 obtain ⟨u, x, hb, hg, y⟩ := h
 exact hg
theorem IsS102.ne_blk {u W : World} {g : Nat} {l : List Int} {m : Int} {s : Int} {a : Nat} {cs : Array Value} {t : TypeId} {fr : Nat × Nat} (h : IsS102 u W g l m s) (j : W.heap[a]? = some (.cells cs t fr)) (ht : t ≠ 102) : g ≠ a := by
 obtain ⟨x, y, hb, hg, z⟩ := h
 rintro rfl
 rw [hb] at j
 injection j with j
 injection j with _ ht2
 exact ht ht2.symm
theorem IsS102.far {s W : World} {g : Nat} {j : List Int} {l : Int} {m : Int} {p : Addr} (h : IsS102 s W g j l m) (hne : g ≠ p.block) (u : Value) : IsS102 s (W.setCell p u) g j l m := by
 obtain ⟨x, y, hb, hg, z⟩ := h
 exact ⟨x, y, blk_far hb hne u, hg, z⟩
theorem cellS102_0 {W : World} {g : Nat} {j : Option Addr} {l : Nat} {m : List Int} {s : Int} {u : Int} (h : W.heap[g]? = some (.cells #[.slice j m.length l, iv_ s, iv_ u] 102 (0, 0))) : W.cell? ⟨g, 0, none⟩ = some (.slice j m.length l) := (blk_cell h 0).trans rfl
theorem cellS102_1 {W : World} {g : Nat} {l : Option Addr} {m : Nat} {s : List Int} {j : Int} {u : Int} (h : W.heap[g]? = some (.cells #[.slice l s.length m, iv_ j, iv_ u] 102 (0, 0))) : W.cell? ⟨g, 1, none⟩ = some (iv_ j) := (blk_cell h 1).trans rfl
theorem IsS102.set_1 {m W : World} {g : Nat} {j : List Int} {y : Int} {l : Int} (h : IsS102 m W g j y l) (x : Int) : IsS102 m (W.setCell ⟨g, 1, none⟩ (iv_ x)) g j x l := by
 obtain ⟨s, u, hb, hg, z⟩ := h
 exact ⟨s, u, by simpa using blk_set hb 1 (iv_ x), hg, z⟩
theorem cellS102_2 {W : World} {g : Nat} {l : Option Addr} {m : Nat} {s : List Int} {u : Int} {j : Int} (h : W.heap[g]? = some (.cells #[.slice l s.length m, iv_ u, iv_ j] 102 (0, 0))) : W.cell? ⟨g, 2, none⟩ = some (iv_ j) := (blk_cell h 2).trans rfl
theorem IsS102.set_2 {m W : World} {g : Nat} {j : List Int} {l : Int} {y : Int} (h : IsS102 m W g j l y) (x : Int) : IsS102 m (W.setCell ⟨g, 2, none⟩ (iv_ x)) g j l x := by
 obtain ⟨s, u, hb, hg, z⟩ := h
 exact ⟨s, u, by simpa using blk_set hb 2 (iv_ x), hg, z⟩
theorem is_ {w0 w1 w2 : World} {g : Nat} {l : List Int} {i h i' h' : Int} (hI : Aside0 (IsS102 w0 w1 g l i h)) (hh : IsS102 w0 w1 g l i h → IsS102 w0 w2 g l i' h' := by intro h_; repeat (first | (with_reducible first | exact h_ | apply IsS102.alloc | apply IsS102.drewN | apply IsS102.drew | apply IsS102.set_1 | apply IsS102.set_2) | exact h_)) : IsS102 w0 w2 g l i' h' := hh hI.out
theorem is1_ {w0 w1 w2 : World} {g : Nat} {l : List Int} {i h i' h' : Int} {p0 : Prop} (hI : Aside0 (IsS102 w0 w1 g l i h)) (e0 : Aside0 p0) (hh : IsS102 w0 w1 g l i h → p0 → IsS102 w0 w2 g l i' h' := by intro h_ e0_; repeat (first | (with_reducible first | exact h_ | apply IsS102.alloc | apply IsS102.drewN | apply IsS102.drew | apply IsS102.set_1 | apply IsS102.set_2 | refine IsS102.far ?_ e0_ _) | exact h_)) : IsS102 w0 w2 g l i' h' := hh hI.out e0.out
theorem is2_ {w0 w1 w2 : World} {g : Nat} {l : List Int} {i h i' h' : Int} {p0 : Prop} {p1 : Prop} (hI : Aside0 (IsS102 w0 w1 g l i h)) (e0 : Aside0 p0) (e1 : Aside0 p1) (hh : IsS102 w0 w1 g l i h → p0 → p1 → IsS102 w0 w2 g l i' h' := by intro h_ e0_ e1_; repeat (first | (with_reducible first | exact h_ | apply IsS102.alloc | apply IsS102.drewN | apply IsS102.drew | apply IsS102.set_1 | apply IsS102.set_2 | refine IsS102.far ?_ e0_ _ | refine IsS102.far ?_ e1_ _) | exact h_)) : IsS102 w0 w2 g l i' h' := hh hI.out e0.out e1.out

/-! ### spec_l1New: function 49 -/
def spec_l1New.l0 : Nat → List Int → Int → Int → Option (List Int × Int × Int)
 | 0, _, _, _ => none
 | k + 1, j, m, l => if l < (j.length : Int) then (if l < 4000 then (if 0 ≤ l then (spec_l1New.l0 k j (Go.bits .and .i64 (wrap64 ((wrap64 ((wrap64 (m * 137)) + (wrap64 (rd j l)))) + 11)) 1073741823) (wrap64 (l + 1))) else (none)) else (some (j, 0, m))) else (some (j, 0, m))
def spec_l1New.f (k : Nat) (j : List Int) : Option (List Int × Int × Int) := spec_l1New.l0 k j (wrap64 (193017 + (j.length : Int))) 0
theorem spec_l1New.calls (k : Nat) (u : Option Addr) (x : Nat) (j G : List Int) (I J : Int) (l w : World) (hB : Below l.heap.size l w) (X : Kd.C (Kd.int .u8) l u j.length j) (U : j.length ≤ x) (h : spec_l1New.f k j = some (G, I, J)) :
  Calls Try.prog 49 #[.slice u j.length x] w fun e w' => ∃ g_ : Nat, e = .returned (.pointer (some ⟨g_, 0, none⟩)) ∧ IsS102 l w' g_ G I J ∧ Below l.heap.size l w' ∧ Below w.heap.size w w' := by
 have b2 := Try.underlying102
 have y := Aside0.mk X
 have a9 := Aside0.mk U
 clear X U
 have HBW := Aside0.mk (Below.refl w.heap.size w)
 have T := Aside0.mk hB.size
 have HB := Aside0.mk hB
 clear hB
 have H := h
 clear h
 unfold spec_l1New.f at H
 have H' := Aside0.mk H
 clear H
 go_enter Try.func49, Try.ntmps49
 go_wp2
 go_loopg [3, 4] k (fun kq v3 v4 w' => ∃ (s : Int) (m : Int), v3 = iv_ s ∧ v4 = iv_ m ∧ Aside0 (spec_l1New.l0 kq j s m = some (G, I, J)) ∧ Aside0 (kq ≤ k) ∧ Aside0 (Below l.heap.size l w') ∧ Aside0 (Below w.heap.size w w'))
 case atStart => exact ⟨(wrap64 (193017 + (j.length : Int))), (0), (by first | rfl | (simp; done) | (simp [*]; done)), (by first | rfl | (simp; done) | (simp [*]; done)), H', ⟨Nat.le_refl _⟩, ⟨bl_ HB⟩, ⟨(bl_ HBW)⟩⟩
 case round =>
  clear H'
  obtain ⟨s, m, rfl, rfl, HA, O, HB, HBW⟩ := hrel
  cases gk with
  | zero => exact absurd HA.out (by simp [spec_l1New.l0])
  | succ k1 =>
   have H := HA.out
   clear HA
   simp only [spec_l1New.l0] at H
   by_cases c2 : m < (j.length : Int)
   ·rw [if_pos c2] at H
    have a3 := decide_eq_true c2
    clear c2
    by_cases c3 : m < 4000
    ·rw [if_pos c3] at H
     have a4 := decide_eq_true c3
     clear c3
     replace H := ifn_ H
     obtain ⟨c4, H⟩ := H
     have b1 := decide_eq_true c4
     clear c4
     have H' := Aside0.mk H
     clear H
     have D : 0 ≤ (m : Int) := od_
     have E : m < (j.length : Int) := od_
     obtain ⟨b0, a5, Y⟩ := Kd.at_int y.out m D E
     cases a5
     replace Y := pw_cell_below HB.out Y
     replace D := eq_true D
     replace E := eq_true E
     go_wp2
     go_roundg k1
     case measure => have := O.out; omega
     case rel => exact ⟨(Go.bits .and .i64 (wrap64 ((wrap64 ((wrap64 (s * 137)) + (wrap64 (rd j m)))) + 11)) 1073741823), (wrap64 (m + 1)), (by first | rfl | (simp; done) | (simp [*]; done)), (by first | rfl | (simp; done) | (simp [*]; done)), H', ⟨by have := O.out; omega⟩, ⟨bl_ HB⟩, ⟨(bl_ HBW)⟩⟩
    ·rw [if_neg c3] at H
     have a4 := decide_eq_false c3
     clear c3
     simp only [Option.some.injEq, Prod.mk.injEq] at H
     obtain ⟨rfl, rfl, rfl⟩ := H
     go_wp2_with (first | ((with_reducible refine gd_ 31 ?_); refine bx_ 31 102 #[.slice u j.length x, iv_ 0, iv_ s] ?_; intro z hg w5 hbox hb; refine sh5_ (below_step HBW.out hb) (below_step (bl_ HB) hb) hbox (ge_ hg (bl_ HBW)) ((Nat.le_trans T.out (by rw [hg]; exact (below_size (bl_ HBW)) : w.heap.size ≤ z) : l.heap.size ≤ z)) ?_; clear HBW HB hb hbox hg; intro HBW HB Z a1 L))
     go_ret
     exact ⟨_, rfl, (show IsS102 l _ z j 0 s from ⟨_, _, (bk_ Z), L.out, y.out⟩), bl1_ HB L, (bl1_ HBW a1)⟩
   ·rw [if_neg c2] at H
    have a3 := decide_eq_false c2
    clear c2
    simp only [Option.some.injEq, Prod.mk.injEq] at H
    obtain ⟨rfl, rfl, rfl⟩ := H
    go_wp2_with (first | ((with_reducible refine gd_ 31 ?_); refine bx_ 31 102 #[.slice u j.length x, iv_ 0, iv_ s] ?_; intro B hg w6 hbox hb; refine sh5_ (below_step HBW.out hb) (below_step (bl_ HB) hb) hbox (ge_ hg (bl_ HBW)) ((Nat.le_trans T.out (by rw [hg]; exact (below_size (bl_ HBW)) : w.heap.size ≤ B) : l.heap.size ≤ B)) ?_; clear HBW HB hb hbox hg; intro HBW HB a0 a2 M))
    go_ret
    exact ⟨_, rfl, (show IsS102 l _ B j 0 s from ⟨_, _, (bk_ a0), M.out, y.out⟩), bl1_ HB M, (bl1_ HBW a2)⟩

/-! ### spec_l1Byte: function 98 -/
def spec_l1Byte.f (m : List Int) (l j : Int) : Option (Int × Int × Int) := if l < (m.length : Int) then (if 0 ≤ l then (some (Go.bits .and .i64 (wrap64 ((Go.bits .and .i64 (Go.bits .xor .i64 ((wrap64 ((wrap64 (j * 6364136223846793005)) + 1442695040888963407)) / 8589934592) ((wrap64 ((wrap64 (j * 6364136223846793005)) + 1442695040888963407)) / 140737488355328)) 255) + (wrap64 (rd m l)))) 255, wrap64 (l + 1), wrap64 ((wrap64 (j * 6364136223846793005)) + 1442695040888963407))) else (none)) else (some (Go.bits .and .i64 (Go.bits .xor .i64 ((wrap64 ((wrap64 (j * 6364136223846793005)) + 1442695040888963407)) / 8589934592) ((wrap64 ((wrap64 (j * 6364136223846793005)) + 1442695040888963407)) / 140737488355328)) 255, l, wrap64 ((wrap64 (j * 6364136223846793005)) + 1442695040888963407)))
theorem spec_l1Byte.calls (g : Nat) (y : List Int) (u B G I J : Int) (x w : World) (hI : IsS102 x w g y u B) (hB : Below x.heap.size x w) (h : spec_l1Byte.f y u B = some (G, I, J)) :
  Calls Try.prog 98 #[.pointer (some ⟨g, 0, none⟩)] w fun e w' => e = .returned (iv_ G) ∧ IsS102 x w' g y I J ∧ Below x.heap.size x w' ∧ KeepBut w w' g none := by
 have j := Aside0.mk hI
 have HK := Aside0.mk (KeepBut.refl w g none)
 have HL := Aside0.mk hB.size
 clear hI
 have a1 := Aside0.mk hB.size
 have HB := Aside0.mk hB
 clear hB
 have H := h
 clear h
 unfold spec_l1Byte.f at H
 by_cases c2 : u < (y.length : Int)
 ·rw [if_pos c2] at H
  have O := decide_eq_true c2
  clear c2
  replace H := ifn_ H
  obtain ⟨c3, H⟩ := H
  have a2 := decide_eq_true c3
  clear c3
  simp only [Option.some.injEq, Prod.mk.injEq] at H
  obtain ⟨rfl, rfl, rfl⟩ := H
  obtain ⟨Y, a3, l, U, L⟩ := j.out
  have a5 := cellS102_0 l
  have a6 := cellS102_1 l
  have a7 := cellS102_2 l
  have b1 := blk_frozen l 1
  have b2 := blk_frozen l 2
  clear l U
  have D : 0 ≤ (u : Int) := od_
  have E : u < (y.length : Int) := od_
  obtain ⟨M, T, s⟩ := Kd.at_int L u D E
  cases T
  have z : M.block ≠ g := Nat.ne_of_lt (Nat.lt_of_lt_of_le (by have := World.block_lt_of_cell? _ _ s; first | rwa [add_block] at this | exact this) (IsS102.ge j.out))
  replace s := pw_cell_below HB.out s
  replace s := (cell_far (p := ⟨g, 2, none⟩) (by first | (rw [add_block]; exact z) | (show (Addr.add _ _).block ≠ _; rw [add_block]; exact z) | exact z) (iv_ (wrap64 ((wrap64 (B * 6364136223846793005)) + 1442695040888963407)))).trans s
  (try have b5 := fun (n_ : Nat) => (show (((w.drewN n_).setCell ⟨g, 2, none⟩ (iv_ (wrap64 ((wrap64 (B * 6364136223846793005)) + 1442695040888963407))))).cell? _ = some _ from s))
  clear z
  replace D := eq_true D
  replace E := eq_true E
  go_enter Try.func98, Try.ntmps98
  go_wp2
  repeat (go_quiet (fail); try go_wp2)
  go_ret
  exact ⟨by first | (rw [hRT_.out]; rfl) | exact er_, (is_ j), by repeat (first | (with_reducible first | exact HB.out | apply below_alloc | apply pw_below_drewN | apply below_drew1 | refine below_set ?_ (IsS102.ge j.out)) | exact HB.out), (kb_ HK)⟩
 ·rw [if_neg c2] at H
  have O := decide_eq_false c2
  clear c2
  simp only [Option.some.injEq, Prod.mk.injEq] at H
  obtain ⟨rfl, rfl, rfl⟩ := H
  obtain ⟨Z, a4, m, X, a0⟩ := j.out
  have a8 := cellS102_0 m
  have a9 := cellS102_1 m
  have b0 := cellS102_2 m
  have b3 := blk_frozen m 1
  have b4 := blk_frozen m 2
  clear m X
  go_enter Try.func98, Try.ntmps98
  go_wp2
  repeat (go_quiet (fail); try go_wp2)
  go_ret
  exact ⟨by first | (rw [hRT_.out]; rfl) | exact er_, (is_ j), by repeat (first | (with_reducible first | exact HB.out | apply below_alloc | apply pw_below_drewN | apply below_drew1 | refine below_set ?_ (IsS102.ge j.out)) | exact HB.out), (kb_ HK)⟩

/-! ### spec_l1Below: function 60 -/
def spec_l1Below.f (l : List Int) (y z j : Int) : Option (Int × Int × Int) := if j ≤ 0 then (some (0, y, z)) else (if j ≤ 256 then ((spec_l1Byte.f l y z).bind fun m => (if j = 0 then (none) else (some (Int.tmod m.1 j, m.2.1, m.2.2)))) else ((spec_l1Byte.f l y z).bind fun s => ((spec_l1Byte.f l s.2.1 s.2.2).bind fun u => ((spec_l1Byte.f l u.2.1 u.2.2).bind fun x => (if j = 0 then (none) else (some (Int.tmod (wrap64 ((wrap64 ((wrap64 (s.1 * 65536)) + (wrap64 (u.1 * 256)))) + x.1)) j, x.2.1, x.2.2)))))))
theorem spec_l1Below.calls (g : Nat) (m : List Int) (u x s z B D : Int) (l w : World) (hI : IsS102 l w g m u x) (hB : Below l.heap.size l w) (h : spec_l1Below.f m u x s = some (z, B, D)) :
  Calls Try.prog 60 #[.pointer (some ⟨g, 0, none⟩), iv_ s] w fun e w' => e = .returned (iv_ z) ∧ IsS102 l w' g m B D ∧ Below l.heap.size l w' ∧ KeepBut w w' g none := by
 have j := Aside0.mk hI
 have HK := Aside0.mk (KeepBut.refl w g none)
 have HL := Aside0.mk hB.size
 clear hI
 have a7 := Aside0.mk hB.size
 have HB := Aside0.mk hB
 clear hB
 have H := h
 clear h
 unfold spec_l1Below.f at H
 by_cases c3 : s ≤ 0
 ·rw [if_pos c3] at H
  have U := decide_eq_true c3
  clear c3
  simp only [Option.some.injEq, Prod.mk.injEq] at H
  obtain ⟨rfl, rfl, rfl⟩ := H
  go_enter Try.func60, Try.ntmps60
  go_wp2
  go_ret
  exact ⟨by first | (rw [hRT_.out]; rfl) | exact er_, (is_ j), by repeat (first | (with_reducible first | exact HB.out | apply below_alloc | apply pw_below_drewN | apply below_drew1 | refine below_set ?_ (IsS102.ge j.out)) | exact HB.out), (kb_ HK)⟩
 ·rw [if_neg c3] at H
  have U := decide_eq_false c3
  clear c3
  by_cases c4 : s ≤ 256
  ·rw [if_pos c4] at H
   have X := decide_eq_true c4
   clear c4
   replace H := bs_ H
   obtain ⟨⟨Y, Z, a0⟩, M, H⟩ := H
   dsimp only at H
   by_cases c6 : s = 0
   ·rw [if_pos c6] at H
    exact absurd H (by simp)
   ·rw [if_neg c6] at H
    obtain ⟨b0, b1⟩ := bn_ c6
    simp only [Option.some.injEq, Prod.mk.injEq] at H
    obtain ⟨rfl, rfl, rfl⟩ := H
    go_enter Try.func60, Try.ntmps60
    go_wp2_with (first | ((with_reducible refine gate_callee (f := 98) rfl ?_); refine goesL_ (some 13) rfl rfl Try.func98 (by kernel_rfl) rfl #[.pointer (some ⟨g, 0, none⟩)] rfl mp_ ?_; (with_reducible refine (spec_l1Byte.calls g m u x Y Z a0 l _ ?side1 ?side2 M.out).mono ?_); (case side1 => exact is_ j); (case side2 => repeat (first | (with_reducible first | exact HB.out | apply below_alloc | apply pw_below_drewN | apply below_drew1 | refine below_set ?_ (IsS102.ge j.out)) | exact HB.out)); rintro e w7 ⟨rfl, hi, hb, hk⟩; refine ⟨_, rfl, sh3_ (KeepBut.trans (kb_ HK) hk (.inl rfl)) hb hi ?_⟩; clear HK HB j hb hk hi; intro HK HB j))
    go_ret
    exact ⟨by first | (rw [hRT_.out]; rfl) | exact er_, (is_ j), by repeat (first | (with_reducible first | exact HB.out | apply below_alloc | apply pw_below_drewN | apply below_drew1 | refine below_set ?_ (IsS102.ge j.out)) | exact HB.out), (kb_ HK)⟩
  ·rw [if_neg c4] at H
   have X := decide_eq_false c4
   clear c4
   replace H := bs_ H
   obtain ⟨⟨a2, E, G⟩, O, H⟩ := H
   dsimp only at H
   replace H := bs_ H
   obtain ⟨⟨a3, I, J⟩, T, H⟩ := H
   dsimp only at H
   replace H := bs_ H
   obtain ⟨⟨a4, a5, a6⟩, L, H⟩ := H
   dsimp only at H
   by_cases y : s = 0
   ·rw [if_pos y] at H
    exact absurd H (by simp)
   ·rw [if_neg y] at H
    obtain ⟨a8, a9⟩ := bn_ y
    simp only [Option.some.injEq, Prod.mk.injEq] at H
    obtain ⟨rfl, rfl, rfl⟩ := H
    go_enter Try.func60, Try.ntmps60
    go_wp2_with (first | ((with_reducible refine gate_callee (f := 98) rfl ?_); refine goesL_ (some 17) rfl rfl Try.func98 (by kernel_rfl) rfl #[.pointer (some ⟨g, 0, none⟩)] rfl mp_ ?_; (with_reducible refine (spec_l1Byte.calls g m u x a2 E G l _ ?side1 ?side2 O.out).mono ?_); (case side1 => exact is_ j); (case side2 => repeat (first | (with_reducible first | exact HB.out | apply below_alloc | apply pw_below_drewN | apply below_drew1 | refine below_set ?_ (IsS102.ge j.out)) | exact HB.out)); rintro e b2 ⟨rfl, hi, hb, hk⟩; refine ⟨_, rfl, sh3_ (KeepBut.trans (kb_ HK) hk (.inl rfl)) hb hi ?_⟩; clear HK HB j hb hk hi; intro HK HB j) | ((with_reducible refine gate_callee (f := 98) rfl ?_); refine goesL_ (some 19) rfl rfl Try.func98 (by kernel_rfl) rfl #[.pointer (some ⟨g, 0, none⟩)] rfl mp_ ?_; (with_reducible refine (spec_l1Byte.calls g m E G a3 I J l _ ?side1 ?side2 T.out).mono ?_); (case side1 => exact is_ j); (case side2 => repeat (first | (with_reducible first | exact HB.out | apply below_alloc | apply pw_below_drewN | apply below_drew1 | refine below_set ?_ (IsS102.ge j.out)) | exact HB.out)); rintro e b3 ⟨rfl, hi, hb, hk⟩; refine ⟨_, rfl, sh3_ (KeepBut.trans (kb_ HK) hk (.inl rfl)) hb hi ?_⟩; clear HK HB j hb hk hi; intro HK HB j) | ((with_reducible refine gate_callee (f := 98) rfl ?_); refine goesL_ (some 21) rfl rfl Try.func98 (by kernel_rfl) rfl #[.pointer (some ⟨g, 0, none⟩)] rfl mp_ ?_; (with_reducible refine (spec_l1Byte.calls g m I J a4 a5 a6 l _ ?side1 ?side2 L.out).mono ?_); (case side1 => exact is_ j); (case side2 => repeat (first | (with_reducible first | exact HB.out | apply below_alloc | apply pw_below_drewN | apply below_drew1 | refine below_set ?_ (IsS102.ge j.out)) | exact HB.out)); rintro e b4 ⟨rfl, hi, hb, hk⟩; refine ⟨_, rfl, sh3_ (KeepBut.trans (kb_ HK) hk (.inl rfl)) hb hi ?_⟩; clear HK HB j hb hk hi; intro HK HB j))
    go_ret
    exact ⟨by first | (rw [hRT_.out]; rfl) | exact er_, (is_ j), by repeat (first | (with_reducible first | exact HB.out | apply below_alloc | apply pw_below_drewN | apply below_drew1 | refine below_set ?_ (IsS102.ge j.out)) | exact HB.out), (kb_ HK)⟩

/-! ### spec_l1Once: function 77 -/
def spec_l1Once.f (m : List Int) (s u l : Int) : Option (Bool × Int × Int) := (spec_l1Below.f m s u l).bind fun j => (some ((j.1 == 0), j.2.1, j.2.2))
theorem spec_l1Once.calls (g : Nat) (s : List Int) (u x m : Int) (y : Bool) (z B : Int) (l w : World) (hI : IsS102 l w g s u x) (hB : Below l.heap.size l w) (h : spec_l1Once.f s u x m = some (y, z, B)) :
  Calls Try.prog 77 #[.pointer (some ⟨g, 0, none⟩), iv_ m] w fun e w' => e = .returned (.bool y) ∧ IsS102 l w' g s z B ∧ Below l.heap.size l w' ∧ KeepBut w w' g none := by
 have j := Aside0.mk hI
 have HK := Aside0.mk (KeepBut.refl w g none)
 have HL := Aside0.mk hB.size
 clear hI
 have J := Aside0.mk hB.size
 have HB := Aside0.mk hB
 clear hB
 have H := h
 clear h
 unfold spec_l1Once.f at H
 replace H := bs_ H
 obtain ⟨⟨E, G, I⟩, D, H⟩ := H
 dsimp only at H
 simp only [Option.some.injEq, Prod.mk.injEq] at H
 obtain ⟨rfl, rfl, rfl⟩ := H
 go_enter Try.func77, Try.ntmps77
 go_wp2_with (first | ((with_reducible refine gate_callee (f := 60) rfl ?_); refine goesL_ (some 7) rfl rfl Try.func60 (by kernel_rfl) rfl #[.pointer (some ⟨g, 0, none⟩), iv_ m] rfl mp_ ?_; (with_reducible refine (spec_l1Below.calls g s u x m E G I l _ ?side1 ?side2 D.out).mono ?_); (case side1 => exact is_ j); (case side2 => repeat (first | (with_reducible first | exact HB.out | apply below_alloc | apply pw_below_drewN | apply below_drew1 | refine below_set ?_ (IsS102.ge j.out)) | exact HB.out)); rintro e L ⟨rfl, hi, hb, hk⟩; refine ⟨_, rfl, sh3_ (KeepBut.trans (kb_ HK) hk (.inl rfl)) hb hi ?_⟩; clear HK HB j hb hk hi; intro HK HB j))
 go_ret
 exact ⟨by first | (rw [hRT_.out]; rfl) | exact er_, (is_ j), by repeat (first | (with_reducible first | exact HB.out | apply below_alloc | apply pw_below_drewN | apply below_drew1 | refine below_set ?_ (IsS102.ge j.out)) | exact HB.out), (kb_ HK)⟩

/-! ### spec_l1In: function 124 -/
def spec_l1In.f (j l m : Int) : Option (Bool) := if j ≥ l then (some (decide (j ≤ m))) else (some false)
theorem spec_l1In.calls (j l m : Int) (r : Bool) (w : World) (h : spec_l1In.f j l m = some r) :
  Calls Try.prog 124 #[iv_ j, iv_ l, iv_ m] w fun e w' => e = .returned (.bool r) ∧ Drawn0 w w' := by
 have H := h
 clear h
 unfold spec_l1In.f at H
 by_cases c4 : j ≥ l
 ·rw [if_pos c4] at H
  have s : decide (l ≤ j) = true := decide_eq_true c4
  clear c4
  obtain rfl := Option.some.inj H
  go_enter Try.func124, Try.ntmps124
  go_wp2
  go_ret
  exact ⟨by first | rfl | (simp; done) | (simp [*]; done), by repeat (first | exact Drawn0.refl _ | apply Drawn0.step)⟩
 ·rw [if_neg c4] at H
  have s : decide (l ≤ j) = false := decide_eq_false c4
  clear c4
  obtain rfl := Option.some.inj H
  go_enter Try.func124, Try.ntmps124
  go_wp2
  go_ret
  exact ⟨by first | rfl | (simp; done) | (simp [*]; done), by repeat (first | exact Drawn0.refl _ | apply Drawn0.step)⟩

end Go.Proofs.Ytopbkdcicidajaa.PFnContacts
