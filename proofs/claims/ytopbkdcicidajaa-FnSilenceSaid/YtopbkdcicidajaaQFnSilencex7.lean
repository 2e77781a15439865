-- Written by a program of this session for this claim (the kit's printer with changes).
import Derived.Test.YtopbkdcicidajaaQFnSilencex0
import Derived.Test.YtopbkdcicidajaaQFnSilencex1
import Derived.Test.YtopbkdcicidajaaQFnSilencex3
import Derived.Test.YtopbkdcicidajaaQFnSilencex5
import Derived.Test.YtopbkdcicidajaaQFnSilencex6
namespace Go.Proofs.Ytopbkdcicidajaa.PFnSilence
open Go.RowKit Go.Proofs.YtopbkdcicidajaaW.PrintWords Go.Proofs.YtopbkdcicidajaaW.PrintLast Go.Proofs.YtopbkdcicidajaaW.PrintMore
attribute [local go_sem] max2_int min2_int max_two min_two max_three min_three max_four min_four   -- for this text's walks alone
set_option linter.unusedVariables false
set_option maxHeartbeats 8000000
set_option maxRecDepth 100000
set_option linter.unusedSimpArgs false

/-! ### impl_ArcsMeet: function 75 -/
def impl_ArcsMeet.l0 : Nat → Int → Int → Int → Int → Int → Option (Bool)
 | 0, _, _, _, _, _ => none
 | k + 1, j, l, m, s, u => if j < 360 then ((impl_InArc.f l m j).bind fun x => (if x = true then ((impl_InArc.f s u j).bind fun y => (if y = true then (some true) else (impl_ArcsMeet.l0 k (wrap64 (j + 1)) l m s u))) else (impl_ArcsMeet.l0 k (wrap64 (j + 1)) l m s u))) else (some false)
def impl_ArcsMeet.f (k : Nat) (j l m s : Int) : Option (Bool) := impl_ArcsMeet.l0 k 0 j l m s
theorem impl_ArcsMeet.calls (k : Nat) (x y z B : Int) (r : Bool) (w : World) (h : impl_ArcsMeet.f k x y z B = some r) :
  Calls Try.prog 75 #[.agg #[iv_ x, iv_ y], .agg #[iv_ z, iv_ B]] w fun e w' => e = .returned (.bool r) ∧ Below w.heap.size w w' := by
 have b1 := Try.underlying35
 have HB := Aside0.mk (Below.refl w.heap.size w)
 have H := h
 clear h
 unfold impl_ArcsMeet.f at H
 have H' := Aside0.mk H
 clear H
 go_enter Try.func75, Try.ntmps75
 go_wp2_with (first | ((with_reducible refine gd_ 2 ?_); refine bx_ 2 35 #[iv_ x, iv_ y] ?_; intro T hg w3 hbox hb; refine sh3_ (below_step (bl_ HB) hb) hbox (ge_ hg (bl_ HB)) ?_; clear HB hb hbox hg; intro HB j s) | ((with_reducible refine gd_ 3 ?_); refine bx_ 3 35 #[iv_ z, iv_ B] ?_; intro U hg w4 hbox hb; refine sh6_ (blk_below (bk_ j) hb) (below_step (bl1_ HB s) hb) hbox (ge_ hg (bl1_ HB s)) (nl_ hg (bk_ j)) (ng_ hg (bk_ j)) ?_; clear j HB hb hbox hg; intro j HB l u J L))
 go_loopg [6] k (fun kq Z w' => ∃ (m : Int), Z = iv_ m ∧ Aside0 (impl_ArcsMeet.l0 kq m x y z B = some r) ∧ Aside0 (kq ≤ k) ∧ Aside0 (w'.heap[T]? = some (.cells #[iv_ x, iv_ y] 35 (0, 0))) ∧ Aside0 (w'.heap[U]? = some (.cells #[iv_ z, iv_ B] 35 (0, 0))) ∧ Aside0 (Below w.heap.size w w'))
 case atStart => exact ⟨(0), (by first | rfl | (simp; done) | (simp [*]; done)), H', ⟨Nat.le_refl _⟩, ⟨by (with_reducible repeat (first | refine blk_drewN ?_ _ | refine blk_drew ?_ | refine blk_alloc ?_ _)); exact j.out⟩, ⟨by (with_reducible repeat (first | refine blk_drewN ?_ _ | refine blk_drew ?_ | refine blk_alloc ?_ _)); exact l.out⟩, ⟨bl2_ HB s u⟩⟩
 case round =>
  clear H'
  obtain ⟨m, rfl, HA, E, j, l, HB⟩ := hrel
  cases gk with
  | zero => exact absurd HA.out (by simp [impl_ArcsMeet.l0])
  | succ G =>
   have H := HA.out
   clear HA
   simp only [impl_ArcsMeet.l0] at H
   by_cases c5 : m < 360
   ·rw [if_pos c5] at H
    have O := decide_eq_true c5
    clear c5
    replace H := bs_ H
    obtain ⟨X, I, H⟩ := H
    by_cases c7 : X = true
    ·subst c7
     rw [if_pos rfl] at H
     replace H := bs_ H
     obtain ⟨Y, M, H⟩ := H
     by_cases c9 : Y = true
     ·subst c9
      rw [if_pos rfl] at H
      obtain rfl := Option.some.inj H
      have a5 := J.out
      have a8 := L.out
      have a0 := cf2_ j
      go_wp2_with (first | ((with_reducible refine gate_callee (f := 110) rfl ?_); refine gl_ 11 Try.func110 (impl_InArc.calls x y m true _ I.out) ?_; rintro e b2 ⟨rfl, hb⟩; refine ⟨_, rfl, sh3_ (blk_below (bk_ j) hb) (blk_below (bk_ l) hb) (below_step (bl2_ HB s u) hb) ?_⟩; clear j l HB hb; intro j l HB; have a1 := cf2_ l) | (go_at_call 110; (with_reducible refine (impl_InArc.calls z B m true _ M.out).mono ?_); rintro e b3 ⟨rfl, hb⟩; refine sh3_ (blk_below (bk_ j) hb) (blk_below (bk_ l) hb) (below_step (bl2_ HB s u) hb) ?_; clear j l HB hb; intro j l HB))
      go_ret
      exact ⟨by first | (rw [hRT_.out]; rfl) | exact er_, bl2_ HB s u⟩
     ·replace c9 := Bool.eq_false_iff.mpr c9
      subst c9
      have D : (impl_ArcsMeet.l0 G (wrap64 (m + 1)) x y z B) = some r := by rw [if_neg (show ¬ (false = true) by decide)] at H; exact H
      clear H
      have H := D
      clear D
      have H' := Aside0.mk H
      clear H
      have a6 := J.out
      have a9 := L.out
      have a2 := cf2_ j
      go_wp2_with (first | ((with_reducible refine gate_callee (f := 110) rfl ?_); refine gl_ 11 Try.func110 (impl_InArc.calls x y m true _ I.out) ?_; rintro e b4 ⟨rfl, hb⟩; refine ⟨_, rfl, sh3_ (blk_below (bk_ j) hb) (blk_below (bk_ l) hb) (below_step (bl2_ HB s u) hb) ?_⟩; clear j l HB hb; intro j l HB; have a3 := cf2_ l) | (go_at_call 110; (with_reducible refine (impl_InArc.calls z B m false _ M.out).mono ?_); rintro e b5 ⟨rfl, hb⟩; refine sh3_ (blk_below (bk_ j) hb) (blk_below (bk_ l) hb) (below_step (bl2_ HB s u) hb) ?_; clear j l HB hb; intro j l HB))
      go_roundg G
      case measure => have := E.out; omega
      case rel => exact ⟨(wrap64 (m + 1)), (by first | rfl | (simp; done) | (simp [*]; done)), H', ⟨by have := E.out; omega⟩, ⟨by (with_reducible repeat (first | refine blk_drewN ?_ _ | refine blk_drew ?_ | refine blk_alloc ?_ _)); exact j.out⟩, ⟨by (with_reducible repeat (first | refine blk_drewN ?_ _ | refine blk_drew ?_ | refine blk_alloc ?_ _)); exact l.out⟩, ⟨bl2_ HB s u⟩⟩
    ·replace c7 := Bool.eq_false_iff.mpr c7
     subst c7
     have D : (impl_ArcsMeet.l0 G (wrap64 (m + 1)) x y z B) = some r := by rw [if_neg (show ¬ (false = true) by decide)] at H; exact H
     clear H
     have H := D
     clear D
     have H' := Aside0.mk H
     clear H
     have a7 := J.out
     have b0 := L.out
     have a4 := cf2_ j
     go_wp2_with (first | ((with_reducible refine gate_callee (f := 110) rfl ?_); refine gl_ 11 Try.func110 (impl_InArc.calls x y m false _ I.out) ?_; rintro e b6 ⟨rfl, hb⟩; refine ⟨_, rfl, sh3_ (blk_below (bk_ j) hb) (blk_below (bk_ l) hb) (below_step (bl2_ HB s u) hb) ?_⟩; clear j l HB hb; intro j l HB))
     go_roundg G
     case measure => have := E.out; omega
     case rel => exact ⟨(wrap64 (m + 1)), (by first | rfl | (simp; done) | (simp [*]; done)), H', ⟨by have := E.out; omega⟩, ⟨by (with_reducible repeat (first | refine blk_drewN ?_ _ | refine blk_drew ?_ | refine blk_alloc ?_ _)); exact j.out⟩, ⟨by (with_reducible repeat (first | refine blk_drewN ?_ _ | refine blk_drew ?_ | refine blk_alloc ?_ _)); exact l.out⟩, ⟨bl2_ HB s u⟩⟩
   ·rw [if_neg c5] at H
    have O : decide (m < 360) = false := decide_eq_false c5
    clear c5
    obtain rfl := Option.some.inj H
    go_wp2
    go_ret
    exact ⟨by first | (rw [hRT_.out]; rfl) | exact er_, bl2_ HB s u⟩

/-! ### impl_MayDisturb: function 31 -/
def impl_MayDisturb.l0 : Nat → Int → List S88 → Int → Int → Int → List S72 → List S74 → Int → Int → Int → Int → Int → List S88 → Int → Int → Int → Option (Bool)
 | 0, _, _, _, _, _, _, _, _, _, _, _, _, _, _, _, _ => none
 | k + 1, m, l, u, j, z, s, B, D, E, G, I, J, L, M, x, y => if j < u then (if 0 ≤ j then (if j < (l.length : Int) then (if 0 ≤ m then (if m < (s.length : Int) then (if ((rd_T88 l j).f0) = ((rd_T72 s m).f0) then ((impl_ArcsMeet.f k x y ((rd_T88 l j).f1.f0) ((rd_T88 l j).f1.f1)).bind fun O => (if O = true then (some true) else (impl_MayDisturb.l0 k m l u (wrap64 (j + 1)) z s B D E G I J L M x y))) else (impl_MayDisturb.l0 k m l u (wrap64 (j + 1)) z s B D E G I J L M x y)) else (none)) else (none)) else (none)) else (none)) else (some false)
def impl_MayDisturb.f (k : Nat) (l : Int) (D : List S72) (E : List S74) (m s u x y : Int) (j : List S88) (z B I : Int) : Option (Bool) := (impl_isSatellite.f l D E m s u x y j z B).bind fun J => (if J = true then ((impl_NodeAt.f l D E m s u x y j z B I).bind fun G => (impl_MayDisturb.l0 k B j (j.length : Int) 0 l D E m s u x y j z G.1 G.2)) else (some false))
def impl_MayDisturb.T7 : Bool × List (List Nat × List Nat) := (true, [([], []), ([0], [0]), ([], []), ([2], [2]), ([], []), ([3, 4], [3, 4]), ([5], [5]), ([6], [6]), ([1, 7], [1, 7]), ([8], [8]), ([9], [9]), ([9], [9]), ([11, 9], [9, 11]), ([10, 12, 9, 9], [9, 10, 12]), ([9, 13], [9, 13])])
def impl_MayDisturb.B7 : List Nat := [0, 1, 0, 4, 0, 28, 60, 124, 255, 511, 1023, 1023, 3071, 8191, 16383]
theorem impl_MayDisturb.tab7 : rtab .any (opsOf Try.f31 7) = impl_MayDisturb.T7 := by kernel_rfl
theorem impl_MayDisturb.bits7 : waitsOk impl_MayDisturb.T7.2 impl_MayDisturb.B7 = true := by kernel_rfl
theorem impl_MayDisturb.calls (k : Nat) (I : Int) (d2 : Option Addr) (b1 : Nat) (z : List S72) (b0 : Option Addr) (b2 : Nat) (E : List S74) (J L M O T : Int) (e2 : Option Addr) (b3 : Nat) (l : List S88) (U x a2 : Int) (r : Bool) (w : World) (h4 : Kd.C k72 w d2 z.length z) (h1 : z.length ≤ b1) (h5 : Kd.C k74 w b0 E.length E) (h2 : E.length ≤ b2) (h6 : Kd.C k88 w e2 l.length l) (h3 : l.length ≤ b3) (h : impl_MayDisturb.f k I z E J L M O T l U x a2 = some r) :
  Calls Try.prog 31 #[.agg #[iv_ I, .slice d2 z.length b1, .slice b0 E.length b2, iv_ J, iv_ L, iv_ M, iv_ O, iv_ T, .slice e2 l.length b3, iv_ U], iv_ x, iv_ a2] w fun e w' => e = .returned (.bool r) ∧ Below w.heap.size w w' := by
 have l6 := Try.underlying28
 have l7 := Try.underlying35
 have l8 := Try.underlying88
 have d8 := Aside0.mk h4
 have f9 := Aside0.mk h1
 clear h4 h1
 have g2 := Aside0.mk h5
 have g0 := Aside0.mk h2
 clear h5 h2
 have d9 := Aside0.mk h6
 have g1 := Aside0.mk h3
 clear h6 h3
 have HB := Aside0.mk (Below.refl w.heap.size w)
 have H := h
 clear h
 unfold impl_MayDisturb.f at H
 replace H := bs_ H
 obtain ⟨i2, A4, H⟩ := H
 by_cases c5 : i2 = true
 ·subst c5
  rw [if_pos rfl] at H
  replace H := bs_ H
  obtain ⟨⟨a9, d0⟩, A6, H⟩ := H
  dsimp only at H
  have H' := Aside0.mk H
  clear H
  go_enter Try.func31, Try.ntmps31
  go_wp2_with (first | ((with_reducible refine gd_ 3 ?_); refine bx_ 3 28 #[iv_ I, .slice d2 z.length b1, .slice b0 E.length b2, iv_ J, iv_ L, iv_ M, iv_ O, iv_ T, .slice e2 l.length b3, iv_ U] ?_; intro d4 hg w7 hbox hb; refine sh3_ (below_step (bl_ HB) hb) hbox (ge_ hg (bl_ HB)) ?_; clear HB hb hbox hg; intro HB j D; have j9 := cf10_ j) | ((with_reducible refine gate_callee (f := 53) rfl ?_); refine gl_ 12 Try.func53 (impl_isSatellite.calls I _ _ z _ _ E J L M O T _ _ l U x true _ (ck_ d8 HB) f9.out (ck_ g2 HB) g0.out (ck_ d9 HB) g1.out A4.out) ?_; rintro e w9 ⟨rfl, hb⟩; refine ⟨_, rfl, sh2_ (blk_below (bk_ j) hb) (below_step (bl1_ HB D) hb) ?_⟩; clear j HB hb; intro j HB; have j2 := cf10_ j) | ((with_reducible refine gate_callee (f := 13) rfl ?_); refine gl_ 17 Try.func13 (impl_NodeAt.calls I _ _ z _ _ E J L M O T _ _ l U x a2 a9 d0 _ (ck_ d8 HB) f9.out (ck_ g2 HB) g0.out (ck_ d9 HB) g1.out A6.out) ?_; rintro e l9 ⟨rfl, hb⟩; refine ⟨_, rfl, sh2_ (blk_below (bk_ j) hb) (below_step (bl1_ HB D) hb) ?_⟩; clear j HB hb; intro j HB) | ((with_reducible refine gd_ 7 ?_); refine bx_ 7 35 #[iv_ 0, iv_ 0] ?_; intro e1 hg m0 hbox hb; refine sh6_ (blk_below (bk_ j) hb) (below_step (bl1_ HB D) hb) hbox (ge_ hg (bl1_ HB D)) (nl_ hg (bk_ j)) (ng_ hg (bk_ j)) ?_; clear j HB hb hbox hg; intro j HB s G g3 h8; have k0 := h8.out; have k8 := g3.out; have j3 := cf2_ s; have j4 := cf10_ j))
  go_loopg [21] k (fun kq i4 w' => ∃ (m : Int), i4 = iv_ m ∧ Aside0 (impl_MayDisturb.l0 kq x l (l.length : Int) m I z E J L M O T l U a9 d0 = some r) ∧ Aside0 (kq ≤ k) ∧ Aside0 (w'.heap[d4]? = some (.cells #[iv_ I, (.slice d2 z.length b1), (.slice b0 E.length b2), iv_ J, iv_ L, iv_ M, iv_ O, iv_ T, (.slice e2 l.length b3), iv_ U] 28 (0, 0))) ∧ Aside0 (w'.heap[e1]? = some (.cells #[iv_ a9, iv_ d0] 35 (0, 0))) ∧ Aside0 (Below w.heap.size w w'))
  case atStart => exact ⟨(0), (by first | rfl | (simp; done) | (simp [*]; done)), H', ⟨Nat.le_refl _⟩, ⟨by (with_reducible repeat (first | refine blk_drewN ?_ _ | refine blk_drew ?_ | refine blk_alloc ?_ _)); refine blk_far ?_ g3.out _; (with_reducible repeat (first | refine blk_drewN ?_ _ | refine blk_drew ?_ | refine blk_alloc ?_ _)); refine blk_far ?_ g3.out _; (with_reducible repeat (first | refine blk_drewN ?_ _ | refine blk_drew ?_ | refine blk_alloc ?_ _)); exact j.out⟩, ⟨by (with_reducible repeat (first | refine blk_drewN ?_ _ | refine blk_drew ?_ | refine blk_alloc ?_ _)); refine blk_put (cs := #[iv_ a9, iv_ 0]) ?_ 1 _ rfl; (with_reducible repeat (first | refine blk_drewN ?_ _ | refine blk_drew ?_ | refine blk_alloc ?_ _)); refine blk_put (cs := #[iv_ 0, iv_ 0]) ?_ 0 _ rfl; (with_reducible repeat (first | refine blk_drewN ?_ _ | refine blk_drew ?_ | refine blk_alloc ?_ _)); exact s.out⟩, ⟨bl2_ HB D G⟩⟩
  case round =>
   clear H'
   obtain ⟨m, rfl, HA, f7, j, s, HB⟩ := hrel
   cases gk with
   | zero => exact absurd HA.out (by simp [impl_MayDisturb.l0])
   | succ k1 =>
    have H := HA.out
    clear HA
    simp only [impl_MayDisturb.l0] at H
    by_cases e0 : m < (l.length : Int)
    ·rw [if_pos e0] at H
     have h9 := decide_eq_true e0
     clear e0
     replace H := ifn_ H
     obtain ⟨g7, H⟩ := H
     have i8 := decide_eq_true g7
     clear g7
     replace H := ifn_ H
     obtain ⟨g8, H⟩ := H
     have i9 := decide_eq_true g8
     clear g8
     replace H := ifn_ H
     obtain ⟨g9, H⟩ := H
     have j0 := decide_eq_true g9
     clear g9
     replace H := ifn_ H
     obtain ⟨h0, H⟩ := H
     have j1 := decide_eq_true h0
     clear h0
     by_cases e6 : ((rd_T88 l m).f0) = ((rd_T72 z x).f0)
     ·rw [if_pos e6] at H
      obtain ⟨i0, i1⟩ := bt_ e6
      clear e6
      replace H := bs_ H
      obtain ⟨i3, g5, H⟩ := H
      by_cases f8 : i3 = true
      ·subst f8
       rw [if_pos rfl] at H
       obtain rfl := Option.some.inj H
       have b8 : 0 ≤ (m : Int) := od_
       have c0 : m < (l.length : Int) := od_
       obtain ⟨d3, e7, d5, d6, d7⟩ := at_T88 d9.out m b8 c0
       cases e7
       replace d5 := hbc_ HB d5
       replace d6 := hbc_ HB d6
       replace d7 := hbc_ HB d7
       replace b8 := eq_true b8
       replace c0 := eq_true c0
       try go_wp2_with (first | ((with_reducible refine gd_ 9 ?_); refine bx_ 9 88 #[iv_ 0, iv_ 0, iv_ 0] ?_; intro u hg f4 hbox hb; refine sh9_ (blk_below (bk_ j) hb) (blk_below (bk_ s) hb) (below_step (bl2_ HB D G) hb) hbox (ge_ hg (bl2_ HB D G)) (nl_ hg (bk_ j)) (ng_ hg (bk_ j)) (nl_ hg (bk_ s)) (ng_ hg (bk_ s)) ?_; clear j s HB hb hbox hg; intro j s HB y d1 X e4 Y e5; have k2 := e4.out; have k9 := X.out; have k3 := e5.out; have l1 := Y.out; have j5 := cf3_ y))
       have b4 : Aside0 ((((f4.setCell ⟨u, 0, none⟩ (iv_ ((rd_T88 l m).f0))).setCell ⟨u, 1, none⟩ (iv_ ((rd_T88 l m).f1.f0))).setCell ⟨u, 2, none⟩ (iv_ ((rd_T88 l m).f1.f1))).heap[d4]? = some (.cells #[iv_ I, .slice d2 z.length b1, .slice b0 E.length b2, iv_ J, iv_ L, iv_ M, iv_ O, iv_ T, .slice (some d3) l.length b3, iv_ U] 28 (0, 0))) := ⟨by (with_reducible repeat (first | refine blk_drewN ?_ _ | refine blk_drew ?_ | refine blk_alloc ?_ _)); refine blk_far ?_ X.out _; (with_reducible repeat (first | refine blk_drewN ?_ _ | refine blk_drew ?_ | refine blk_alloc ?_ _)); refine blk_far ?_ X.out _; (with_reducible repeat (first | refine blk_drewN ?_ _ | refine blk_drew ?_ | refine blk_alloc ?_ _)); refine blk_far ?_ X.out _; (with_reducible repeat (first | refine blk_drewN ?_ _ | refine blk_drew ?_ | refine blk_alloc ?_ _)); exact j.out⟩
       have b5 : Aside0 ((((f4.setCell ⟨u, 0, none⟩ (iv_ ((rd_T88 l m).f0))).setCell ⟨u, 1, none⟩ (iv_ ((rd_T88 l m).f1.f0))).setCell ⟨u, 2, none⟩ (iv_ ((rd_T88 l m).f1.f1))).heap[e1]? = some (.cells #[iv_ a9, iv_ d0] 35 (0, 0))) := ⟨by (with_reducible repeat (first | refine blk_drewN ?_ _ | refine blk_drew ?_ | refine blk_alloc ?_ _)); refine blk_far ?_ Y.out _; (with_reducible repeat (first | refine blk_drewN ?_ _ | refine blk_drew ?_ | refine blk_alloc ?_ _)); refine blk_far ?_ Y.out _; (with_reducible repeat (first | refine blk_drewN ?_ _ | refine blk_drew ?_ | refine blk_alloc ?_ _)); refine blk_far ?_ Y.out _; (with_reducible repeat (first | refine blk_drewN ?_ _ | refine blk_drew ?_ | refine blk_alloc ?_ _)); exact s.out⟩
       have b6 : Aside0 ((((f4.setCell ⟨u, 0, none⟩ (iv_ ((rd_T88 l m).f0))).setCell ⟨u, 1, none⟩ (iv_ ((rd_T88 l m).f1.f0))).setCell ⟨u, 2, none⟩ (iv_ ((rd_T88 l m).f1.f1))).heap[u]? = some (.cells #[iv_ ((rd_T88 l m).f0), iv_ ((rd_T88 l m).f1.f0), iv_ ((rd_T88 l m).f1.f1)] 88 (0, 0))) := ⟨by (with_reducible repeat (first | refine blk_drewN ?_ _ | refine blk_drew ?_ | refine blk_alloc ?_ _)); refine blk_put (cs := #[iv_ ((rd_T88 l m).f0), iv_ ((rd_T88 l m).f1.f0), iv_ 0]) ?_ 2 _ rfl; (with_reducible repeat (first | refine blk_drewN ?_ _ | refine blk_drew ?_ | refine blk_alloc ?_ _)); refine blk_put (cs := #[iv_ ((rd_T88 l m).f0), iv_ 0, iv_ 0]) ?_ 1 _ rfl; (with_reducible repeat (first | refine blk_drewN ?_ _ | refine blk_drew ?_ | refine blk_alloc ?_ _)); refine blk_put (cs := #[iv_ 0, iv_ 0, iv_ 0]) ?_ 0 _ rfl; (with_reducible repeat (first | refine blk_drewN ?_ _ | refine blk_drew ?_ | refine blk_alloc ?_ _)); exact y.out⟩
       have b7 : Aside0 (Below w.heap.size w (((f4.setCell ⟨u, 0, none⟩ (iv_ ((rd_T88 l m).f0))).setCell ⟨u, 1, none⟩ (iv_ ((rd_T88 l m).f1.f0))).setCell ⟨u, 2, none⟩ (iv_ ((rd_T88 l m).f1.f1)))) := ⟨bl3_ HB D G d1⟩
       (try clear j)
       (try clear s)
       (try clear y)
       (try clear HB)
       generalize (((f4.setCell ⟨u, 0, none⟩ (iv_ ((rd_T88 l m).f0))).setCell ⟨u, 1, none⟩ (iv_ ((rd_T88 l m).f1.f0))).setCell ⟨u, 2, none⟩ (iv_ ((rd_T88 l m).f1.f1))) = i5 at b4 b5 b6 b7 ⊢
       have j := b4
       have s := b5
       have y := b6
       have HB := b7
       clear b4 b5 b6 b7
       refine sh4_ (blk_drew j.out) (blk_drew s.out) (blk_drew y.out) (below_drew1 HB.out) ?_
       clear j s y HB
       intro j s y HB
       have b9 : 0 ≤ (x : Int) := od_
       have c1 : x < (z.length : Int) := od_
       obtain ⟨B, e8, Z, a0, a3, a4⟩ := at_T72 d8.out x b9 c1
       have a8 := a4
       have a7 := a3
       have a6 := a0
       have a5 := Z
       cases e8
       replace Z := hbc_ HB Z
       replace a0 := hbc_ HB a0
       replace a3 := hbc_ HB a3
       replace a4 := hbc_ HB a4
       replace b9 := eq_true b9
       replace c1 := eq_true c1
       refine start_ (n := 15) (S := fun w' => Ck3 w' u (iv_ ((rd_T88 l m).f0)) (iv_ ((rd_T88 l m).f1.f0)) (iv_ ((rd_T88 l m).f1.f1)) (Ck10 w' d4 (iv_ I) (.slice (some B) z.length b1) (.slice b0 E.length b2) (iv_ J) (iv_ L) (iv_ M) (iv_ O) (iv_ T) (.slice (some d3) l.length b3) (iv_ U) (Ck2 w' e1 (iv_ a9) (iv_ d0) (w'.cell? (B.add ((x).toNat * 4)) = some (iv_ ((rd_T72 z x).f0)) ∧ w'.cell? ⟨(B.add ((x).toNat * 4)).block, (B.add ((x).toNat * 4)).off + 1, none⟩ = some (iv_ ((rd_T72 z x).f1)) ∧ w'.cell? ⟨(B.add ((x).toNat * 4)).block, (B.add ((x).toNat * 4)).off + 2, none⟩ = some (iv_ ((rd_T72 z x).f2)) ∧ w'.cell? ⟨(B.add ((x).toNat * 4)).block, (B.add ((x).toNat * 4)).off + 3, none⟩ = some (iv_ ((rd_T72 z x).f3)))))) (ds := []) (bo_ 15 0) (by kernel_rfl) rfl rfl ⟨(bc_ y 0 rfl), (bc_ y 1 rfl), (bc_ y 2 rfl), (bc_ j 0 rfl), (bc_ j 1 rfl), (bc_ j 2 rfl), (bc_ j 3 rfl), (bc_ j 4 rfl), (bc_ j 5 rfl), (bc_ j 6 rfl), (bc_ j 7 rfl), (bc_ j 8 rfl), (bc_ j 9 rfl), (bc_ s 0 rfl), (bc_ s 1 rfl), ((HB.out.cell (World.block_lt_of_cell? w _ a5)).trans a5), ((HB.out.cell (World.block_lt_of_cell? w _ a6)).trans a6), ((HB.out.cell (World.block_lt_of_cell? w _ a7)).trans a7), ((HB.out.cell (World.block_lt_of_cell? w _ a8)).trans a8)⟩ (fun hHeld => ?_); refine with_tabW impl_MayDisturb.tab7 impl_MayDisturb.bits7 (fun HT_ HW_ => ?_)
       generalize i5.drew = m1 at j s y HB Z a0 a3 a4 hHeld ⊢
       refine pur_ 0 (bo_ 15 1) (some 25) HT_ ?_
       refine pur_ 2 (bo_ 15 5) (some 27) HT_ ?_
       refine pur_ 4 (bo_ 15 21) (some 29) HT_ ?_
       refine tak_ 1 (bo_ 15 23) (some 26) HT_ HW_ hHeld ?_
       refine tak_ 3 (bo_ 15 31) (some 28) HT_ HW_ hHeld ?_
       refine pur_ 5 (bo_ 15 63) (some 30) HT_ ?_
       refine pur_ 6 (bo_ 15 127) (some 31) HT_ ?_
       refine tak_ 7 (bo_ 15 255) (some 32) HT_ HW_ hHeld ?_
       refine pur_ 8 (bo_ 15 511) (some 33) HT_ ?_
       refine pur_ 9 (bo_ 15 1023) (some 34) HT_ ?_
       refine pur_ 11 (bo_ 15 3071) (some 36) HT_ ?_
       refine tak_ 10 (bo_ 15 4095) (some 35) HT_ HW_ hHeld ?_
       refine tak_ 12 (bo_ 15 8191) (some 37) HT_ HW_ hHeld ?_
       refine onc_ 13 (bo_ 15 16383) (some 38) HT_ Try.func75 (impl_ArcsMeet.calls k1 a9 d0 ((rd_T88 l m).f1.f0) ((rd_T88 l m).f1.f1) true _ g5.out) ?_
       rintro e m2 ⟨rfl, hb⟩
       refine sh4_ (blk_below (bk_ j) hb) (blk_below (bk_ s) hb) (blk_below (bk_ y) hb) (below_step (bl3_ HB D G d1) hb) ?_
       clear j s y HB hb
       intro j s y HB
       refine ⟨_, _, rfl, ⟨(bc_ y 0 rfl), (bc_ y 1 rfl), (bc_ y 2 rfl), (bc_ j 0 rfl), (bc_ j 1 rfl), (bc_ j 2 rfl), (bc_ j 3 rfl), (bc_ j 4 rfl), (bc_ j 5 rfl), (bc_ j 6 rfl), (bc_ j 7 rfl), (bc_ j 8 rfl), (bc_ j 9 rfl), (bc_ s 0 rfl), (bc_ s 1 rfl), ((HB.out.cell (World.block_lt_of_cell? w _ a5)).trans a5), ((HB.out.cell (World.block_lt_of_cell? w _ a6)).trans a6), ((HB.out.cell (World.block_lt_of_cell? w _ a7)).trans a7), ((HB.out.cell (World.block_lt_of_cell? w _ a8)).trans a8)⟩, pt_, fun hHeld => ?_⟩
       refine pur_ 14 (bo_ 15 32767) (some 39) HT_ ?_
       refine done_ (done_of HT_.out (by kernel_rfl)) ?_
       try go_wp2
       go_ret
       exact ⟨by first | (rw [hRT_.out]; rfl) | exact er_, bl3_ HB D G d1⟩
      ·replace f8 := Bool.eq_false_iff.mpr f8
       subst f8
       have H1 : (impl_MayDisturb.l0 k1 x l (l.length : Int) (wrap64 (m + 1)) I z E J L M O T l U a9 d0) = some r := by rw [if_neg (show ¬ (false = true) by decide)] at H; exact H
       clear H
       have H := H1
       clear H1
       have H' := Aside0.mk H
       clear H
       have b8 : 0 ≤ (m : Int) := od_
       have c0 : m < (l.length : Int) := od_
       obtain ⟨d3, e7, d5, d6, d7⟩ := at_T88 d9.out m b8 c0
       cases e7
       replace d5 := hbc_ HB d5
       replace d6 := hbc_ HB d6
       replace d7 := hbc_ HB d7
       replace b8 := eq_true b8
       replace c0 := eq_true c0
       try go_wp2_with (first | ((with_reducible refine gd_ 9 ?_); refine bx_ 9 88 #[iv_ 0, iv_ 0, iv_ 0] ?_; intro u hg f5 hbox hb; refine sh9_ (blk_below (bk_ j) hb) (blk_below (bk_ s) hb) (below_step (bl2_ HB D G) hb) hbox (ge_ hg (bl2_ HB D G)) (nl_ hg (bk_ j)) (ng_ hg (bk_ j)) (nl_ hg (bk_ s)) (ng_ hg (bk_ s)) ?_; clear j s HB hb hbox hg; intro j s HB y d1 X e4 Y e5; have k4 := e4.out; have l2 := X.out; have k5 := e5.out; have l3 := Y.out; have j6 := cf3_ y))
       have b4 : Aside0 ((((f5.setCell ⟨u, 0, none⟩ (iv_ ((rd_T88 l m).f0))).setCell ⟨u, 1, none⟩ (iv_ ((rd_T88 l m).f1.f0))).setCell ⟨u, 2, none⟩ (iv_ ((rd_T88 l m).f1.f1))).heap[d4]? = some (.cells #[iv_ I, .slice d2 z.length b1, .slice b0 E.length b2, iv_ J, iv_ L, iv_ M, iv_ O, iv_ T, .slice (some d3) l.length b3, iv_ U] 28 (0, 0))) := ⟨by (with_reducible repeat (first | refine blk_drewN ?_ _ | refine blk_drew ?_ | refine blk_alloc ?_ _)); refine blk_far ?_ X.out _; (with_reducible repeat (first | refine blk_drewN ?_ _ | refine blk_drew ?_ | refine blk_alloc ?_ _)); refine blk_far ?_ X.out _; (with_reducible repeat (first | refine blk_drewN ?_ _ | refine blk_drew ?_ | refine blk_alloc ?_ _)); refine blk_far ?_ X.out _; (with_reducible repeat (first | refine blk_drewN ?_ _ | refine blk_drew ?_ | refine blk_alloc ?_ _)); exact j.out⟩
       have b5 : Aside0 ((((f5.setCell ⟨u, 0, none⟩ (iv_ ((rd_T88 l m).f0))).setCell ⟨u, 1, none⟩ (iv_ ((rd_T88 l m).f1.f0))).setCell ⟨u, 2, none⟩ (iv_ ((rd_T88 l m).f1.f1))).heap[e1]? = some (.cells #[iv_ a9, iv_ d0] 35 (0, 0))) := ⟨by (with_reducible repeat (first | refine blk_drewN ?_ _ | refine blk_drew ?_ | refine blk_alloc ?_ _)); refine blk_far ?_ Y.out _; (with_reducible repeat (first | refine blk_drewN ?_ _ | refine blk_drew ?_ | refine blk_alloc ?_ _)); refine blk_far ?_ Y.out _; (with_reducible repeat (first | refine blk_drewN ?_ _ | refine blk_drew ?_ | refine blk_alloc ?_ _)); refine blk_far ?_ Y.out _; (with_reducible repeat (first | refine blk_drewN ?_ _ | refine blk_drew ?_ | refine blk_alloc ?_ _)); exact s.out⟩
       have b6 : Aside0 ((((f5.setCell ⟨u, 0, none⟩ (iv_ ((rd_T88 l m).f0))).setCell ⟨u, 1, none⟩ (iv_ ((rd_T88 l m).f1.f0))).setCell ⟨u, 2, none⟩ (iv_ ((rd_T88 l m).f1.f1))).heap[u]? = some (.cells #[iv_ ((rd_T88 l m).f0), iv_ ((rd_T88 l m).f1.f0), iv_ ((rd_T88 l m).f1.f1)] 88 (0, 0))) := ⟨by (with_reducible repeat (first | refine blk_drewN ?_ _ | refine blk_drew ?_ | refine blk_alloc ?_ _)); refine blk_put (cs := #[iv_ ((rd_T88 l m).f0), iv_ ((rd_T88 l m).f1.f0), iv_ 0]) ?_ 2 _ rfl; (with_reducible repeat (first | refine blk_drewN ?_ _ | refine blk_drew ?_ | refine blk_alloc ?_ _)); refine blk_put (cs := #[iv_ ((rd_T88 l m).f0), iv_ 0, iv_ 0]) ?_ 1 _ rfl; (with_reducible repeat (first | refine blk_drewN ?_ _ | refine blk_drew ?_ | refine blk_alloc ?_ _)); refine blk_put (cs := #[iv_ 0, iv_ 0, iv_ 0]) ?_ 0 _ rfl; (with_reducible repeat (first | refine blk_drewN ?_ _ | refine blk_drew ?_ | refine blk_alloc ?_ _)); exact y.out⟩
       have b7 : Aside0 (Below w.heap.size w (((f5.setCell ⟨u, 0, none⟩ (iv_ ((rd_T88 l m).f0))).setCell ⟨u, 1, none⟩ (iv_ ((rd_T88 l m).f1.f0))).setCell ⟨u, 2, none⟩ (iv_ ((rd_T88 l m).f1.f1)))) := ⟨bl3_ HB D G d1⟩
       (try clear j)
       (try clear s)
       (try clear y)
       (try clear HB)
       generalize (((f5.setCell ⟨u, 0, none⟩ (iv_ ((rd_T88 l m).f0))).setCell ⟨u, 1, none⟩ (iv_ ((rd_T88 l m).f1.f0))).setCell ⟨u, 2, none⟩ (iv_ ((rd_T88 l m).f1.f1))) = i6 at b4 b5 b6 b7 ⊢
       have j := b4
       have s := b5
       have y := b6
       have HB := b7
       clear b4 b5 b6 b7
       refine sh4_ (blk_drew j.out) (blk_drew s.out) (blk_drew y.out) (below_drew1 HB.out) ?_
       clear j s y HB
       intro j s y HB
       have b9 : 0 ≤ (x : Int) := od_
       have c1 : x < (z.length : Int) := od_
       obtain ⟨B, e8, Z, a0, a3, a4⟩ := at_T72 d8.out x b9 c1
       have a8 := a4
       have a7 := a3
       have a6 := a0
       have a5 := Z
       cases e8
       replace Z := hbc_ HB Z
       replace a0 := hbc_ HB a0
       replace a3 := hbc_ HB a3
       replace a4 := hbc_ HB a4
       replace b9 := eq_true b9
       replace c1 := eq_true c1
       refine start_ (n := 15) (S := fun w' => Ck3 w' u (iv_ ((rd_T88 l m).f0)) (iv_ ((rd_T88 l m).f1.f0)) (iv_ ((rd_T88 l m).f1.f1)) (Ck10 w' d4 (iv_ I) (.slice (some B) z.length b1) (.slice b0 E.length b2) (iv_ J) (iv_ L) (iv_ M) (iv_ O) (iv_ T) (.slice (some d3) l.length b3) (iv_ U) (Ck2 w' e1 (iv_ a9) (iv_ d0) (w'.cell? (B.add ((x).toNat * 4)) = some (iv_ ((rd_T72 z x).f0)) ∧ w'.cell? ⟨(B.add ((x).toNat * 4)).block, (B.add ((x).toNat * 4)).off + 1, none⟩ = some (iv_ ((rd_T72 z x).f1)) ∧ w'.cell? ⟨(B.add ((x).toNat * 4)).block, (B.add ((x).toNat * 4)).off + 2, none⟩ = some (iv_ ((rd_T72 z x).f2)) ∧ w'.cell? ⟨(B.add ((x).toNat * 4)).block, (B.add ((x).toNat * 4)).off + 3, none⟩ = some (iv_ ((rd_T72 z x).f3)))))) (ds := []) (bo_ 15 0) (by kernel_rfl) rfl rfl ⟨(bc_ y 0 rfl), (bc_ y 1 rfl), (bc_ y 2 rfl), (bc_ j 0 rfl), (bc_ j 1 rfl), (bc_ j 2 rfl), (bc_ j 3 rfl), (bc_ j 4 rfl), (bc_ j 5 rfl), (bc_ j 6 rfl), (bc_ j 7 rfl), (bc_ j 8 rfl), (bc_ j 9 rfl), (bc_ s 0 rfl), (bc_ s 1 rfl), ((HB.out.cell (World.block_lt_of_cell? w _ a5)).trans a5), ((HB.out.cell (World.block_lt_of_cell? w _ a6)).trans a6), ((HB.out.cell (World.block_lt_of_cell? w _ a7)).trans a7), ((HB.out.cell (World.block_lt_of_cell? w _ a8)).trans a8)⟩ (fun hHeld => ?_); refine with_tabW impl_MayDisturb.tab7 impl_MayDisturb.bits7 (fun HT_ HW_ => ?_)
       generalize i6.drew = m3 at j s y HB Z a0 a3 a4 hHeld ⊢
       refine pur_ 0 (bo_ 15 1) (some 25) HT_ ?_
       refine pur_ 2 (bo_ 15 5) (some 27) HT_ ?_
       refine pur_ 4 (bo_ 15 21) (some 29) HT_ ?_
       refine tak_ 1 (bo_ 15 23) (some 26) HT_ HW_ hHeld ?_
       refine tak_ 3 (bo_ 15 31) (some 28) HT_ HW_ hHeld ?_
       refine pur_ 5 (bo_ 15 63) (some 30) HT_ ?_
       refine pur_ 6 (bo_ 15 127) (some 31) HT_ ?_
       refine tak_ 7 (bo_ 15 255) (some 32) HT_ HW_ hHeld ?_
       refine pur_ 8 (bo_ 15 511) (some 33) HT_ ?_
       refine pur_ 9 (bo_ 15 1023) (some 34) HT_ ?_
       refine pur_ 11 (bo_ 15 3071) (some 36) HT_ ?_
       refine tak_ 10 (bo_ 15 4095) (some 35) HT_ HW_ hHeld ?_
       refine tak_ 12 (bo_ 15 8191) (some 37) HT_ HW_ hHeld ?_
       refine onc_ 13 (bo_ 15 16383) (some 38) HT_ Try.func75 (impl_ArcsMeet.calls k1 a9 d0 ((rd_T88 l m).f1.f0) ((rd_T88 l m).f1.f1) false _ g5.out) ?_
       rintro e m4 ⟨rfl, hb⟩
       refine sh4_ (blk_below (bk_ j) hb) (blk_below (bk_ s) hb) (blk_below (bk_ y) hb) (below_step (bl3_ HB D G d1) hb) ?_
       clear j s y HB hb
       intro j s y HB
       refine ⟨_, _, rfl, ⟨(bc_ y 0 rfl), (bc_ y 1 rfl), (bc_ y 2 rfl), (bc_ j 0 rfl), (bc_ j 1 rfl), (bc_ j 2 rfl), (bc_ j 3 rfl), (bc_ j 4 rfl), (bc_ j 5 rfl), (bc_ j 6 rfl), (bc_ j 7 rfl), (bc_ j 8 rfl), (bc_ j 9 rfl), (bc_ s 0 rfl), (bc_ s 1 rfl), ((HB.out.cell (World.block_lt_of_cell? w _ a5)).trans a5), ((HB.out.cell (World.block_lt_of_cell? w _ a6)).trans a6), ((HB.out.cell (World.block_lt_of_cell? w _ a7)).trans a7), ((HB.out.cell (World.block_lt_of_cell? w _ a8)).trans a8)⟩, pt_, fun hHeld => ?_⟩
       refine pur_ 14 (bo_ 15 32767) (some 39) HT_ ?_
       refine done_ (done_of HT_.out (by kernel_rfl)) ?_
       try go_wp2
       go_roundg k1
       case measure => have := f7.out; omega
       case rel => exact ⟨(wrap64 (m + 1)), (by first | rfl | (simp; done) | (simp [*]; done)), H', ⟨by have := f7.out; omega⟩, ⟨by (with_reducible repeat (first | refine blk_drewN ?_ _ | refine blk_drew ?_ | refine blk_alloc ?_ _)); exact j.out⟩, ⟨by (with_reducible repeat (first | refine blk_drewN ?_ _ | refine blk_drew ?_ | refine blk_alloc ?_ _)); exact s.out⟩, ⟨bl3_ HB D G d1⟩⟩
     ·rw [if_neg e6] at H
      obtain ⟨i0, i1⟩ := bn_ e6
      have H' := Aside0.mk H
      clear H
      have b8 : 0 ≤ (m : Int) := od_
      have c0 : m < (l.length : Int) := od_
      obtain ⟨d3, e7, d5, d6, d7⟩ := at_T88 d9.out m b8 c0
      cases e7
      replace d5 := hbc_ HB d5
      replace d6 := hbc_ HB d6
      replace d7 := hbc_ HB d7
      replace b8 := eq_true b8
      replace c0 := eq_true c0
      try go_wp2_with (first | ((with_reducible refine gd_ 9 ?_); refine bx_ 9 88 #[iv_ 0, iv_ 0, iv_ 0] ?_; intro u hg f6 hbox hb; refine sh9_ (blk_below (bk_ j) hb) (blk_below (bk_ s) hb) (below_step (bl2_ HB D G) hb) hbox (ge_ hg (bl2_ HB D G)) (nl_ hg (bk_ j)) (ng_ hg (bk_ j)) (nl_ hg (bk_ s)) (ng_ hg (bk_ s)) ?_; clear j s HB hb hbox hg; intro j s HB y d1 X e4 Y e5; have k6 := e4.out; have l4 := X.out; have k7 := e5.out; have l5 := Y.out; have j7 := cf3_ y))
      have b4 : Aside0 ((((f6.setCell ⟨u, 0, none⟩ (iv_ ((rd_T88 l m).f0))).setCell ⟨u, 1, none⟩ (iv_ ((rd_T88 l m).f1.f0))).setCell ⟨u, 2, none⟩ (iv_ ((rd_T88 l m).f1.f1))).heap[d4]? = some (.cells #[iv_ I, .slice d2 z.length b1, .slice b0 E.length b2, iv_ J, iv_ L, iv_ M, iv_ O, iv_ T, .slice (some d3) l.length b3, iv_ U] 28 (0, 0))) := ⟨by (with_reducible repeat (first | refine blk_drewN ?_ _ | refine blk_drew ?_ | refine blk_alloc ?_ _)); refine blk_far ?_ X.out _; (with_reducible repeat (first | refine blk_drewN ?_ _ | refine blk_drew ?_ | refine blk_alloc ?_ _)); refine blk_far ?_ X.out _; (with_reducible repeat (first | refine blk_drewN ?_ _ | refine blk_drew ?_ | refine blk_alloc ?_ _)); refine blk_far ?_ X.out _; (with_reducible repeat (first | refine blk_drewN ?_ _ | refine blk_drew ?_ | refine blk_alloc ?_ _)); exact j.out⟩
      have b5 : Aside0 ((((f6.setCell ⟨u, 0, none⟩ (iv_ ((rd_T88 l m).f0))).setCell ⟨u, 1, none⟩ (iv_ ((rd_T88 l m).f1.f0))).setCell ⟨u, 2, none⟩ (iv_ ((rd_T88 l m).f1.f1))).heap[e1]? = some (.cells #[iv_ a9, iv_ d0] 35 (0, 0))) := ⟨by (with_reducible repeat (first | refine blk_drewN ?_ _ | refine blk_drew ?_ | refine blk_alloc ?_ _)); refine blk_far ?_ Y.out _; (with_reducible repeat (first | refine blk_drewN ?_ _ | refine blk_drew ?_ | refine blk_alloc ?_ _)); refine blk_far ?_ Y.out _; (with_reducible repeat (first | refine blk_drewN ?_ _ | refine blk_drew ?_ | refine blk_alloc ?_ _)); refine blk_far ?_ Y.out _; (with_reducible repeat (first | refine blk_drewN ?_ _ | refine blk_drew ?_ | refine blk_alloc ?_ _)); exact s.out⟩
      have b6 : Aside0 ((((f6.setCell ⟨u, 0, none⟩ (iv_ ((rd_T88 l m).f0))).setCell ⟨u, 1, none⟩ (iv_ ((rd_T88 l m).f1.f0))).setCell ⟨u, 2, none⟩ (iv_ ((rd_T88 l m).f1.f1))).heap[u]? = some (.cells #[iv_ ((rd_T88 l m).f0), iv_ ((rd_T88 l m).f1.f0), iv_ ((rd_T88 l m).f1.f1)] 88 (0, 0))) := ⟨by (with_reducible repeat (first | refine blk_drewN ?_ _ | refine blk_drew ?_ | refine blk_alloc ?_ _)); refine blk_put (cs := #[iv_ ((rd_T88 l m).f0), iv_ ((rd_T88 l m).f1.f0), iv_ 0]) ?_ 2 _ rfl; (with_reducible repeat (first | refine blk_drewN ?_ _ | refine blk_drew ?_ | refine blk_alloc ?_ _)); refine blk_put (cs := #[iv_ ((rd_T88 l m).f0), iv_ 0, iv_ 0]) ?_ 1 _ rfl; (with_reducible repeat (first | refine blk_drewN ?_ _ | refine blk_drew ?_ | refine blk_alloc ?_ _)); refine blk_put (cs := #[iv_ 0, iv_ 0, iv_ 0]) ?_ 0 _ rfl; (with_reducible repeat (first | refine blk_drewN ?_ _ | refine blk_drew ?_ | refine blk_alloc ?_ _)); exact y.out⟩
      have b7 : Aside0 (Below w.heap.size w (((f6.setCell ⟨u, 0, none⟩ (iv_ ((rd_T88 l m).f0))).setCell ⟨u, 1, none⟩ (iv_ ((rd_T88 l m).f1.f0))).setCell ⟨u, 2, none⟩ (iv_ ((rd_T88 l m).f1.f1)))) := ⟨bl3_ HB D G d1⟩
      (try clear j)
      (try clear s)
      (try clear y)
      (try clear HB)
      generalize (((f6.setCell ⟨u, 0, none⟩ (iv_ ((rd_T88 l m).f0))).setCell ⟨u, 1, none⟩ (iv_ ((rd_T88 l m).f1.f0))).setCell ⟨u, 2, none⟩ (iv_ ((rd_T88 l m).f1.f1))) = i7 at b4 b5 b6 b7 ⊢
      have j := b4
      have s := b5
      have y := b6
      have HB := b7
      clear b4 b5 b6 b7
      refine sh4_ (blk_drew j.out) (blk_drew s.out) (blk_drew y.out) (below_drew1 HB.out) ?_
      clear j s y HB
      intro j s y HB
      have b9 : 0 ≤ (x : Int) := od_
      have c1 : x < (z.length : Int) := od_
      obtain ⟨B, e8, Z, a0, a3, a4⟩ := at_T72 d8.out x b9 c1
      have a8 := a4
      have a7 := a3
      have a6 := a0
      have a5 := Z
      cases e8
      replace Z := hbc_ HB Z
      replace a0 := hbc_ HB a0
      replace a3 := hbc_ HB a3
      replace a4 := hbc_ HB a4
      replace b9 := eq_true b9
      replace c1 := eq_true c1
      refine start_ (n := 15) (S := fun w' => Ck3 w' u (iv_ ((rd_T88 l m).f0)) (iv_ ((rd_T88 l m).f1.f0)) (iv_ ((rd_T88 l m).f1.f1)) (Ck10 w' d4 (iv_ I) (.slice (some B) z.length b1) (.slice b0 E.length b2) (iv_ J) (iv_ L) (iv_ M) (iv_ O) (iv_ T) (.slice (some d3) l.length b3) (iv_ U) (w'.cell? (B.add ((x).toNat * 4)) = some (iv_ ((rd_T72 z x).f0)) ∧ w'.cell? ⟨(B.add ((x).toNat * 4)).block, (B.add ((x).toNat * 4)).off + 1, none⟩ = some (iv_ ((rd_T72 z x).f1)) ∧ w'.cell? ⟨(B.add ((x).toNat * 4)).block, (B.add ((x).toNat * 4)).off + 2, none⟩ = some (iv_ ((rd_T72 z x).f2)) ∧ w'.cell? ⟨(B.add ((x).toNat * 4)).block, (B.add ((x).toNat * 4)).off + 3, none⟩ = some (iv_ ((rd_T72 z x).f3))))) (ds := []) (bo_ 15 0) (by kernel_rfl) rfl rfl ⟨(bc_ y 0 rfl), (bc_ y 1 rfl), (bc_ y 2 rfl), (bc_ j 0 rfl), (bc_ j 1 rfl), (bc_ j 2 rfl), (bc_ j 3 rfl), (bc_ j 4 rfl), (bc_ j 5 rfl), (bc_ j 6 rfl), (bc_ j 7 rfl), (bc_ j 8 rfl), (bc_ j 9 rfl), ((HB.out.cell (World.block_lt_of_cell? w _ a5)).trans a5), ((HB.out.cell (World.block_lt_of_cell? w _ a6)).trans a6), ((HB.out.cell (World.block_lt_of_cell? w _ a7)).trans a7), ((HB.out.cell (World.block_lt_of_cell? w _ a8)).trans a8)⟩ (fun hHeld => ?_); refine with_tabW impl_MayDisturb.tab7 impl_MayDisturb.bits7 (fun HT_ HW_ => ?_)
      generalize i7.drew = m5 at j s y HB Z a0 a3 a4 hHeld ⊢
      refine pur_ 0 (bo_ 15 1) (some 25) HT_ ?_
      refine pur_ 2 (bo_ 15 5) (some 27) HT_ ?_
      refine pur_ 4 (bo_ 15 21) (some 29) HT_ ?_
      refine tak_ 1 (bo_ 15 23) (some 26) HT_ HW_ hHeld ?_
      refine tak_ 3 (bo_ 15 31) (some 28) HT_ HW_ hHeld ?_
      refine pur_ 5 (bo_ 15 63) (some 30) HT_ ?_
      refine pur_ 6 (bo_ 15 127) (some 31) HT_ ?_
      refine tak_ 7 (bo_ 15 255) (some 32) HT_ HW_ hHeld ?_
      refine pur_ 8 (bo_ 15 511) (some 33) HT_ ?_
      refine pur_ 9 (bo_ 15 1023) (some 34) HT_ ?_
      refine pure_ (i := 10) (N := some 35) (v := undef) (a' := ?_) (bo_ 15 2047) rfl rfl (any_of HT_.out (by kernel_rfl)) (fun _ _ _ h => h) (Or.inr ⟨by rfl, rfl⟩) ?_ ?_
      rotate_left
      ·simp only [Act.put, List.setIfInBounds_toArray, List.set_cons_zero, List.set_cons_succ, i64_w, i32_w]
       rfl
      refine pure_ (i := 11) (N := some 36) (v := undef) (a' := ?_) (bo_ 15 4095) rfl rfl (any_of HT_.out (by kernel_rfl)) (fun _ _ _ h => h) (Or.inr ⟨by rfl, rfl⟩) ?_ ?_
      rotate_left
      ·simp only [Act.put, List.setIfInBounds_toArray, List.set_cons_zero, List.set_cons_succ, i64_w, i32_w]
       rfl
      refine pure_ (i := 12) (N := some 37) (v := undef) (a' := ?_) (bo_ 15 8191) rfl rfl (any_of HT_.out (by kernel_rfl)) (fun _ _ _ h => h) (Or.inr ⟨by rfl, rfl⟩) ?_ ?_
      rotate_left
      ·simp only [Act.put, List.setIfInBounds_toArray, List.set_cons_zero, List.set_cons_succ, i64_w, i32_w]
       rfl
      refine pure_ (i := 13) (N := some 38) (v := undef) (a' := ?_) (bo_ 15 16383) rfl rfl (any_of HT_.out (by kernel_rfl)) (fun _ _ _ h => h) (Or.inr ⟨by rfl, rfl⟩) ?_ ?_
      rotate_left
      ·simp only [Act.put, List.setIfInBounds_toArray, List.set_cons_zero, List.set_cons_succ, i64_w, i32_w]
       rfl
      refine pur_ 14 (bo_ 15 32767) (some 39) HT_ ?_
      refine done_ (done_of HT_.out (by kernel_rfl)) ?_
      try go_wp2
      go_roundg k1
      case measure => have := f7.out; omega
      case rel => exact ⟨(wrap64 (m + 1)), (by first | rfl | (simp; done) | (simp [*]; done)), H', ⟨by have := f7.out; omega⟩, ⟨by (with_reducible repeat (first | refine blk_drewN ?_ _ | refine blk_drew ?_ | refine blk_alloc ?_ _)); exact j.out⟩, ⟨by (with_reducible repeat (first | refine blk_drewN ?_ _ | refine blk_drew ?_ | refine blk_alloc ?_ _)); exact s.out⟩, ⟨bl3_ HB D G d1⟩⟩
    ·rw [if_neg e0] at H
     have h9 : decide (m < (l.length : Int)) = false := decide_eq_false e0
     clear e0
     obtain rfl := Option.some.inj H
     go_wp2
     go_ret
     exact ⟨by first | (rw [hRT_.out]; rfl) | exact er_, bl2_ HB D G⟩
 ·replace c5 := Bool.eq_false_iff.mpr c5
  subst c5
  have H1 : (some false) = some r := by rw [if_neg (show ¬ (false = true) by decide)] at H; exact H
  clear H
  have H := H1
  clear H1
  obtain rfl := Option.some.inj H
  go_enter Try.func31, Try.ntmps31
  go_wp2_with (first | ((with_reducible refine gd_ 3 ?_); refine bx_ 3 28 #[iv_ I, .slice d2 z.length b1, .slice b0 E.length b2, iv_ J, iv_ L, iv_ M, iv_ O, iv_ T, .slice e2 l.length b3, iv_ U] ?_; intro d4 hg m6 hbox hb; refine sh3_ (below_step (bl_ HB) hb) hbox (ge_ hg (bl_ HB)) ?_; clear HB hb hbox hg; intro HB j D; have j8 := cf10_ j) | ((with_reducible refine gate_callee (f := 53) rfl ?_); refine gl_ 12 Try.func53 (impl_isSatellite.calls I _ _ z _ _ E J L M O T _ _ l U x false _ (ck_ d8 HB) f9.out (ck_ g2 HB) g0.out (ck_ d9 HB) g1.out A4.out) ?_; rintro e m7 ⟨rfl, hb⟩; refine ⟨_, rfl, sh2_ (blk_below (bk_ j) hb) (below_step (bl1_ HB D) hb) ?_⟩; clear j HB hb; intro j HB))
  go_ret
  exact ⟨by first | (rw [hRT_.out]; rfl) | exact er_, bl1_ HB D⟩

/-! ### impl_QuietSpans_1: function 74 -/
def impl_QuietSpans_1.f (k : Nat) (j l : Int) (D : List S72) (E : List S74) (m s u x y : Int) (G : List S88) (z B : Int) : Option (Bool) := (impl_MayDisturb.f k l D E m s u x y G z B j).bind fun I => (some I)
theorem impl_QuietSpans_1.calls (k : Nat) (T x : Int) (J : Option Addr) (U : Nat) (m : List S72) (L : Option Addr) (X : Nat) (s : List S74) (y z B D E : Int) (M : Option Addr) (Y : Nat) (u : List S88) (G I : Int) (r : Bool) (w : World) (j : Nat) (l : w.heap[j]? = some (.cells #[iv_ x, .slice J m.length U, .slice L s.length X, iv_ y, iv_ z, iv_ B, iv_ D, iv_ E, .slice M u.length Y, iv_ G] 28 (0, 0))) (O : Nat) (b4 : w.heap[O]? = some (.cells #[iv_ I] 3 (0, 0))) (a4 : Kd.C k72 w J m.length m) (Z : m.length ≤ U) (a5 : Kd.C k74 w L s.length s) (a1 : s.length ≤ X) (a6 : Kd.C k88 w M u.length u) (a3 : u.length ≤ Y) (h : impl_QuietSpans_1.f k T x m s y z B D E u G I = some r) :
  Calls Try.prog 74 #[iv_ T, .pointer (some ⟨j, 0, none⟩), .pointer (some ⟨O, 0, none⟩)] w fun e w' => e = .returned (.bool r) ∧ Below w.heap.size w w' := by
 have b6 : w.cell? ⟨j, 0, none⟩ = some (iv_ x) := (blk_cell l 0).trans rfl
 have b7 : w.cell? ⟨j, 1, none⟩ = some (.slice J m.length U) := (blk_cell l 1).trans rfl
 have b8 : w.cell? ⟨j, 2, none⟩ = some (.slice L s.length X) := (blk_cell l 2).trans rfl
 have b9 : w.cell? ⟨j, 3, none⟩ = some (iv_ y) := (blk_cell l 3).trans rfl
 have c0 : w.cell? ⟨j, 4, none⟩ = some (iv_ z) := (blk_cell l 4).trans rfl
 have c1 : w.cell? ⟨j, 5, none⟩ = some (iv_ B) := (blk_cell l 5).trans rfl
 have d0 : w.cell? ⟨j, 6, none⟩ = some (iv_ D) := (blk_cell l 6).trans rfl
 have d1 : w.cell? ⟨j, 7, none⟩ = some (iv_ E) := (blk_cell l 7).trans rfl
 have d2 : w.cell? ⟨j, 8, none⟩ = some (.slice M u.length Y) := (blk_cell l 8).trans rfl
 have d3 : w.cell? ⟨j, 9, none⟩ = some (iv_ G) := (blk_cell l 9).trans rfl
 have d4 : w.cell? ⟨O, 0, none⟩ = some (iv_ I) := (blk_cell b4 0).trans rfl
 have b1 := Aside0.mk a4
 have a8 := Aside0.mk Z
 clear a4 Z
 have b2 := Aside0.mk a5
 have a9 := Aside0.mk a1
 clear a5 a1
 have b3 := Aside0.mk a6
 have b0 := Aside0.mk a3
 clear a6 a3
 have HB := Aside0.mk (Below.refl w.heap.size w)
 have H := h
 clear h
 unfold impl_QuietSpans_1.f at H
 replace H := bs_ H
 obtain ⟨b5, A4, H⟩ := H
 obtain rfl := Option.some.inj H
 go_enter Try.func74, Try.ntmps74
 go_wp2_with (first | ((with_reducible refine gate_callee (f := 31) rfl ?_); refine gl_ 8 Try.func31 (impl_MayDisturb.calls k x _ _ m _ _ s y z B D E _ _ u G I T b5 _ (cq_ b1) a8.out (cq_ b2) a9.out (cq_ b3) b0.out A4.out) ?_; rintro e w5 ⟨rfl, hb⟩; refine ⟨_, rfl, sh1_ (below_step (bl_ HB) hb) ?_⟩; clear HB hb; intro HB))
 go_ret
 exact ⟨by first | (rw [hRT_.out]; rfl) | exact er_, bl_ HB⟩


def where_impl_QuietSpans_1.f (k : Nat) (G I j : Int) (B : List S72) (D : List S74) (l m s u x : Int) (E : List S88) (y z : Int) : Option (List S82) := sw.f (fun k' t' => impl_QuietSpans_1.f k' t' j B D l m s u x E y z) k G I
theorem where_impl_QuietSpans_1.calls (k : Nat) (X Y s : Int) (G : Option Addr) (O : Nat) (j : List S72) (I : Option Addr) (T : Nat) (l : List S74) (u x y z B : Int) (J : Option Addr) (U : Nat) (m : List S88) (D E : Int) (r : List S82) (w : World) (L : Nat) (a0 : w.heap[L]? = some (.cells #[iv_ s, .slice G j.length O, .slice I l.length T, iv_ u, iv_ x, iv_ y, iv_ z, iv_ B, .slice J m.length U, iv_ D] 28 (0, 0))) (M : Nat) (a3 : w.heap[M]? = some (.cells #[iv_ E] 3 (0, 0))) (a8 : Kd.C k72 w G j.length j) (a5 : j.length ≤ O) (a9 : Kd.C k74 w I l.length l) (a6 : l.length ≤ T) (b0 : Kd.C k88 w J m.length m) (a7 : m.length ≤ U) (h : where_impl_QuietSpans_1.f k X Y s j l u x y z B m D E = some r) :
  Calls Try.prog 61 #[iv_ X, iv_ Y, .func (.func 74) #[] #[.pointer (some ⟨L, 0, none⟩), .pointer (some ⟨M, 0, none⟩)]] w fun e w' => ∃ Z : Value, e = .returned (Z) ∧ Kd.R k82 82 w' w.heap.size (fun _ => True) Z r ∧ Below w.heap.size w w' := by
 refine sw.calls (fun k' t' => impl_QuietSpans_1.f k' t' s j l u x y z B m D E) k X Y r w 74 _ (fun args w => enters_ Try.func74 (by kernel_rfl) rfl args w) (fun k' t b W hq hb => ?_) h
 have a1 := blk_below a0 hb
 have a4 := blk_below a3 hb
 have hh := impl_QuietSpans_1.calls k' t s G O j I T l u x y z B J U m D E b W L a1 M a4 (Kd.C_below a8 hb) a5 (Kd.C_below a9 hb) a6 (Kd.C_below b0 hb) a7 hq
 exact hh.mono (fun e w' hx => ⟨hx.1, hx.2⟩)

/-! ### impl_QuietSpans: function 29 -/
def impl_QuietSpans.f (k : Nat) (j : Int) (E : List S72) (G : List S74) (l m s u x : Int) (I : List S88) (y z B D : Int) : Option (List S82) := (where_impl_QuietSpans_1.f k B D j E G l m s u x I y z).bind fun J => (some J)
theorem impl_QuietSpans.calls (k : Nat) (u : Int) (I : Option Addr) (T : Nat) (j : List S72) (J : Option Addr) (U : Nat) (l : List S74) (x y z B D : Int) (L : Option Addr) (X : Nat) (m : List S88) (E G M O : Int) (r : List S82) (w : World) (a6 : Kd.C k72 w I j.length j) (Z : j.length ≤ T) (a7 : Kd.C k74 w J l.length l) (a0 : l.length ≤ U) (a8 : Kd.C k88 w L m.length m) (a4 : m.length ≤ X) (h : impl_QuietSpans.f k u j l x y z B D m E G M O = some r) :
  Calls Try.prog 29 #[.agg #[iv_ u, .slice I j.length T, .slice J l.length U, iv_ x, iv_ y, iv_ z, iv_ B, iv_ D, .slice L m.length X, iv_ E], iv_ G, iv_ M, iv_ O] w fun e w' => ∃ b0 : Value, e = .returned (b0) ∧ Kd.R k82 82 w' w.heap.size (fun _ => True) b0 r ∧ Below w.heap.size w w' := by
 have b7 := Aside0.mk a6
 have b3 := Aside0.mk Z
 clear a6 Z
 have b8 := Aside0.mk a7
 have b4 := Aside0.mk a0
 clear a7 a0
 have b9 := Aside0.mk a8
 have b5 := Aside0.mk a4
 clear a8 a4
 have HB := Aside0.mk (Below.refl w.heap.size w)
 have H := h
 clear h
 unfold impl_QuietSpans.f at H
 replace H := bs_ H
 obtain ⟨d0, A5, H⟩ := H
 obtain rfl := Option.some.inj H
 go_enter Try.func29, Try.ntmps29
 go_wp2_with (first | ((with_reducible refine gd_ 4 ?_); refine bx_ 4 28 #[iv_ u, .slice I j.length T, .slice J l.length U, iv_ x, iv_ y, iv_ z, iv_ B, iv_ D, .slice L m.length X, iv_ E] ?_; intro c0 hg d3 hbox hb; refine sh1_ (below_step HB.out hb) ?_; clear HB; intro HB; have s := Aside0.mk hbox; clear hb hg hbox) | ((with_reducible refine gd_ 5 ?_); refine bx_ 5 3 #[iv_ G] ?_; intro c1 hg d4 hbox hb; have a9 := Aside0.mk (below_step HB.out hb); have Y := Aside0.mk (blk_below s.out hb); clear s; have s := Y; clear Y; clear HB; have HB := a9; clear a9; have b2 := Aside0.mk hbox; clear hb hg hbox) | ((with_reducible refine gate_callee (f := 61) rfl ?_); refine gl_ 12 Try.func61 (where_impl_QuietSpans_1.calls k M O u _ _ j _ _ l x y z B D _ _ m E G d0 _ c0 s.out c1 b2.out (ck_ b7 HB) b3.out (ck_ b8 HB) b4.out (ck_ b9 HB) b5.out A5.out) ?_; rintro e w6 ⟨d1, rfl, a5, hb⟩; refine ⟨_, rfl, sh2_ (Kd.R_lower a5 (below_size (bl_ HB))) (below_step (bl_ HB) hb) ?_⟩; clear HB hb a5; intro b6 HB))
 go_ret
 exact ⟨_, by first | (rw [hRT_.out]; rfl) | exact er_, ra_ b6, bl_ HB⟩

/-! ### impl_ticks: function 100 -/
mutual
def impl_ticks.l0 : Nat → List Bool → List S82 → Int → Int → Option (List Bool)
 | 0, _, _, _, _ => none
 | k + 1, m, l, s, j => if j < s then (if 0 ≤ j then (if j < (l.length : Int) then ((impl_IsSpan.f ((rd_T82 l j).f0) ((rd_T82 l j).f1)).bind fun y => (if y = true then (impl_ticks.l1 k m ((rd_T82 l j).f0) l s j ((rd_T82 l j).f0) ((rd_T82 l j).f1)) else (impl_ticks.l0 k m l s (wrap64 (j + 1))))) else (none)) else (none)) else (some m)
def impl_ticks.l1 : Nat → List Bool → Int → List S82 → Int → Int → Int → Int → Option (List Bool)
 | 0, _, _, _, _, _, _, _ => none
 | k + 1, m, u, l, s, j, z, x => if u < x then (if 0 ≤ u then (if u < (m.length : Int) then (impl_ticks.l1 k (m.set (u : Int).toNat true) (wrap64 (u + 1)) l s j z x) else (none)) else (none)) else (impl_ticks.l0 k m l s (wrap64 (j + 1)))
end
def impl_ticks.f (k : Nat) (j : List S82) : Option (List Bool) := if 1000 ≤ 281474976710656 then (impl_ticks.l0 k (List.replicate 1000 false) j (j.length : Int) 0) else (none)
theorem impl_ticks.calls (k : Nat) (A0 : Option Addr) (c0 : Nat) (j : List S82) (r : List Bool) (w : World) (b5 : Kd.C k82 w A0 j.length j) (b4 : j.length ≤ c0) (h : impl_ticks.f k j = some r) :
  Calls Try.prog 100 #[.slice A0 j.length c0] w fun e w' => ∃ b6 : Value, e = .returned (b6) ∧ Kd.R Kd.bool 4 w' w.heap.size (fun _ => True) b6 r ∧ Below w.heap.size w w' := by
 have f7 := Try.underlying82
 have a7 := Aside0.mk b5
 have e1 := Aside0.mk b4
 clear b5 b4
 have HB := Aside0.mk (Below.refl w.heap.size w)
 have H := h
 clear h
 unfold impl_ticks.f at H
 replace H := ifn_ H
 obtain ⟨c2, H⟩ := H
 have e4 := eq_true c2
 have e5 := decide_eq_true c2
 clear c2
 replace H : ∃ y_ : List Bool, Aside0 (y_ = (List.replicate 1000 false)) ∧ (impl_ticks.l0 k y_ j (j.length : Int) 0) = some r := ⟨_, ⟨rfl⟩, yh_ H⟩
 obtain ⟨d9, a8, H⟩ := H
 have H' := Aside0.mk H
 clear H
 go_enter Try.func100, Try.ntmps100
 go_wp2_with (first | ((with_reducible refine gate_dst (N := 7) rfl ?_); refine Kd.R_make Kd.bool _ 4 rfl (N := 7) rfl 109 _ _ rfl 1000 rfl rfl Try.underlying109 (.bool false) 1 info4 rfl (by decide) (by omega) false (ok := fun _ => True) (okp := fun _ => True) rfl (fun _ hk => hk) trivial (by omega) (by omega) (Below.refl _ _) (Nat.le_refl _) ?_; intro b7 w3 J hb hg_ hnew_; clear hg_ hnew_; (first | rw [← a8.out] at J | (simp only [Int.reduceToNat] at J; rw [← a8.out] at J)); refine sh2_ (Kd.R_lower J (below_size (bl_ HB))) (below_step (bl_ HB) hb) ?_; clear HB hb J; intro c1 HB))
 go_loopg [10] k (fun kq d7 w' => ∃ (I : List Bool) (l : Int), d7 = iv_ l ∧ Aside0 (impl_ticks.l0 kq I j (j.length : Int) l = some r) ∧ Aside0 (kq ≤ k) ∧ Aside0 (Kd.R Kd.bool 4 w' w.heap.size (fun _ => True) b7 I) ∧ Aside0 (Below w.heap.size w w'))
 case atStart => exact ⟨(d9), (0), (by first | rfl | (simp; done) | (simp [*]; done)), H', ⟨Nat.le_refl _⟩, ⟨ra_ c1⟩, ⟨bl_ HB⟩⟩
 case round =>
  clear H'
  obtain ⟨I, l, rfl, HA, E, m, HB⟩ := hrel
  cases gk with
  | zero => exact absurd HA.out (by simp [impl_ticks.l0])
  | succ T =>
   have H := HA.out
   clear HA
   simp only [impl_ticks.l0] at H
   by_cases c5 : l < (j.length : Int)
   ·rw [if_pos c5] at H
    have d3 := decide_eq_true c5
    clear c5
    replace H := ifn_ H
    obtain ⟨c6, H⟩ := H
    have e6 := decide_eq_true c6
    clear c6
    replace H := ifn_ H
    obtain ⟨c7, H⟩ := H
    have e7 := decide_eq_true c7
    clear c7
    replace H := bs_ H
    obtain ⟨d6, A8, H⟩ := H
    by_cases c9 : d6 = true
    ·subst c9
     rw [if_pos rfl] at H
     have H' := Aside0.mk H
     clear H
     have z : 0 ≤ (l : Int) := od_
     have B : l < (j.length : Int) := od_
     obtain ⟨d1, X, L, M⟩ := at_T82 a7.out l z B
     cases X
     replace L := hbc_ HB L
     replace M := hbc_ HB M
     replace z := eq_true z
     replace B := eq_true B
     go_wp2_with (first | ((with_reducible refine gd_ 5 ?_); refine bx_ 5 82 #[iv_ 0, iv_ 0] ?_; intro x hg f9 hbox hb; refine sh4_ (Kd.R_below (ra_ m) hb) (below_step (bl_ HB) hb) hbox (ge_ hg (bl_ HB)) ?_; clear m HB hb hbox hg; intro m HB s y; have e9 := cf2_ s) | ((with_reducible refine gate_callee (f := 99) rfl ?_); refine gl_ 15 Try.func99 (impl_IsSpan.calls ((rd_T82 j l).f0) ((rd_T82 j l).f1) true _ A8.out) ?_; rintro e g0 ⟨rfl, hb⟩; refine ⟨_, rfl, sh3_ (Kd.R_below (by (with_reducible repeat (first | apply Kd.R_alloc | apply Kd.R_drewN | apply Kd.R_drew)); exact (Kd.R_mono (Kd.R_far (p := ⟨x, 1, none⟩) (Kd.R_far (p := ⟨x, 0, none⟩) (Kd.R_types m.out s.out (by decide)) (fun _ hk => hk.2) (iv_ ((rd_T82 j l).f0))) (fun _ hk => hk.2) (iv_ ((rd_T82 j l).f1))) (fun _ h_ => h_.1))) hb) (blk_below (g := x) (o := .cells #[iv_ ((rd_T82 j l).f0), iv_ ((rd_T82 j l).f1)] 82 (0, 0)) (bp_ s) hb) (below_step (bl1_ HB y) hb) ?_⟩; clear m s HB hb; intro m s HB; have f2 := cf2_ s))
     go_loopg [6] T (fun kq v6 w' => ∃ (D : List Bool) (u : Int), v6 = iv_ u ∧ Aside0 (impl_ticks.l1 kq D u j (j.length : Int) l ((rd_T82 j l).f0) ((rd_T82 j l).f1) = some r) ∧ Aside0 (kq ≤ T) ∧ Aside0 (Kd.R Kd.bool 4 w' w.heap.size (fun _ => True) b7 D) ∧ Aside0 (w'.heap[x]? = some (.cells #[iv_ ((rd_T82 j l).f0), iv_ ((rd_T82 j l).f1)] 82 (0, 0))) ∧ Aside0 (Below w.heap.size w w'))
     case atStart => exact ⟨(I), ((rd_T82 j l).f0), (by first | rfl | (simp; done) | (simp [*]; done)), H', ⟨Nat.le_refl _⟩, ⟨ra_ m⟩, ⟨by (with_reducible repeat (first | refine blk_drewN ?_ _ | refine blk_drew ?_ | refine blk_alloc ?_ _)); exact s.out⟩, ⟨bl1_ HB y⟩⟩
     case round =>
      clear H'
      obtain ⟨D, u, rfl, HA, O, m, s, HB⟩ := hrel
      cases gk with
      | zero => exact absurd HA.out (by simp [impl_ticks.l1])
      | succ Z =>
       have H := HA.out
       clear HA
       simp only [impl_ticks.l1] at H
       by_cases G : u < ((rd_T82 j l).f1)
       ·rw [if_pos G] at H
        have d2 := decide_eq_true G
        clear G
        replace H := ifn_ H
        obtain ⟨b0, H⟩ := H
        have e2 := decide_eq_true b0
        clear b0
        replace H := ifn_ H
        obtain ⟨b1, H⟩ := H
        have e3 := decide_eq_true b1
        clear b1
        replace H : ∃ y_ : List Bool, Aside0 (y_ = (D.set (u : Int).toNat true)) ∧ (impl_ticks.l1 Z y_ (wrap64 (u + 1)) j (j.length : Int) l ((rd_T82 j l).f0) ((rd_T82 j l).f1)) = some r := ⟨_, ⟨rfl⟩, yh_ H⟩
        obtain ⟨b8, d0, H⟩ := H
        have H' := Aside0.mk H
        clear H
        have f3 := cf2_ s
        have a0 : 0 ≤ (u : Int) := od_
        have a1 : (u : Int) < ((D.length : Int) : Int) := od_
        obtain ⟨Y, d4, b2, b3, d5, e8, a6⟩ := Kd.R_form m.out (by omega)
        (first | cases b2 | (injection b2 with ea_ en_ ec_; (first | subst ea_ | (injection ea_ with ea_; subst ea_)); subst ec_; clear en_))
        have b9 := Aside0.mk b3
        have e0 := Aside0.mk a6
        clear b3 d5 a6
        obtain ⟨f8, f6⟩ := Kd.R_celln false m.out (u : Int) a0 a1
        replace a0 := eq_true a0
        replace a1 := eq_true a1
        have U := Kd.R_putg m.out (u : Int) true
        go_wp2_with (first | ((with_reducible refine gate_store (t := 4) (p := 26) rfl ?_); refine store_event (t := 4) (p := 26) (v := ?vo_w20) (w1 := (wr.setCell ⟨Y, (u : Int).toNat, none⟩ (.bool true))) ?hg ?ho ?hn ?hr ?_; (case ho => rfl); (case hg => rfl); (case hn => rfl); (case hr => first | (go_simp; done) | (go_simp; rfl)); intro a2 hw; have hg : wr.grownBy a2 (some Y) := (by rw [hw]; exact U.2); have hp_ : Kd.R Kd.bool 4 a2 w.heap.size (fun _ => True) (.slice (some ⟨Y, 0, none⟩) D.length d4) b8 := (by rw [hw, d0.out]; exact U.1); clear U; refine sh3_ hp_ (blk_grown (g := x) (o := .cells #[iv_ ((rd_T82 j l).f0), iv_ ((rd_T82 j l).f1)] 82 (0, 0)) (bk_ s) hg (Kd.R_ne m.out s.out (by decide))) ((by rw [hw]; exact below_set (HB.out) b9.out : Below w.heap.size w a2)) ?_; clear m s HB; intro m s HB; clear hg hw hp_))
        go_roundg Z
        case measure => have := E.out; have := O.out; omega
        case rel => exact ⟨(b8), (wrap64 (u + 1)), (by first | rfl | (simp; done) | (simp [*]; done)), H', ⟨by have := E.out; have := O.out; omega⟩, ⟨ra_ m⟩, ⟨by (with_reducible repeat (first | refine blk_drewN ?_ _ | refine blk_drew ?_ | refine blk_alloc ?_ _)); exact s.out⟩, ⟨bl1_ HB y⟩⟩
       ·rw [if_neg G] at H
        have d2 := decide_eq_false G
        clear G
        have H' := Aside0.mk H
        clear H
        have f4 := cf2_ s
        go_wp2
        go_roundg Z
        case measure => have := E.out; have := O.out; omega
        case rel => exact ⟨(D), (wrap64 (l + 1)), (by first | rfl | (simp; done) | (simp [*]; done)), H', ⟨by have := E.out; have := O.out; omega⟩, ⟨ra_ m⟩, ⟨bl1_ HB y⟩⟩
    ·replace c9 := Bool.eq_false_iff.mpr c9
     subst c9
     have H1 : (impl_ticks.l0 T I j (j.length : Int) (wrap64 (l + 1))) = some r := by rw [if_neg (show ¬ (false = true) by decide)] at H; exact H
     clear H
     have H := H1
     clear H1
     have H' := Aside0.mk H
     clear H
     have z : 0 ≤ (l : Int) := od_
     have B : l < (j.length : Int) := od_
     obtain ⟨d1, X, L, M⟩ := at_T82 a7.out l z B
     cases X
     replace L := hbc_ HB L
     replace M := hbc_ HB M
     replace z := eq_true z
     replace B := eq_true B
     go_wp2_with (first | ((with_reducible refine gd_ 5 ?_); refine bx_ 5 82 #[iv_ 0, iv_ 0] ?_; intro x hg g1 hbox hb; refine sh4_ (Kd.R_below (ra_ m) hb) (below_step (bl_ HB) hb) hbox (ge_ hg (bl_ HB)) ?_; clear m HB hb hbox hg; intro m HB s y; have f5 := cf2_ s) | ((with_reducible refine gate_callee (f := 99) rfl ?_); refine gl_ 15 Try.func99 (impl_IsSpan.calls ((rd_T82 j l).f0) ((rd_T82 j l).f1) false _ A8.out) ?_; rintro e g2 ⟨rfl, hb⟩; refine ⟨_, rfl, sh3_ (Kd.R_below (by (with_reducible repeat (first | apply Kd.R_alloc | apply Kd.R_drewN | apply Kd.R_drew)); exact (Kd.R_mono (Kd.R_far (p := ⟨x, 1, none⟩) (Kd.R_far (p := ⟨x, 0, none⟩) (Kd.R_types m.out s.out (by decide)) (fun _ hk => hk.2) (iv_ ((rd_T82 j l).f0))) (fun _ hk => hk.2) (iv_ ((rd_T82 j l).f1))) (fun _ h_ => h_.1))) hb) (blk_below (g := x) (o := .cells #[iv_ ((rd_T82 j l).f0), iv_ ((rd_T82 j l).f1)] 82 (0, 0)) (bp_ s) hb) (below_step (bl1_ HB y) hb) ?_⟩; clear m s HB hb; intro m s HB))
     go_roundg T
     case measure => have := E.out; omega
     case rel => exact ⟨(I), (wrap64 (l + 1)), (by first | rfl | (simp; done) | (simp [*]; done)), H', ⟨by have := E.out; omega⟩, ⟨ra_ m⟩, ⟨bl1_ HB y⟩⟩
   ·rw [if_neg c5] at H
    have d3 : decide (l < (j.length : Int)) = false := decide_eq_false c5
    clear c5
    obtain rfl := Option.some.inj H
    go_wp2
    go_ret
    exact ⟨_, by first | (rw [hRT_.out]; rfl) | exact er_, ra_ m, bl_ HB⟩

/-! ### impl_CutSpans_1: function 102 -/
def impl_CutSpans_1.f (j : Int) (l m : List Bool) : Option (Bool) := if 0 ≤ j then (if j < (l.length : Int) then (if rdOf false l j = true then (if j < (m.length : Int) then (some (!(rdOf false m j))) else (none)) else (some false)) else (none)) else (none)
theorem impl_CutSpans_1.calls (j : Int) (x : Option Addr) (E : Nat) (l : List Bool) (y : Option Addr) (c2 : Nat) (m : List Bool) (r : Bool) (w : World) (z : Nat) (a3 : w.heap[z]? = some (.cells #[.slice x l.length E] 109 (0, 0))) (B : Nat) (a4 : w.heap[B]? = some (.cells #[.slice y m.length c2] 109 (0, 0))) (X : Kd.C Kd.bool w x l.length l) (T : l.length ≤ E) (Y : Kd.C Kd.bool w y m.length m) (U : m.length ≤ c2) (h : impl_CutSpans_1.f j l m = some r) :
  Calls Try.prog 102 #[iv_ j, .pointer (some ⟨z, 0, none⟩), .pointer (some ⟨B, 0, none⟩)] w fun e w' => e = .returned (.bool r) ∧ Drawn0 w w' := by
 have b2 : w.cell? ⟨z, 0, none⟩ = some (.slice x l.length E) := (blk_cell a3 0).trans rfl
 have b3 : w.cell? ⟨B, 0, none⟩ = some (.slice y m.length c2) := (blk_cell a4 0).trans rfl
 have O := Aside0.mk X
 have a6 := Aside0.mk T
 clear X T
 have Z := Aside0.mk Y
 have a7 := Aside0.mk U
 clear Y U
 have H := h
 clear h
 unfold impl_CutSpans_1.f at H
 replace H := ifn_ H
 obtain ⟨c4, H⟩ := H
 have a9 := decide_eq_true c4
 clear c4
 replace H := ifn_ H
 obtain ⟨c5, H⟩ := H
 have b0 := decide_eq_true c5
 clear c5
 obtain ⟨bq6, hbq6⟩ : ∃ b_ : Bool, b_ = (rdOf false l j) := ⟨_, rfl⟩
 replace H : (if bq6 = true then (if j < (m.length : Int) then (some (!(rdOf false m j))) else (none)) else (some false)) = some r := by rw [← hbq6] at H; exact H
 have D := Aside0.mk hbq6
 clear hbq6
 by_cases c7 : bq6 = true
 ·subst c7
  rw [if_pos rfl] at H
  replace H := ifn_ H
  obtain ⟨c8, H⟩ := H
  have b1 := decide_eq_true c8
  clear c8
  obtain rfl := Option.some.inj H
  have s : 0 ≤ (j : Int) := od_
  have u : j < (l.length : Int) := od_
  obtain ⟨a1, G, I⟩ := Kd.at_bool O.out j s u
  (try rw [← D.out] at I)
  cases G
  replace s := eq_true s
  replace u := eq_true u
  have J : 0 ≤ (j : Int) := od_
  have L : j < (m.length : Int) := od_
  obtain ⟨a8, a2, a5⟩ := Kd.at_bool Z.out j J L
  (try rw [← D.out] at a5)
  cases a2
  replace J := eq_true J
  replace L := eq_true L
  go_enter Try.func102, Try.ntmps102
  go_wp2
  go_ret
  exact ⟨by first | rfl | (simp; done) | (simp [*]; done), by repeat (first | exact Drawn0.refl _ | apply Drawn0.step)⟩
 ·replace c7 := Bool.eq_false_iff.mpr c7
  subst c7
  have M : (some false) = some r := by rw [if_neg (show ¬ (false = true) by decide)] at H; exact H
  clear H
  have H := M
  clear M
  obtain rfl := Option.some.inj H
  have s : 0 ≤ (j : Int) := od_
  have u : j < (l.length : Int) := od_
  obtain ⟨a1, G, I⟩ := Kd.at_bool O.out j s u
  (try rw [← D.out] at I)
  cases G
  replace s := eq_true s
  replace u := eq_true u
  go_enter Try.func102, Try.ntmps102
  go_wp2
  go_ret
  exact ⟨by first | rfl | (simp; done) | (simp [*]; done), by repeat (first | exact Drawn0.refl _ | apply Drawn0.step)⟩


def where_impl_CutSpans_1.f (k : Nat) (m s : Int) (j l : List Bool) : Option (List S82) := sw.f (fun k' t' => impl_CutSpans_1.f t' j l) k m s
theorem where_impl_CutSpans_1.calls (k : Nat) (z B : Int) (m : Option Addr) (y : Nat) (j : List Bool) (s : Option Addr) (c2 : Nat) (l : List Bool) (r : List S82) (w : World) (u : Nat) (E : w.heap[u]? = some (.cells #[.slice m j.length y] 109 (0, 0))) (x : Nat) (I : w.heap[x]? = some (.cells #[.slice s l.length c2] 109 (0, 0))) (O : Kd.C Kd.bool w m j.length j) (L : j.length ≤ y) (T : Kd.C Kd.bool w s l.length l) (M : l.length ≤ c2) (h : where_impl_CutSpans_1.f k z B j l = some r) :
  Calls Try.prog 61 #[iv_ z, iv_ B, .func (.func 102) #[] #[.pointer (some ⟨u, 0, none⟩), .pointer (some ⟨x, 0, none⟩)]] w fun e w' => ∃ D : Value, e = .returned (D) ∧ Kd.R k82 82 w' w.heap.size (fun _ => True) D r ∧ Below w.heap.size w w' := by
 refine sw.calls (fun k' t' => impl_CutSpans_1.f t' j l) k z B r w 102 _ (fun args w => enters_ Try.func102 (by kernel_rfl) rfl args w) (fun k' t b W hq hb => ?_) h
 have G := blk_below E hb
 have J := blk_below I hb
 have hh := impl_CutSpans_1.calls t m y j s c2 l b W u G x J (Kd.C_below O hb) L (Kd.C_below T hb) M hq
 exact hh.mono (fun e w' hx => ⟨hx.1, by obtain ⟨n, rfl⟩ := hx.2.out; exact pw_below_drewN (Below.refl _ _) n⟩)

end Go.Proofs.Ytopbkdcicidajaa.PFnSilence
