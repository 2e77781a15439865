-- Written by a program of this session for this claim (the kit's printer with changes).
import Derived.Test.YtpjhdehbikohmaaGreatQFnExactPlanOfx0
import Derived.Test.YtpjhdehbikohmaaGreatQFnExactPlanOfx3
import Derived.Test.YtpjhdehbikohmaaGreatQFnExactPlanOfx5
import Derived.Test.YtpjhdehbikohmaaGreatQFnExactPlanOfx6
import Derived.Test.YtpjhdehbikohmaaGreatQFnExactPlanOfx7
namespace Go.Proofs.YtpjhdehbikohmaaGreat.PFnExactPlanOf
open Go.RowKit Go.Proofs.YtpjhdehbikohmaaGreatW.PrintWords Go.Proofs.YtpjhdehbikohmaaGreatW.PrintLast Go.Proofs.YtpjhdehbikohmaaGreatW.PrintMore
attribute [local go_sem] max2_int min2_int max_two min_two max_three min_three max_four min_four   -- for this text's walks alone
set_option linter.unusedVariables false
set_option maxHeartbeats 8000000
set_option maxRecDepth 100000
set_option linter.unusedSimpArgs false

/-! ### spec_LimitOf: function 88 -/
mutual
def spec_LimitOf.j0 : Nat → Int → Int → Bool → Int → List S68 → List S70 → Int → Int → Int → Int → Int → List S76 → Int → Option (Int)
 | 0, _, _, _, _, _, _, _, _, _, _, _, _, _ => none
 | k + 1, L, M, Y, s, u, x, l, m, j, y, z, B, D => if Y = true then (some (-1)) else ((spec_PlaneOf.f s u x l m j y z B D L).bind fun I => ((spec_PlaneOf.f s u x l m j y z B D M).bind fun J => ((spec_IsSite.f s u x l m j y z B D L).bind fun O => (if O = true then (spec_LimitOf.j1 k I J true s u x l m j y z B D) else ((spec_IsSite.f s u x l m j y z B D M).bind fun T => (spec_LimitOf.j1 k I J T s u x l m j y z B D))))))
def spec_LimitOf.j1 : Nat → Int → Int → Bool → Int → List S68 → List S70 → Int → Int → Int → Int → Int → List S76 → Int → Option (Int)
 | 0, _, _, _, _, _, _, _, _, _, _, _, _, _ => none
 | k + 1, E, G, Z, s, u, x, l, m, j, y, z, B, D => if Z = true then (if E = G then (some j) else ((spec_l7Near.f s u x l m j y z B D E G).bind fun U => (if U = true then (some j) else (some (-1))))) else (if E = G then (some l) else ((spec_l7Near.f s u x l m j y z B D E G).bind fun X => (if X = true then (some m) else (some (-1)))))
end
def spec_LimitOf.f (k : Nat) (j : Int) (D : List S68) (E : List S70) (l m s u x : Int) (G : List S76) (y z B : Int) : Option (Int) := (spec_NodesOf.f j D E l m s u x G y).bind fun I => ((spec_l1In.f z 0 (wrap64 (I - 1))).bind fun J => (if J = true then ((spec_l1In.f B 0 (wrap64 (I - 1))).bind fun L => (if L = true then (if z = B then (spec_LimitOf.j0 k z B true j D E l m s u x G y) else ((spec_IsSite.f j D E l m s u x G y z).bind fun M => (if M = true then ((spec_IsSite.f j D E l m s u x G y B).bind fun O => (spec_LimitOf.j0 k z B O j D E l m s u x G y)) else (spec_LimitOf.j0 k z B false j D E l m s u x G y)))) else (spec_LimitOf.j0 k z B true j D E l m s u x G y))) else (spec_LimitOf.j0 k z B true j D E l m s u x G y)))
theorem spec_LimitOf.calls (k : Nat) (z : Int) (a5 : Option Addr) (a9 : Nat) (l : List S68) (a6 : Option Addr) (b0 : Nat) (m : List S70) (x y B D E : Int) (a7 : Option Addr) (b1 : Nat) (s : List S76) (G J L r : Int) (w : World) (e8 : Kd.C k68 w a5 l.length l) (e5 : l.length ≤ a9) (e9 : Kd.C k70 w a6 m.length m) (e6 : m.length ≤ b0) (f0 : Kd.C k76 w a7 s.length s) (e7 : s.length ≤ b1) (h : spec_LimitOf.f k z l m x y B D E s G J L = some r) :
  Calls Tryz.prog 88 #[.agg #[iv_ z, .slice a5 l.length a9, .slice a6 m.length b0, iv_ x, iv_ y, iv_ B, iv_ D, iv_ E, .slice a7 s.length b1, iv_ G], iv_ J, iv_ L] w fun e w' => e = .returned (iv_ r) ∧ Below w.heap.size w w' := by
 have i6 := Tryz.underlying34
 have Y := Aside0.mk e8
 have T := Aside0.mk e5
 clear e8 e5
 have Z := Aside0.mk e9
 have U := Aside0.mk e6
 clear e9 e6
 have a0 := Aside0.mk f0
 have X := Aside0.mk e7
 clear f0 e7
 have HB := Aside0.mk (Below.refl w.heap.size w)
 have H := h
 clear h
 unfold spec_LimitOf.f at H
 replace H := bs_ H
 obtain ⟨a3, A4, H⟩ := H
 have d6 := Aside0.mk H
 clear H
 go_enter Tryz.func88, Tryz.ntmps88
 go_upto_region 2 with (first | ((with_reducible refine gd_ 3 ?_); refine bx_ 3 34 #[iv_ z, .slice a5 l.length a9, .slice a6 m.length b0, iv_ x, iv_ y, iv_ B, iv_ D, iv_ E, .slice a7 s.length b1, iv_ G] ?_; intro e4 hg w6 hbox hb; refine sh3_ (below_step (bl_ HB) hb) hbox (ge_ hg (bl_ HB)) ?_; clear HB hb hbox hg; intro HB j u; have i5 := cf10_ j) | ((with_reducible refine gate_callee (f := 37) rfl ?_); refine gl_ 11 Tryz.func37 (spec_NodesOf.calls z _ _ l _ _ m x y B D E _ _ s G a3 _ (ck_ Y HB) T.out (ck_ Z HB) U.out (ck_ a0 HB) X.out A4.out) ?_; rintro e w8 ⟨rfl, hb⟩; refine ⟨_, rfl, sh2_ (blk_below (bk_ j) hb) (below_step (bl1_ HB u) hb) ?_⟩; clear j HB hb; intro j HB))
 (try simp only [Act.put, List.setIfInBounds_toArray, List.set_cons_zero, List.set_cons_succ])
 go_cut [38] (fun g6 wc => ∃ (kq : Nat) (d3 : Bool), g6 = .bool d3 ∧ Aside0 (spec_LimitOf.j0 kq J L d3 z l m x y B D E s G = some r) ∧ Aside0 (kq ≤ k) ∧ Aside0 (wc.heap[e4]? = some (.cells #[iv_ z, (.slice a5 l.length a9), (.slice a6 m.length b0), iv_ x, iv_ y, iv_ B, iv_ D, iv_ E, (.slice a7 s.length b1), iv_ G] 34 (0, 0))) ∧ Aside0 (Below w.heap.size w wc))
 case first =>
  have H := d6.out
  clear d6
  replace H := bs_ H
  obtain ⟨g2, A9, H⟩ := H
  by_cases c10 : g2 = true
  ·subst c10
   rw [if_pos rfl] at H
   replace H := bs_ H
   obtain ⟨g3, b6, H⟩ := H
   by_cases b7 : g3 = true
   ·subst b7
    rw [if_pos rfl] at H
    by_cases b2 : J = L
    ·rw [if_pos b2] at H
     obtain ⟨b3, f7⟩ := bt_ b2
     clear b2
     (first | rw [b3] | (simp only [i64_w, i32_w]; rw [b3]) | skip)
     have H' := Aside0.mk H
     clear H
     go_wp2_with (first | ((with_reducible refine gate_callee (f := 40) rfl ?_); refine gl_ 15 Tryz.func40 (spec_l1In.calls J 0 (wrap64 (a3 - 1)) true _ A9.out) ?_; rintro e w' ⟨rfl, ⟨nd, rfl⟩⟩; refine ⟨_, rfl, ?_⟩) | (go_at_call 40; (with_reducible refine (spec_l1In.calls L 0 (wrap64 (a3 - 1)) true _ b6.out).mono ?_); rintro e w' ⟨rfl, ⟨nd, rfl⟩⟩))
     go_meet
     case rel => exact ⟨_, (true), (by first | rfl | (simp; done) | (simp [*]; done)), H', ⟨by first | omega | exact Nat.le_refl _⟩, ⟨by (with_reducible repeat (first | refine blk_drewN ?_ _ | refine blk_drew ?_ | refine blk_alloc ?_ _)); exact j.out⟩, ⟨bl1_ HB u⟩⟩
    ·rw [if_neg b2] at H
     obtain ⟨b3, f7⟩ := bn_ b2
     (first | rw [b3] | (simp only [i64_w, i32_w]; rw [b3]) | skip)
     replace H := bs_ H
     obtain ⟨g4, d9, H⟩ := H
     by_cases b8 : g4 = true
     ·subst b8
      rw [if_pos rfl] at H
      replace H := bs_ H
      obtain ⟨f1, f2, H⟩ := H
      have H' := Aside0.mk H
      clear H
      go_wp2_with (first | ((with_reducible refine gate_callee (f := 40) rfl ?_); refine gl_ 15 Tryz.func40 (spec_l1In.calls J 0 (wrap64 (a3 - 1)) true _ A9.out) ?_; rintro e w' ⟨rfl, ⟨nd, rfl⟩⟩; refine ⟨_, rfl, ?_⟩) | (go_at_call 40; (with_reducible refine (spec_l1In.calls L 0 (wrap64 (a3 - 1)) true _ b6.out).mono ?_); rintro e w' ⟨rfl, ⟨nd, rfl⟩⟩; have g9 := cf10_ j) | (go_at_call 93; (with_reducible refine (spec_IsSite.calls z _ _ l _ _ m x y B D E _ _ s G J true _ ?side1 ?side2 ?side3 ?side4 ?side5 ?side6 d9.out).mono ?_); (case side1 => repeat (first | exact (Kd.C_below Y.out (bl1_ HB u)) | (with_reducible refine Kd.C_alloc ?_ _) | (with_reducible refine Kd.C_drewN ?_ _) | (with_reducible refine Kd.C_drew ?_))); (case side2 => exact T.out); (case side3 => repeat (first | exact (Kd.C_below Z.out (bl1_ HB u)) | (with_reducible refine Kd.C_alloc ?_ _) | (with_reducible refine Kd.C_drewN ?_ _) | (with_reducible refine Kd.C_drew ?_))); (case side4 => exact U.out); (case side5 => repeat (first | exact (Kd.C_below a0.out (bl1_ HB u)) | (with_reducible refine Kd.C_alloc ?_ _) | (with_reducible refine Kd.C_drewN ?_ _) | (with_reducible refine Kd.C_drew ?_))); (case side6 => exact X.out); rintro e i8 ⟨rfl, hb⟩; refine sh2_ (blk_below (bk_ j) hb) (below_step (bl1_ HB u) hb) ?_; clear j HB hb; intro j HB; have h0 := cf10_ j) | (go_at_call 93; (with_reducible refine (spec_IsSite.calls z _ _ l _ _ m x y B D E _ _ s G L f1 _ ?side1 ?side2 ?side3 ?side4 ?side5 ?side6 f2.out).mono ?_); (case side1 => exact ck_ Y HB); (case side2 => exact T.out); (case side3 => exact ck_ Z HB); (case side4 => exact U.out); (case side5 => exact ck_ a0 HB); (case side6 => exact X.out); rintro e i9 ⟨rfl, hb⟩; refine sh2_ (blk_below (bk_ j) hb) (below_step (bl1_ HB u) hb) ?_; clear j HB hb; intro j HB))
      go_meet
      case rel => exact ⟨_, (f1), (by first | rfl | (simp; done) | (simp [*]; done)), H', ⟨by first | omega | exact Nat.le_refl _⟩, ⟨by (with_reducible repeat (first | refine blk_drewN ?_ _ | refine blk_drew ?_ | refine blk_alloc ?_ _)); exact j.out⟩, ⟨bl1_ HB u⟩⟩
     ·replace b8 := Bool.eq_false_iff.mpr b8
      subst b8
      have I : (spec_LimitOf.j0 k J L false z l m x y B D E s G) = some r := by rw [if_neg (show ¬ (false = true) by decide)] at H; exact H
      clear H
      have H := I
      clear I
      have H' := Aside0.mk H
      clear H
      go_wp2_with (first | ((with_reducible refine gate_callee (f := 40) rfl ?_); refine gl_ 15 Tryz.func40 (spec_l1In.calls J 0 (wrap64 (a3 - 1)) true _ A9.out) ?_; rintro e w' ⟨rfl, ⟨nd, rfl⟩⟩; refine ⟨_, rfl, ?_⟩) | (go_at_call 40; (with_reducible refine (spec_l1In.calls L 0 (wrap64 (a3 - 1)) true _ b6.out).mono ?_); rintro e w' ⟨rfl, ⟨nd, rfl⟩⟩; have h1 := cf10_ j) | (go_at_call 93; (with_reducible refine (spec_IsSite.calls z _ _ l _ _ m x y B D E _ _ s G J false _ ?side1 ?side2 ?side3 ?side4 ?side5 ?side6 d9.out).mono ?_); (case side1 => repeat (first | exact (Kd.C_below Y.out (bl1_ HB u)) | (with_reducible refine Kd.C_alloc ?_ _) | (with_reducible refine Kd.C_drewN ?_ _) | (with_reducible refine Kd.C_drew ?_))); (case side2 => exact T.out); (case side3 => repeat (first | exact (Kd.C_below Z.out (bl1_ HB u)) | (with_reducible refine Kd.C_alloc ?_ _) | (with_reducible refine Kd.C_drewN ?_ _) | (with_reducible refine Kd.C_drew ?_))); (case side4 => exact U.out); (case side5 => repeat (first | exact (Kd.C_below a0.out (bl1_ HB u)) | (with_reducible refine Kd.C_alloc ?_ _) | (with_reducible refine Kd.C_drewN ?_ _) | (with_reducible refine Kd.C_drew ?_))); (case side6 => exact X.out); rintro e j2 ⟨rfl, hb⟩; refine sh2_ (blk_below (bk_ j) hb) (below_step (bl1_ HB u) hb) ?_; clear j HB hb; intro j HB))
      go_meet
      case rel => exact ⟨_, (false), (by first | rfl | (simp; done) | (simp [*]; done)), H', ⟨by first | omega | exact Nat.le_refl _⟩, ⟨by (with_reducible repeat (first | refine blk_drewN ?_ _ | refine blk_drew ?_ | refine blk_alloc ?_ _)); exact j.out⟩, ⟨bl1_ HB u⟩⟩
   ·replace b7 := Bool.eq_false_iff.mpr b7
    subst b7
    have I : (spec_LimitOf.j0 k J L true z l m x y B D E s G) = some r := by rw [if_neg (show ¬ (false = true) by decide)] at H; exact H
    clear H
    have H := I
    clear I
    have H' := Aside0.mk H
    clear H
    go_wp2_with (first | ((with_reducible refine gate_callee (f := 40) rfl ?_); refine gl_ 15 Tryz.func40 (spec_l1In.calls J 0 (wrap64 (a3 - 1)) true _ A9.out) ?_; rintro e w' ⟨rfl, ⟨nd, rfl⟩⟩; refine ⟨_, rfl, ?_⟩) | (go_at_call 40; (with_reducible refine (spec_l1In.calls L 0 (wrap64 (a3 - 1)) false _ b6.out).mono ?_); rintro e w' ⟨rfl, ⟨nd, rfl⟩⟩))
    go_meet
    case rel => exact ⟨_, (true), (by first | rfl | (simp; done) | (simp [*]; done)), H', ⟨by first | omega | exact Nat.le_refl _⟩, ⟨by (with_reducible repeat (first | refine blk_drewN ?_ _ | refine blk_drew ?_ | refine blk_alloc ?_ _)); exact j.out⟩, ⟨bl1_ HB u⟩⟩
  ·replace c10 := Bool.eq_false_iff.mpr c10
   subst c10
   have I : (spec_LimitOf.j0 k J L true z l m x y B D E s G) = some r := by rw [if_neg (show ¬ (false = true) by decide)] at H; exact H
   clear H
   have H := I
   clear I
   have H' := Aside0.mk H
   clear H
   go_wp2_with (first | ((with_reducible refine gate_callee (f := 40) rfl ?_); refine gl_ 15 Tryz.func40 (spec_l1In.calls J 0 (wrap64 (a3 - 1)) false _ A9.out) ?_; rintro e w' ⟨rfl, ⟨nd, rfl⟩⟩; refine ⟨_, rfl, ?_⟩))
   go_meet
   case rel => exact ⟨_, (true), (by first | rfl | (simp; done) | (simp [*]; done)), H', ⟨by first | omega | exact Nat.le_refl _⟩, ⟨by (with_reducible repeat (first | refine blk_drewN ?_ _ | refine blk_drew ?_ | refine blk_alloc ?_ _)); exact j.out⟩, ⟨bl1_ HB u⟩⟩
 case rest =>
  clear d6
  obtain ⟨kq, d3, rfl, HA, e3, j, HB⟩ := hcut
  cases kq with
  | zero => exact absurd HA.out (by simp [spec_LimitOf.j0])
  | succ d2 =>
   have H := HA.out
   clear HA
   simp only [spec_LimitOf.j0] at H
   by_cases b9 : d3 = true
   ·subst b9
    rw [if_pos rfl] at H
    obtain rfl := Option.some.inj H
    go_wp2
    go_ret
    exact ⟨er_, bl1_ HB u⟩
   ·replace b9 := Bool.eq_false_iff.mpr b9
    subst b9
    have I : ((spec_PlaneOf.f z l m x y B D E s G J).bind fun M => ((spec_PlaneOf.f z l m x y B D E s G L).bind fun O => ((spec_IsSite.f z l m x y B D E s G J).bind fun d7 => (if d7 = true then (spec_LimitOf.j1 d2 M O true z l m x y B D E s G) else ((spec_IsSite.f z l m x y B D E s G L).bind fun a4 => (spec_LimitOf.j1 d2 M O a4 z l m x y B D E s G)))))) = some r := by rw [if_neg (show ¬ (false = true) by decide)] at H; exact H
    clear H
    have H := I
    clear I
    replace H := bs_ H
    obtain ⟨M, f3, H⟩ := H
    replace H := bs_ H
    obtain ⟨O, f4, H⟩ := H
    have d5 := Aside0.mk H
    clear H
    have h2 := cf10_ j
    go_upto_region 6 with (first | ((with_reducible refine gate_callee (f := 102) rfl ?_); refine gl_ 41 Tryz.func102 (spec_PlaneOf.calls z _ _ l _ _ m x y B D E _ _ s G J M _ (ck_ Y HB) T.out (ck_ Z HB) U.out (ck_ a0 HB) X.out f3.out) ?_; rintro e j3 ⟨rfl, hb⟩; refine ⟨_, rfl, sh2_ (blk_below (bk_ j) hb) (below_step (bl1_ HB u) hb) ?_⟩; clear j HB hb; intro j HB; have h3 := cf10_ j) | ((with_reducible refine gate_callee (f := 102) rfl ?_); refine gl_ 44 Tryz.func102 (spec_PlaneOf.calls z _ _ l _ _ m x y B D E _ _ s G L O _ (ck_ Y HB) T.out (ck_ Z HB) U.out (ck_ a0 HB) X.out f4.out) ?_; rintro e j4 ⟨rfl, hb⟩; refine ⟨_, rfl, sh2_ (blk_below (bk_ j) hb) (below_step (bl1_ HB u) hb) ?_⟩; clear j HB hb; intro j HB))
    (try simp only [Act.put, List.setIfInBounds_toArray, List.set_cons_zero, List.set_cons_succ])
    go_cut [45] (fun g7 wc => ∃ (kq : Nat) (d4 : Bool), g7 = .bool d4 ∧ Aside0 (spec_LimitOf.j1 kq M O d4 z l m x y B D E s G = some r) ∧ Aside0 (kq ≤ d2) ∧ Aside0 (wc.heap[e4]? = some (.cells #[iv_ z, (.slice a5 l.length a9), (.slice a6 m.length b0), iv_ x, iv_ y, iv_ B, iv_ D, iv_ E, (.slice a7 s.length b1), iv_ G] 34 (0, 0))) ∧ Aside0 (Below w.heap.size w wc))
    case first =>
     have H := d5.out
     clear d5
     replace H := bs_ H
     obtain ⟨d7, e0, H⟩ := H
     by_cases c0 : d7 = true
     ·subst c0
      rw [if_pos rfl] at H
      have H' := Aside0.mk H
      clear H
      have h4 := cf10_ j
      go_wp2_with (first | ((with_reducible refine gate_callee (f := 93) rfl ?_); refine gl_ 48 Tryz.func93 (spec_IsSite.calls z _ _ l _ _ m x y B D E _ _ s G J true _ (ck_ Y HB) T.out (ck_ Z HB) U.out (ck_ a0 HB) X.out e0.out) ?_; rintro e j5 ⟨rfl, hb⟩; refine ⟨_, rfl, sh2_ (blk_below (bk_ j) hb) (below_step (bl1_ HB u) hb) ?_⟩; clear j HB hb; intro j HB))
      go_meet
      case rel => exact ⟨_, (true), (by first | rfl | (simp; done) | (simp [*]; done)), H', ⟨by have := e3.out; first | omega | exact Nat.le_refl _⟩, ⟨by (with_reducible repeat (first | refine blk_drewN ?_ _ | refine blk_drew ?_ | refine blk_alloc ?_ _)); exact j.out⟩, ⟨bl1_ HB u⟩⟩
     ·replace c0 := Bool.eq_false_iff.mpr c0
      subst c0
      have I : ((spec_IsSite.f z l m x y B D E s G L).bind fun a4 => (spec_LimitOf.j1 d2 M O a4 z l m x y B D E s G)) = some r := by rw [if_neg (show ¬ (false = true) by decide)] at H; exact H
      clear H
      have H := I
      clear I
      replace H := bs_ H
      obtain ⟨a4, f5, H⟩ := H
      have H' := Aside0.mk H
      clear H
      have h5 := cf10_ j
      go_wp2_with (first | ((with_reducible refine gate_callee (f := 93) rfl ?_); refine gl_ 48 Tryz.func93 (spec_IsSite.calls z _ _ l _ _ m x y B D E _ _ s G J false _ (ck_ Y HB) T.out (ck_ Z HB) U.out (ck_ a0 HB) X.out e0.out) ?_; rintro e j6 ⟨rfl, hb⟩; refine ⟨_, rfl, sh2_ (blk_below (bk_ j) hb) (below_step (bl1_ HB u) hb) ?_⟩; clear j HB hb; intro j HB; have h6 := cf10_ j) | (go_at_call 93; (with_reducible refine (spec_IsSite.calls z _ _ l _ _ m x y B D E _ _ s G L a4 _ ?side1 ?side2 ?side3 ?side4 ?side5 ?side6 f5.out).mono ?_); (case side1 => exact ck_ Y HB); (case side2 => exact T.out); (case side3 => exact ck_ Z HB); (case side4 => exact U.out); (case side5 => exact ck_ a0 HB); (case side6 => exact X.out); rintro e j7 ⟨rfl, hb⟩; refine sh2_ (blk_below (bk_ j) hb) (below_step (bl1_ HB u) hb) ?_; clear j HB hb; intro j HB))
      go_meet
      case rel => exact ⟨_, (a4), (by first | rfl | (simp; done) | (simp [*]; done)), H', ⟨by have := e3.out; first | omega | exact Nat.le_refl _⟩, ⟨by (with_reducible repeat (first | refine blk_drewN ?_ _ | refine blk_drew ?_ | refine blk_alloc ?_ _)); exact j.out⟩, ⟨bl1_ HB u⟩⟩
    case rest =>
     clear d5
     obtain ⟨kq, d4, rfl, HA, g8, j, HB⟩ := hcut
     cases kq with
     | zero => exact absurd HA.out (by simp [spec_LimitOf.j1])
     | succ i7 =>
      have H := HA.out
      clear HA
      simp only [spec_LimitOf.j1] at H
      by_cases c1 : d4 = true
      ·subst c1
       rw [if_pos rfl] at H
       by_cases b4 : M = O
       ·rw [if_pos b4] at H
        obtain ⟨f8, f9⟩ := bt_ b4
        clear b4
        obtain rfl := Option.some.inj H
        have h7 := cf10_ j
        go_wp2
        go_ret
        exact ⟨er_, bl1_ HB u⟩
       ·rw [if_neg b4] at H
        obtain ⟨f8, f9⟩ := bn_ b4
        replace H := bs_ H
        obtain ⟨g5, e1, H⟩ := H
        by_cases d0 : g5 = true
        ·subst d0
         rw [if_pos rfl] at H
         obtain rfl := Option.some.inj H
         have h8 := cf10_ j
         go_wp2_with (first | (go_at_call 103; (with_reducible refine (spec_l7Near.calls z _ _ l _ _ m x y B D E _ _ s G M O true _ ?side1 ?side2 ?side3 ?side4 ?side5 ?side6 e1.out).mono ?_); (case side1 => exact ck_ Y HB); (case side2 => exact T.out); (case side3 => exact ck_ Z HB); (case side4 => exact U.out); (case side5 => exact ck_ a0 HB); (case side6 => exact X.out); rintro e j8 ⟨rfl, hb⟩; refine sh2_ (blk_below (bk_ j) hb) (below_step (bl1_ HB u) hb) ?_; clear j HB hb; intro j HB; have h9 := cf10_ j))
         go_ret
         exact ⟨er_, bl1_ HB u⟩
        ·replace d0 := Bool.eq_false_iff.mpr d0
         subst d0
         have I : (some (-1)) = some r := by rw [if_neg (show ¬ (false = true) by decide)] at H; exact H
         clear H
         have H := I
         clear I
         obtain rfl := Option.some.inj H
         have i0 := cf10_ j
         go_wp2_with (first | (go_at_call 103; (with_reducible refine (spec_l7Near.calls z _ _ l _ _ m x y B D E _ _ s G M O false _ ?side1 ?side2 ?side3 ?side4 ?side5 ?side6 e1.out).mono ?_); (case side1 => exact ck_ Y HB); (case side2 => exact T.out); (case side3 => exact ck_ Z HB); (case side4 => exact U.out); (case side5 => exact ck_ a0 HB); (case side6 => exact X.out); rintro e j9 ⟨rfl, hb⟩; refine sh2_ (blk_below (bk_ j) hb) (below_step (bl1_ HB u) hb) ?_; clear j HB hb; intro j HB))
         go_ret
         exact ⟨er_, bl1_ HB u⟩
      ·replace c1 := Bool.eq_false_iff.mpr c1
       subst c1
       have I : (if M = O then (some x) else ((spec_l7Near.f z l m x y B D E s G M O).bind fun d8 => (if d8 = true then (some y) else (some (-1))))) = some r := by rw [if_neg (show ¬ (false = true) by decide)] at H; exact H
       clear H
       have H := I
       clear I
       by_cases b5 : M = O
       ·rw [if_pos b5] at H
        obtain ⟨g0, g1⟩ := bt_ b5
        clear b5
        obtain rfl := Option.some.inj H
        have i1 := cf10_ j
        go_wp2
        go_ret
        exact ⟨er_, bl1_ HB u⟩
       ·rw [if_neg b5] at H
        obtain ⟨g0, g1⟩ := bn_ b5
        replace H := bs_ H
        obtain ⟨d8, e2, H⟩ := H
        by_cases d1 : d8 = true
        ·subst d1
         rw [if_pos rfl] at H
         obtain rfl := Option.some.inj H
         have i2 := cf10_ j
         go_wp2_with (first | ((with_reducible refine gate_callee (f := 103) rfl ?_); refine gl_ 75 Tryz.func103 (spec_l7Near.calls z _ _ l _ _ m x y B D E _ _ s G M O true _ (ck_ Y HB) T.out (ck_ Z HB) U.out (ck_ a0 HB) X.out e2.out) ?_; rintro e k0 ⟨rfl, hb⟩; refine ⟨_, rfl, sh2_ (blk_below (bk_ j) hb) (below_step (bl1_ HB u) hb) ?_⟩; clear j HB hb; intro j HB; have i3 := cf10_ j))
         go_ret
         exact ⟨er_, bl1_ HB u⟩
        ·replace d1 := Bool.eq_false_iff.mpr d1
         subst d1
         have I : (some (-1)) = some r := by rw [if_neg (show ¬ (false = true) by decide)] at H; exact H
         clear H
         have H := I
         clear I
         obtain rfl := Option.some.inj H
         have i4 := cf10_ j
         go_wp2_with (first | ((with_reducible refine gate_callee (f := 103) rfl ?_); refine gl_ 75 Tryz.func103 (spec_l7Near.calls z _ _ l _ _ m x y B D E _ _ s G M O false _ (ck_ Y HB) T.out (ck_ Z HB) U.out (ck_ a0 HB) X.out e2.out) ?_; rintro e k1 ⟨rfl, hb⟩; refine ⟨_, rfl, sh2_ (blk_below (bk_ j) hb) (below_step (bl1_ HB u) hb) ?_⟩; clear j HB hb; intro j HB))
         go_ret
         exact ⟨er_, bl1_ HB u⟩

/-! ### spec_GapOf: function 89 -/
def spec_GapOf.f (l m : Int) : Option (Int) := (spec_AngleOf.f l).bind fun s => ((spec_AngleOf.f m).bind fun u => ((spec_AngleOf.f (wrap64 (s - u))).bind fun j => ((spec_Min.f j (wrap64 (360 - j))).bind fun x => (some x))))
theorem spec_GapOf.calls (j l r : Int) (w : World) (h : spec_GapOf.f j l = some r) :
  Calls Tryz.prog 89 #[iv_ j, iv_ l] w fun e w' => e = .returned (iv_ r) ∧ Drawn0 w w' := by
 have H := h
 clear h
 unfold spec_GapOf.f at H
 replace H := bs_ H
 obtain ⟨s, x, H⟩ := H
 replace H := bs_ H
 obtain ⟨u, y, H⟩ := H
 replace H := bs_ H
 obtain ⟨m, z, H⟩ := H
 replace H := bs_ H
 obtain ⟨D, B, H⟩ := H
 obtain rfl := Option.some.inj H
 go_enter Tryz.func89, Tryz.ntmps89
 go_wp2_with (first | ((with_reducible refine gate_callee (f := 104) rfl ?_); refine gl_ 7 Tryz.func104 (spec_AngleOf.calls j s _ x.out) ?_; rintro e w' ⟨rfl, ⟨nd, rfl⟩⟩; refine ⟨_, rfl, ?_⟩) | ((with_reducible refine gate_callee (f := 104) rfl ?_); refine gl_ 9 Tryz.func104 (spec_AngleOf.calls l u _ y.out) ?_; rintro e w' ⟨rfl, ⟨nd, rfl⟩⟩; refine ⟨_, rfl, ?_⟩) | ((with_reducible refine gate_callee (f := 104) rfl ?_); refine gl_ 11 Tryz.func104 (spec_AngleOf.calls (wrap64 (s - u)) m _ z.out) ?_; rintro e w' ⟨rfl, ⟨nd, rfl⟩⟩; refine ⟨_, rfl, ?_⟩) | ((with_reducible refine gate_callee (f := 22) rfl ?_); refine gl_ 15 Tryz.func22 (spec_Min.calls m (wrap64 (360 - m)) D _ B.out) ?_; rintro e w' ⟨rfl, ⟨nd, rfl⟩⟩; refine ⟨_, rfl, ?_⟩))
 go_ret
 exact ⟨by first | rfl | (simp; done) | (simp [*]; done), by repeat (first | exact Drawn0.refl _ | apply Drawn0.step)⟩

/-! ### spec_MiddleOf: function 90 -/
def spec_MiddleOf.f (j l : Int) : Option (Int) := (spec_l1In.f l 0 359).bind fun m => (if m = true then ((spec_AngleOf.f j).bind fun s => ((spec_AngleOf.f (wrap64 (s + (wrap64 (Int.tdiv l 2))))).bind fun u => (some u))) else ((spec_AngleOf.f j).bind fun x => (some x)))
theorem spec_MiddleOf.calls (l j r : Int) (w : World) (h : spec_MiddleOf.f l j = some r) :
  Calls Tryz.prog 90 #[.agg #[iv_ l, iv_ j]] w fun e w' => e = .returned (iv_ r) ∧ Below w.heap.size w w' := by
 have U := Tryz.underlying74
 have HB := Aside0.mk (Below.refl w.heap.size w)
 have H := h
 clear h
 unfold spec_MiddleOf.f at H
 replace H := bs_ H
 obtain ⟨T, u, H⟩ := H
 by_cases c3 : T = true
 ·subst c3
  rw [if_pos rfl] at H
  replace H := bs_ H
  obtain ⟨x, B, H⟩ := H
  replace H := bs_ H
  obtain ⟨G, D, H⟩ := H
  obtain rfl := Option.some.inj H
  go_enter Tryz.func90, Tryz.ntmps90
  go_wp2_with (first | ((with_reducible refine gd_ 1 ?_); refine bx_ 1 74 #[iv_ l, iv_ j] ?_; intro y hg M hbox hb; refine sh3_ (below_step (bl_ HB) hb) hbox (ge_ hg (bl_ HB)) ?_; clear HB hb hbox hg; intro HB m s; have L := cf2_ m) | (go_at_call 40; (with_reducible refine (spec_l1In.calls j 0 359 true _ u.out).mono ?_); rintro e w' ⟨rfl, ⟨nd, rfl⟩⟩; (try exact dd_)) | (go_at_call 104; (with_reducible refine (spec_AngleOf.calls l x _ B.out).mono ?_); rintro e w' ⟨rfl, ⟨nd, rfl⟩⟩; (try exact dd_)) | (go_at_call 104; (with_reducible refine (spec_AngleOf.calls (wrap64 (x + (wrap64 (Int.tdiv j 2)))) G _ D.out).mono ?_); rintro e w' ⟨rfl, ⟨nd, rfl⟩⟩; (try exact dd_)))
  repeat (go_quiet (first | ((with_reducible refine gd_ 1 ?_); refine bx_ 1 74 #[iv_ l, iv_ j] ?_; intro y hg M hbox hb; refine sh3_ (below_step (bl_ HB) hb) hbox (ge_ hg (bl_ HB)) ?_; clear HB hb hbox hg; intro HB m s; have L := cf2_ m) | (go_at_call 40; (with_reducible refine (spec_l1In.calls j 0 359 true _ u.out).mono ?_); rintro e w' ⟨rfl, ⟨nd, rfl⟩⟩; (try exact dd_)) | (go_at_call 104; (with_reducible refine (spec_AngleOf.calls l x _ B.out).mono ?_); rintro e w' ⟨rfl, ⟨nd, rfl⟩⟩; (try exact dd_)) | (go_at_call 104; (with_reducible refine (spec_AngleOf.calls (wrap64 (x + (wrap64 (Int.tdiv j 2)))) G _ D.out).mono ?_); rintro e w' ⟨rfl, ⟨nd, rfl⟩⟩; (try exact dd_))); try go_wp2_with (first | ((with_reducible refine gd_ 1 ?_); refine bx_ 1 74 #[iv_ l, iv_ j] ?_; intro y hg M hbox hb; refine sh3_ (below_step (bl_ HB) hb) hbox (ge_ hg (bl_ HB)) ?_; clear HB hb hbox hg; intro HB m s; have L := cf2_ m) | (go_at_call 40; (with_reducible refine (spec_l1In.calls j 0 359 true _ u.out).mono ?_); rintro e w' ⟨rfl, ⟨nd, rfl⟩⟩; (try exact dd_)) | (go_at_call 104; (with_reducible refine (spec_AngleOf.calls l x _ B.out).mono ?_); rintro e w' ⟨rfl, ⟨nd, rfl⟩⟩; (try exact dd_)) | (go_at_call 104; (with_reducible refine (spec_AngleOf.calls (wrap64 (x + (wrap64 (Int.tdiv j 2)))) G _ D.out).mono ?_); rintro e w' ⟨rfl, ⟨nd, rfl⟩⟩; (try exact dd_))))
  go_ret
  exact ⟨er_, bl1_ HB s⟩
 ·replace c3 := Bool.eq_false_iff.mpr c3
  subst c3
  have I : ((spec_AngleOf.f l).bind fun z => (some z)) = some r := by rw [if_neg (show ¬ (false = true) by decide)] at H; exact H
  clear H
  have H := I
  clear I
  replace H := bs_ H
  obtain ⟨z, E, H⟩ := H
  obtain rfl := Option.some.inj H
  go_enter Tryz.func90, Tryz.ntmps90
  go_wp2_with (first | ((with_reducible refine gd_ 1 ?_); refine bx_ 1 74 #[iv_ l, iv_ j] ?_; intro y hg O hbox hb; refine sh3_ (below_step (bl_ HB) hb) hbox (ge_ hg (bl_ HB)) ?_; clear HB hb hbox hg; intro HB m s; have J := cf2_ m) | (go_at_call 40; (with_reducible refine (spec_l1In.calls j 0 359 false _ u.out).mono ?_); rintro e w' ⟨rfl, ⟨nd, rfl⟩⟩; (try exact dd_)) | (go_at_call 104; (with_reducible refine (spec_AngleOf.calls l z _ E.out).mono ?_); rintro e w' ⟨rfl, ⟨nd, rfl⟩⟩; (try exact dd_)))
  repeat (go_quiet (first | ((with_reducible refine gd_ 1 ?_); refine bx_ 1 74 #[iv_ l, iv_ j] ?_; intro y hg O hbox hb; refine sh3_ (below_step (bl_ HB) hb) hbox (ge_ hg (bl_ HB)) ?_; clear HB hb hbox hg; intro HB m s; have J := cf2_ m) | (go_at_call 40; (with_reducible refine (spec_l1In.calls j 0 359 false _ u.out).mono ?_); rintro e w' ⟨rfl, ⟨nd, rfl⟩⟩; (try exact dd_)) | (go_at_call 104; (with_reducible refine (spec_AngleOf.calls l z _ E.out).mono ?_); rintro e w' ⟨rfl, ⟨nd, rfl⟩⟩; (try exact dd_))); try go_wp2_with (first | ((with_reducible refine gd_ 1 ?_); refine bx_ 1 74 #[iv_ l, iv_ j] ?_; intro y hg O hbox hb; refine sh3_ (below_step (bl_ HB) hb) hbox (ge_ hg (bl_ HB)) ?_; clear HB hb hbox hg; intro HB m s; have J := cf2_ m) | (go_at_call 40; (with_reducible refine (spec_l1In.calls j 0 359 false _ u.out).mono ?_); rintro e w' ⟨rfl, ⟨nd, rfl⟩⟩; (try exact dd_)) | (go_at_call 104; (with_reducible refine (spec_AngleOf.calls l z _ E.out).mono ?_); rintro e w' ⟨rfl, ⟨nd, rfl⟩⟩; (try exact dd_))))
  go_ret
  exact ⟨er_, bl1_ HB s⟩

/-! ### spec_SightAt: function 80 -/
def spec_SightAt.f (k : Nat) (m : Int) (D : List S68) (E : List S70) (s u x y z : Int) (G : List S76) (B J L M : Int) : Option (Int) := (spec_LimitOf.f k m D E s u x y z G B J L).bind fun I => (if I < 0 then (some 0) else ((spec_NodeAt.f k m D E s u x y z G B J M).bind fun j => ((spec_NodeAt.f k m D E s u x y z G B L M).bind fun l => ((spec_MiddleOf.f j.1 j.2).bind fun T => ((spec_MiddleOf.f l.1 l.2).bind fun U => ((spec_GapOf.f T U).bind fun O => (if (wrap64 (O - (wrap64 ((wrap64 ((wrap64 (Int.tdiv j.2 2)) + (wrap64 (Int.tdiv l.2 2)))) + (wrap64 (Int.tdiv (wrap64 ((Int.tmod j.2 2) + (Int.tmod l.2 2))) 2)))))) > I then (some 0) else (if (wrap64 (O + (wrap64 ((wrap64 ((wrap64 (Int.tdiv j.2 2)) + (wrap64 (Int.tdiv l.2 2)))) + (wrap64 (Int.tdiv (wrap64 ((Int.tmod j.2 2) + (Int.tmod l.2 2))) 2)))))) ≤ I then (some 2) else (some 1)))))))))
theorem spec_SightAt.calls (k : Nat) (I : Int) (Y : Option Addr) (a4 : Nat) (B : List S68) (Z : Option Addr) (a5 : Nat) (D : List S70) (J L M O T : Int) (a0 : Option Addr) (a6 : Nat) (E : List S76) (U a1 a2 a3 r : Int) (w : World) (f9 : Kd.C k68 w Y B.length B) (f6 : B.length ≤ a4) (g0 : Kd.C k70 w Z D.length D) (f7 : D.length ≤ a5) (g1 : Kd.C k76 w a0 E.length E) (f8 : E.length ≤ a6) (h : spec_SightAt.f k I B D J L M O T E U a1 a2 a3 = some r) :
  Calls Tryz.prog 80 #[.agg #[iv_ I, .slice Y B.length a4, .slice Z D.length a5, iv_ J, iv_ L, iv_ M, iv_ O, iv_ T, .slice a0 E.length a6, iv_ U], iv_ a1, iv_ a2, iv_ a3] w fun e w' => e = .returned (iv_ r) ∧ Below w.heap.size w w' := by
 have k8 := Tryz.underlying34
 have k9 := Tryz.underlying74
 have c0 := Aside0.mk f9
 have b7 := Aside0.mk f6
 clear f9 f6
 have c1 := Aside0.mk g0
 have b8 := Aside0.mk f7
 clear g0 f7
 have d0 := Aside0.mk g1
 have b9 := Aside0.mk f8
 clear g1 f8
 have HB := Aside0.mk (Below.refl w.heap.size w)
 have H := h
 clear h
 unfold spec_SightAt.f at H
 replace H := bs_ H
 obtain ⟨d1, A5, H⟩ := H
 by_cases c6 : d1 < 0
 ·rw [if_pos c6] at H
  have g4 := decide_eq_true c6
  clear c6
  obtain rfl := Option.some.inj H
  go_enter Tryz.func80, Tryz.ntmps80
  go_wp2_with (first | ((with_reducible refine gd_ 4 ?_); refine bx_ 4 34 #[iv_ I, .slice Y B.length a4, .slice Z D.length a5, iv_ J, iv_ L, iv_ M, iv_ O, iv_ T, .slice a0 E.length a6, iv_ U] ?_; intro d3 hg w7 hbox hb; refine sh3_ (below_step (bl_ HB) hb) hbox (ge_ hg (bl_ HB)) ?_; clear HB hb hbox hg; intro HB j s; have i9 := cf10_ j) | ((with_reducible refine gate_callee (f := 88) rfl ?_); refine gl_ 17 Tryz.func88 (spec_LimitOf.calls k I _ _ B _ _ D J L M O T _ _ E U a1 a2 d1 _ (ck_ c0 HB) b7.out (ck_ c1 HB) b8.out (ck_ d0 HB) b9.out A5.out) ?_; rintro e w9 ⟨rfl, hb⟩; refine ⟨_, rfl, sh2_ (blk_below (bk_ j) hb) (below_step (bl1_ HB s) hb) ?_⟩; clear j HB hb; intro j HB))
  go_ret
  exact ⟨er_, bl1_ HB s⟩
 ·rw [if_neg c6] at H
  have g4 := decide_eq_false c6
  clear c6
  replace H := bs_ H
  obtain ⟨⟨X, G⟩, f1, H⟩ := H
  dsimp only at H
  replace H := bs_ H
  obtain ⟨⟨y, u⟩, f2, H⟩ := H
  dsimp only at H
  replace H := bs_ H
  obtain ⟨d4, f3, H⟩ := H
  replace H := bs_ H
  obtain ⟨d5, f4, H⟩ := H
  replace H := bs_ H
  obtain ⟨d6, f5, H⟩ := H
  by_cases d7 : (wrap64 (d6 - (wrap64 ((wrap64 ((wrap64 (Int.tdiv G 2)) + (wrap64 (Int.tdiv u 2)))) + (wrap64 (Int.tdiv (wrap64 ((Int.tmod G 2) + (Int.tmod u 2))) 2)))))) > d1
  ·rw [if_pos d7] at H
   have g2 : decide (d1 < (wrap64 (d6 - (wrap64 ((wrap64 ((wrap64 (Int.tdiv G 2)) + (wrap64 (Int.tdiv u 2)))) + (wrap64 (Int.tdiv (wrap64 ((Int.tmod G 2) + (Int.tmod u 2))) 2))))))) = true := decide_eq_true d7
   clear d7
   obtain rfl := Option.some.inj H
   go_enter Tryz.func80, Tryz.ntmps80
   try go_wp2_with (first | ((with_reducible refine gd_ 4 ?_); refine bx_ 4 34 #[iv_ I, .slice Y B.length a4, .slice Z D.length a5, iv_ J, iv_ L, iv_ M, iv_ O, iv_ T, .slice a0 E.length a6, iv_ U] ?_; intro d3 hg l0 hbox hb; refine sh3_ (below_step (bl_ HB) hb) hbox (ge_ hg (bl_ HB)) ?_; clear HB hb hbox hg; intro HB j s; have g8 := cf10_ j) | ((with_reducible refine gate_callee (f := 88) rfl ?_); refine gl_ 17 Tryz.func88 (spec_LimitOf.calls k I _ _ B _ _ D J L M O T _ _ E U a1 a2 d1 _ (ck_ c0 HB) b7.out (ck_ c1 HB) b8.out (ck_ d0 HB) b9.out A5.out) ?_; rintro e l1 ⟨rfl, hb⟩; refine ⟨_, rfl, sh2_ (blk_below (bk_ j) hb) (below_step (bl1_ HB s) hb) ?_⟩; clear j HB hb; intro j HB; have g9 := cf10_ j) | ((with_reducible refine gate_callee (f := 82) rfl ?_); refine gl_ 23 Tryz.func82 (spec_NodeAt.calls k I _ _ B _ _ D J L M O T _ _ E U a1 a3 X G _ (ck_ c0 HB) b7.out (ck_ c1 HB) b8.out (ck_ d0 HB) b9.out f1.out) ?_; rintro e l2 ⟨rfl, hb⟩; refine ⟨_, rfl, sh2_ (blk_below (bk_ j) hb) (below_step (bl1_ HB s) hb) ?_⟩; clear j HB hb; intro j HB) | ((with_reducible refine gd_ 10 ?_); refine bx_ 10 74 #[iv_ 0, iv_ 0] ?_; intro b2 hg l3 hbox hb; refine sh6_ (blk_below (bk_ j) hb) (below_step (bl1_ HB s) hb) hbox (ge_ hg (bl1_ HB s)) (nl_ hg (bk_ j)) (ng_ hg (bk_ j)) ?_; clear j HB hb hbox hg; intro j HB l z d9 e0; have j0 := e0.out; have j9 := d9.out; have h0 := cf2_ l; have h1 := cf10_ j) | ((with_reducible refine gate_callee (f := 82) rfl ?_); refine goesL_ (some 27) rfl rfl Tryz.func82 (by kernel_rfl) rfl #[.agg #[iv_ I, .slice Y B.length a4, .slice Z D.length a5, iv_ J, iv_ L, iv_ M, iv_ O, iv_ T, .slice a0 E.length a6, iv_ U], iv_ a2, iv_ a3] rfl mp_ ?_; (with_reducible refine (spec_NodeAt.calls k I _ _ B _ _ D J L M O T _ _ E U a2 a3 y u _ ?side1 ?side2 ?side3 ?side4 ?side5 ?side6 f2.out).mono ?_); (case side1 => exact Kd.C_below c0.out (bl2_ HB s z)); (case side2 => exact b7.out); (case side3 => exact Kd.C_below c1.out (bl2_ HB s z)); (case side4 => exact b8.out); (case side5 => exact Kd.C_below d0.out (bl2_ HB s z)); (case side6 => exact b9.out); rintro e l4 ⟨rfl, hb⟩; refine ⟨_, rfl, sh3_ (blk_below (g := d3) (o := .cells #[iv_ I, .slice Y B.length a4, .slice Z D.length a5, iv_ J, iv_ L, iv_ M, iv_ O, iv_ T, .slice a0 E.length a6, iv_ U] 34 (0, 0)) (bp_ j) hb) (blk_below (g := b2) (o := .cells #[iv_ X, iv_ G] 74 (0, 0)) (bp_ l) hb) (below_step (bl2_ HB s z) hb) ?_⟩; clear j l HB hb; intro j l HB) | ((with_reducible refine gd_ 11 ?_); refine bx_ 11 74 #[iv_ 0, iv_ 0] ?_; intro x hg e7 hbox hb; refine sh9_ (blk_below (bk_ j) hb) (blk_below (bk_ l) hb) (below_step (bl2_ HB s z) hb) hbox (ge_ hg (bl2_ HB s z)) (nl_ hg (bk_ j)) (ng_ hg (bk_ j)) (nl_ hg (bk_ l)) (ng_ hg (bk_ l)) ?_; clear j l HB hb hbox hg; intro j l HB m a7 a9 e1 b0 e2; have j1 := e1.out; have k0 := a9.out; have j2 := e2.out; have k1 := b0.out; have h2 := cf2_ m))
   have b3 : Aside0 (((e7.setCell ⟨x, 0, none⟩ (iv_ y)).setCell ⟨x, 1, none⟩ (iv_ u)).heap[d3]? = some (.cells #[iv_ I, .slice Y B.length a4, .slice Z D.length a5, iv_ J, iv_ L, iv_ M, iv_ O, iv_ T, .slice a0 E.length a6, iv_ U] 34 (0, 0))) := ⟨by (with_reducible repeat (first | refine blk_drewN ?_ _ | refine blk_drew ?_ | refine blk_alloc ?_ _)); refine blk_far ?_ a9.out _; (with_reducible repeat (first | refine blk_drewN ?_ _ | refine blk_drew ?_ | refine blk_alloc ?_ _)); refine blk_far ?_ a9.out _; (with_reducible repeat (first | refine blk_drewN ?_ _ | refine blk_drew ?_ | refine blk_alloc ?_ _)); exact j.out⟩
   have b4 : Aside0 (((e7.setCell ⟨x, 0, none⟩ (iv_ y)).setCell ⟨x, 1, none⟩ (iv_ u)).heap[b2]? = some (.cells #[iv_ X, iv_ G] 74 (0, 0))) := ⟨by (with_reducible repeat (first | refine blk_drewN ?_ _ | refine blk_drew ?_ | refine blk_alloc ?_ _)); refine blk_far ?_ b0.out _; (with_reducible repeat (first | refine blk_drewN ?_ _ | refine blk_drew ?_ | refine blk_alloc ?_ _)); refine blk_far ?_ b0.out _; (with_reducible repeat (first | refine blk_drewN ?_ _ | refine blk_drew ?_ | refine blk_alloc ?_ _)); exact l.out⟩
   have b5 : Aside0 (((e7.setCell ⟨x, 0, none⟩ (iv_ y)).setCell ⟨x, 1, none⟩ (iv_ u)).heap[x]? = some (.cells #[iv_ y, iv_ u] 74 (0, 0))) := ⟨by (with_reducible repeat (first | refine blk_drewN ?_ _ | refine blk_drew ?_ | refine blk_alloc ?_ _)); refine blk_put (cs := #[iv_ y, iv_ 0]) ?_ 1 _ rfl; (with_reducible repeat (first | refine blk_drewN ?_ _ | refine blk_drew ?_ | refine blk_alloc ?_ _)); refine blk_put (cs := #[iv_ 0, iv_ 0]) ?_ 0 _ rfl; (with_reducible repeat (first | refine blk_drewN ?_ _ | refine blk_drew ?_ | refine blk_alloc ?_ _)); exact m.out⟩
   have b6 : Aside0 (Below w.heap.size w ((e7.setCell ⟨x, 0, none⟩ (iv_ y)).setCell ⟨x, 1, none⟩ (iv_ u))) := ⟨bl3_ HB s z a7⟩
   (try clear j)
   (try clear l)
   (try clear m)
   (try clear HB)
   generalize ((e7.setCell ⟨x, 0, none⟩ (iv_ y)).setCell ⟨x, 1, none⟩ (iv_ u)) = g5 at b3 b4 b5 b6 ⊢
   have j := b3
   have l := b4
   have m := b5
   have HB := b6
   clear b3 b4 b5 b6
   refine sh4_ (blk_drew j.out) (blk_drew l.out) (blk_drew m.out) (below_drew1 HB.out) ?_
   clear j l m HB
   intro j l m HB
   refine start_ (n := 6) (S := fun w' => Ck2 w' b2 (iv_ X) (iv_ G) (Cz2 w' x (iv_ y) (iv_ u))) (ds := []) (bo_ 6 0) (by kernel_rfl) rfl rfl ⟨(bc_ l 0 rfl), (bc_ l 1 rfl), cz2_ m⟩ (fun hHeld => ?_)
   generalize g5.drew = l5 at j l m HB hHeld ⊢
   refine take_ (i := 0) (N := some 28) (v := ?_) (a' := ?_) (bo_ 6 1) rfl rfl (by kernel_rfl) (fun _ _ _ h => h) (Or.inl ⟨by rfl, ?_⟩) hHeld ?_ ?_
   rotate_left
   ·rintro w' ⟨s0, s1, s2, s3⟩
    go_simp
    with_reducible rfl
   rotate_left
   ·simp only [Act.put, List.setIfInBounds_toArray, List.set_cons_zero, List.set_cons_succ, i64_w, i32_w]
    rfl
   refine take_ (i := 2) (N := some 30) (v := ?_) (a' := ?_) (bo_ 6 5) rfl rfl (by kernel_rfl) (fun _ _ _ h => h) (Or.inl ⟨by rfl, ?_⟩) hHeld ?_ ?_
   rotate_left
   ·rintro w' ⟨s0, s1, s2, s3⟩
    go_simp
    with_reducible rfl
   rotate_left
   ·simp only [Act.put, List.setIfInBounds_toArray, List.set_cons_zero, List.set_cons_succ, i64_w, i32_w]
    rfl
   refine one_ (i := 1) (N := some 29) (bo_ 6 7) rfl rfl (by kernel_rfl) (by decide) (fun K hK => ?_)
   refine goes_ Tryz.func90 (by kernel_rfl) rfl #[.agg #[iv_ X, iv_ G]] (by rfl) rfl rfl mp_ ?_
   with_reducible refine (spec_MiddleOf.calls X G d4 _ f3.out).mono ?_
   rintro e l6 ⟨rfl, hb⟩
   refine ⟨_, rfl, sh4_ (blk_below (bk_ j) hb) (blk_below (bk_ l) hb) (blk_below (bk_ m) hb) (below_step (bl3_ HB s z a7) hb) ?_⟩
   clear j l m HB hb
   intro j l m HB
   refine hK.out _ _ ⟨(bc_ l 0 rfl), (bc_ l 1 rfl), cz2_ m⟩ (fun hHeld => ?_)
   clear hK K
   refine norm_ (show Act.put _ (some 29) _ = _ from pt_) ?_
   refine one_ (i := 3) (N := some 31) (bo_ 6 15) rfl rfl (by kernel_rfl) (by decide) (fun K hK => ?_)
   refine goes_ Tryz.func90 (by kernel_rfl) rfl #[.agg #[iv_ y, iv_ u]] (by rfl) rfl rfl mp_ ?_
   with_reducible refine (spec_MiddleOf.calls y u d5 _ f4.out).mono ?_
   rintro e l7 ⟨rfl, hb⟩
   refine ⟨_, rfl, sh4_ (blk_below (bk_ j) hb) (blk_below (bk_ l) hb) (blk_below (bk_ m) hb) (below_step (bl3_ HB s z a7) hb) ?_⟩
   clear j l m HB hb
   intro j l m HB
   refine hK.out _ _ ⟨(bc_ l 0 rfl), (bc_ l 1 rfl), cz2_ m⟩ (fun hHeld => ?_)
   clear hK K
   refine norm_ (show Act.put _ (some 31) _ = _ from pt_) ?_
   refine one_ (i := 4) (N := some 32) (bo_ 6 31) rfl rfl (by kernel_rfl) (by decide) (fun K hK => ?_)
   refine goes_ Tryz.func89 (by kernel_rfl) rfl #[iv_ d4, iv_ d5] (by rfl) rfl rfl mp_ ?_
   with_reducible refine (spec_GapOf.calls d4 d5 d6 _ f5.out).mono ?_
   rintro e w' ⟨rfl, ⟨nd, rfl⟩⟩
   refine ⟨_, rfl, ?_⟩
   refine hK.out _ _ ⟨(bc_ l 0 rfl), (bc_ l 1 rfl), cz2_ m⟩ (fun hHeld => ?_)
   clear hK K
   refine norm_ (show Act.put _ (some 32) _ = _ from pt_) ?_
   refine pu0_ 5 (bo_ 6 63) (some 12) ?_
   refine done_ (by kernel_rfl) ?_
   have h3 := cf2_ l
   have h4 := cf2_ m
   try go_wp2
   go_ret
   exact ⟨er_, bl3_ HB s z a7⟩
  ·rw [if_neg d7] at H
   have g2 : decide (d1 < (wrap64 (d6 - (wrap64 ((wrap64 ((wrap64 (Int.tdiv G 2)) + (wrap64 (Int.tdiv u 2)))) + (wrap64 (Int.tdiv (wrap64 ((Int.tmod G 2) + (Int.tmod u 2))) 2))))))) = false := decide_eq_false d7
   clear d7
   by_cases d8 : (wrap64 (d6 + (wrap64 ((wrap64 ((wrap64 (Int.tdiv G 2)) + (wrap64 (Int.tdiv u 2)))) + (wrap64 (Int.tdiv (wrap64 ((Int.tmod G 2) + (Int.tmod u 2))) 2)))))) ≤ d1
   ·rw [if_pos d8] at H
    have g3 := decide_eq_true d8
    clear d8
    obtain rfl := Option.some.inj H
    go_enter Tryz.func80, Tryz.ntmps80
    try go_wp2_with (first | ((with_reducible refine gd_ 4 ?_); refine bx_ 4 34 #[iv_ I, .slice Y B.length a4, .slice Z D.length a5, iv_ J, iv_ L, iv_ M, iv_ O, iv_ T, .slice a0 E.length a6, iv_ U] ?_; intro d3 hg l8 hbox hb; refine sh3_ (below_step (bl_ HB) hb) hbox (ge_ hg (bl_ HB)) ?_; clear HB hb hbox hg; intro HB j s; have h5 := cf10_ j) | ((with_reducible refine gate_callee (f := 88) rfl ?_); refine gl_ 17 Tryz.func88 (spec_LimitOf.calls k I _ _ B _ _ D J L M O T _ _ E U a1 a2 d1 _ (ck_ c0 HB) b7.out (ck_ c1 HB) b8.out (ck_ d0 HB) b9.out A5.out) ?_; rintro e l9 ⟨rfl, hb⟩; refine ⟨_, rfl, sh2_ (blk_below (bk_ j) hb) (below_step (bl1_ HB s) hb) ?_⟩; clear j HB hb; intro j HB; have h6 := cf10_ j) | ((with_reducible refine gate_callee (f := 82) rfl ?_); refine gl_ 23 Tryz.func82 (spec_NodeAt.calls k I _ _ B _ _ D J L M O T _ _ E U a1 a3 X G _ (ck_ c0 HB) b7.out (ck_ c1 HB) b8.out (ck_ d0 HB) b9.out f1.out) ?_; rintro e m0 ⟨rfl, hb⟩; refine ⟨_, rfl, sh2_ (blk_below (bk_ j) hb) (below_step (bl1_ HB s) hb) ?_⟩; clear j HB hb; intro j HB) | ((with_reducible refine gd_ 10 ?_); refine bx_ 10 74 #[iv_ 0, iv_ 0] ?_; intro b2 hg m1 hbox hb; refine sh6_ (blk_below (bk_ j) hb) (below_step (bl1_ HB s) hb) hbox (ge_ hg (bl1_ HB s)) (nl_ hg (bk_ j)) (ng_ hg (bk_ j)) ?_; clear j HB hb hbox hg; intro j HB l z d9 e0; have j3 := e0.out; have k2 := d9.out; have h7 := cf2_ l; have h8 := cf10_ j) | ((with_reducible refine gate_callee (f := 82) rfl ?_); refine goesL_ (some 27) rfl rfl Tryz.func82 (by kernel_rfl) rfl #[.agg #[iv_ I, .slice Y B.length a4, .slice Z D.length a5, iv_ J, iv_ L, iv_ M, iv_ O, iv_ T, .slice a0 E.length a6, iv_ U], iv_ a2, iv_ a3] rfl mp_ ?_; (with_reducible refine (spec_NodeAt.calls k I _ _ B _ _ D J L M O T _ _ E U a2 a3 y u _ ?side1 ?side2 ?side3 ?side4 ?side5 ?side6 f2.out).mono ?_); (case side1 => exact Kd.C_below c0.out (bl2_ HB s z)); (case side2 => exact b7.out); (case side3 => exact Kd.C_below c1.out (bl2_ HB s z)); (case side4 => exact b8.out); (case side5 => exact Kd.C_below d0.out (bl2_ HB s z)); (case side6 => exact b9.out); rintro e m2 ⟨rfl, hb⟩; refine ⟨_, rfl, sh3_ (blk_below (g := d3) (o := .cells #[iv_ I, .slice Y B.length a4, .slice Z D.length a5, iv_ J, iv_ L, iv_ M, iv_ O, iv_ T, .slice a0 E.length a6, iv_ U] 34 (0, 0)) (bp_ j) hb) (blk_below (g := b2) (o := .cells #[iv_ X, iv_ G] 74 (0, 0)) (bp_ l) hb) (below_step (bl2_ HB s z) hb) ?_⟩; clear j l HB hb; intro j l HB) | ((with_reducible refine gd_ 11 ?_); refine bx_ 11 74 #[iv_ 0, iv_ 0] ?_; intro x hg e8 hbox hb; refine sh9_ (blk_below (bk_ j) hb) (blk_below (bk_ l) hb) (below_step (bl2_ HB s z) hb) hbox (ge_ hg (bl2_ HB s z)) (nl_ hg (bk_ j)) (ng_ hg (bk_ j)) (nl_ hg (bk_ l)) (ng_ hg (bk_ l)) ?_; clear j l HB hb hbox hg; intro j l HB m a7 a9 e1 b0 e2; have j4 := e1.out; have k3 := a9.out; have j5 := e2.out; have k4 := b0.out; have h9 := cf2_ m))
    have b3 : Aside0 (((e8.setCell ⟨x, 0, none⟩ (iv_ y)).setCell ⟨x, 1, none⟩ (iv_ u)).heap[d3]? = some (.cells #[iv_ I, .slice Y B.length a4, .slice Z D.length a5, iv_ J, iv_ L, iv_ M, iv_ O, iv_ T, .slice a0 E.length a6, iv_ U] 34 (0, 0))) := ⟨by (with_reducible repeat (first | refine blk_drewN ?_ _ | refine blk_drew ?_ | refine blk_alloc ?_ _)); refine blk_far ?_ a9.out _; (with_reducible repeat (first | refine blk_drewN ?_ _ | refine blk_drew ?_ | refine blk_alloc ?_ _)); refine blk_far ?_ a9.out _; (with_reducible repeat (first | refine blk_drewN ?_ _ | refine blk_drew ?_ | refine blk_alloc ?_ _)); exact j.out⟩
    have b4 : Aside0 (((e8.setCell ⟨x, 0, none⟩ (iv_ y)).setCell ⟨x, 1, none⟩ (iv_ u)).heap[b2]? = some (.cells #[iv_ X, iv_ G] 74 (0, 0))) := ⟨by (with_reducible repeat (first | refine blk_drewN ?_ _ | refine blk_drew ?_ | refine blk_alloc ?_ _)); refine blk_far ?_ b0.out _; (with_reducible repeat (first | refine blk_drewN ?_ _ | refine blk_drew ?_ | refine blk_alloc ?_ _)); refine blk_far ?_ b0.out _; (with_reducible repeat (first | refine blk_drewN ?_ _ | refine blk_drew ?_ | refine blk_alloc ?_ _)); exact l.out⟩
    have b5 : Aside0 (((e8.setCell ⟨x, 0, none⟩ (iv_ y)).setCell ⟨x, 1, none⟩ (iv_ u)).heap[x]? = some (.cells #[iv_ y, iv_ u] 74 (0, 0))) := ⟨by (with_reducible repeat (first | refine blk_drewN ?_ _ | refine blk_drew ?_ | refine blk_alloc ?_ _)); refine blk_put (cs := #[iv_ y, iv_ 0]) ?_ 1 _ rfl; (with_reducible repeat (first | refine blk_drewN ?_ _ | refine blk_drew ?_ | refine blk_alloc ?_ _)); refine blk_put (cs := #[iv_ 0, iv_ 0]) ?_ 0 _ rfl; (with_reducible repeat (first | refine blk_drewN ?_ _ | refine blk_drew ?_ | refine blk_alloc ?_ _)); exact m.out⟩
    have b6 : Aside0 (Below w.heap.size w ((e8.setCell ⟨x, 0, none⟩ (iv_ y)).setCell ⟨x, 1, none⟩ (iv_ u))) := ⟨bl3_ HB s z a7⟩
    (try clear j)
    (try clear l)
    (try clear m)
    (try clear HB)
    generalize ((e8.setCell ⟨x, 0, none⟩ (iv_ y)).setCell ⟨x, 1, none⟩ (iv_ u)) = g6 at b3 b4 b5 b6 ⊢
    have j := b3
    have l := b4
    have m := b5
    have HB := b6
    clear b3 b4 b5 b6
    refine sh4_ (blk_drew j.out) (blk_drew l.out) (blk_drew m.out) (below_drew1 HB.out) ?_
    clear j l m HB
    intro j l m HB
    refine start_ (n := 6) (S := fun w' => Ck2 w' b2 (iv_ X) (iv_ G) (Cz2 w' x (iv_ y) (iv_ u))) (ds := []) (bo_ 6 0) (by kernel_rfl) rfl rfl ⟨(bc_ l 0 rfl), (bc_ l 1 rfl), cz2_ m⟩ (fun hHeld => ?_)
    generalize g6.drew = m3 at j l m HB hHeld ⊢
    refine take_ (i := 0) (N := some 28) (v := ?_) (a' := ?_) (bo_ 6 1) rfl rfl (by kernel_rfl) (fun _ _ _ h => h) (Or.inl ⟨by rfl, ?_⟩) hHeld ?_ ?_
    rotate_left
    ·rintro w' ⟨s0, s1, s2, s3⟩
     go_simp
     with_reducible rfl
    rotate_left
    ·simp only [Act.put, List.setIfInBounds_toArray, List.set_cons_zero, List.set_cons_succ, i64_w, i32_w]
     rfl
    refine take_ (i := 2) (N := some 30) (v := ?_) (a' := ?_) (bo_ 6 5) rfl rfl (by kernel_rfl) (fun _ _ _ h => h) (Or.inl ⟨by rfl, ?_⟩) hHeld ?_ ?_
    rotate_left
    ·rintro w' ⟨s0, s1, s2, s3⟩
     go_simp
     with_reducible rfl
    rotate_left
    ·simp only [Act.put, List.setIfInBounds_toArray, List.set_cons_zero, List.set_cons_succ, i64_w, i32_w]
     rfl
    refine one_ (i := 1) (N := some 29) (bo_ 6 7) rfl rfl (by kernel_rfl) (by decide) (fun K hK => ?_)
    refine goes_ Tryz.func90 (by kernel_rfl) rfl #[.agg #[iv_ X, iv_ G]] (by rfl) rfl rfl mp_ ?_
    with_reducible refine (spec_MiddleOf.calls X G d4 _ f3.out).mono ?_
    rintro e m4 ⟨rfl, hb⟩
    refine ⟨_, rfl, sh4_ (blk_below (bk_ j) hb) (blk_below (bk_ l) hb) (blk_below (bk_ m) hb) (below_step (bl3_ HB s z a7) hb) ?_⟩
    clear j l m HB hb
    intro j l m HB
    refine hK.out _ _ ⟨(bc_ l 0 rfl), (bc_ l 1 rfl), cz2_ m⟩ (fun hHeld => ?_)
    clear hK K
    refine norm_ (show Act.put _ (some 29) _ = _ from pt_) ?_
    refine one_ (i := 3) (N := some 31) (bo_ 6 15) rfl rfl (by kernel_rfl) (by decide) (fun K hK => ?_)
    refine goes_ Tryz.func90 (by kernel_rfl) rfl #[.agg #[iv_ y, iv_ u]] (by rfl) rfl rfl mp_ ?_
    with_reducible refine (spec_MiddleOf.calls y u d5 _ f4.out).mono ?_
    rintro e m5 ⟨rfl, hb⟩
    refine ⟨_, rfl, sh4_ (blk_below (bk_ j) hb) (blk_below (bk_ l) hb) (blk_below (bk_ m) hb) (below_step (bl3_ HB s z a7) hb) ?_⟩
    clear j l m HB hb
    intro j l m HB
    refine hK.out _ _ ⟨(bc_ l 0 rfl), (bc_ l 1 rfl), cz2_ m⟩ (fun hHeld => ?_)
    clear hK K
    refine norm_ (show Act.put _ (some 31) _ = _ from pt_) ?_
    refine one_ (i := 4) (N := some 32) (bo_ 6 31) rfl rfl (by kernel_rfl) (by decide) (fun K hK => ?_)
    refine goes_ Tryz.func89 (by kernel_rfl) rfl #[iv_ d4, iv_ d5] (by rfl) rfl rfl mp_ ?_
    with_reducible refine (spec_GapOf.calls d4 d5 d6 _ f5.out).mono ?_
    rintro e w' ⟨rfl, ⟨nd, rfl⟩⟩
    refine ⟨_, rfl, ?_⟩
    refine hK.out _ _ ⟨(bc_ l 0 rfl), (bc_ l 1 rfl), cz2_ m⟩ (fun hHeld => ?_)
    clear hK K
    refine norm_ (show Act.put _ (some 32) _ = _ from pt_) ?_
    refine pu0_ 5 (bo_ 6 63) (some 12) ?_
    refine done_ (by kernel_rfl) ?_
    have i0 := cf2_ l
    have i1 := cf2_ m
    try go_wp2
    go_ret
    exact ⟨er_, bl3_ HB s z a7⟩
   ·rw [if_neg d8] at H
    have g3 : decide ((wrap64 (d6 + (wrap64 ((wrap64 ((wrap64 (Int.tdiv G 2)) + (wrap64 (Int.tdiv u 2)))) + (wrap64 (Int.tdiv (wrap64 ((Int.tmod G 2) + (Int.tmod u 2))) 2)))))) ≤ d1) = false := decide_eq_false d8
    clear d8
    obtain rfl := Option.some.inj H
    go_enter Tryz.func80, Tryz.ntmps80
    try go_wp2_with (first | ((with_reducible refine gd_ 4 ?_); refine bx_ 4 34 #[iv_ I, .slice Y B.length a4, .slice Z D.length a5, iv_ J, iv_ L, iv_ M, iv_ O, iv_ T, .slice a0 E.length a6, iv_ U] ?_; intro d3 hg m6 hbox hb; refine sh3_ (below_step (bl_ HB) hb) hbox (ge_ hg (bl_ HB)) ?_; clear HB hb hbox hg; intro HB j s; have i2 := cf10_ j) | ((with_reducible refine gate_callee (f := 88) rfl ?_); refine gl_ 17 Tryz.func88 (spec_LimitOf.calls k I _ _ B _ _ D J L M O T _ _ E U a1 a2 d1 _ (ck_ c0 HB) b7.out (ck_ c1 HB) b8.out (ck_ d0 HB) b9.out A5.out) ?_; rintro e m7 ⟨rfl, hb⟩; refine ⟨_, rfl, sh2_ (blk_below (bk_ j) hb) (below_step (bl1_ HB s) hb) ?_⟩; clear j HB hb; intro j HB; have i3 := cf10_ j) | ((with_reducible refine gate_callee (f := 82) rfl ?_); refine gl_ 23 Tryz.func82 (spec_NodeAt.calls k I _ _ B _ _ D J L M O T _ _ E U a1 a3 X G _ (ck_ c0 HB) b7.out (ck_ c1 HB) b8.out (ck_ d0 HB) b9.out f1.out) ?_; rintro e m8 ⟨rfl, hb⟩; refine ⟨_, rfl, sh2_ (blk_below (bk_ j) hb) (below_step (bl1_ HB s) hb) ?_⟩; clear j HB hb; intro j HB) | ((with_reducible refine gd_ 10 ?_); refine bx_ 10 74 #[iv_ 0, iv_ 0] ?_; intro b2 hg m9 hbox hb; refine sh6_ (blk_below (bk_ j) hb) (below_step (bl1_ HB s) hb) hbox (ge_ hg (bl1_ HB s)) (nl_ hg (bk_ j)) (ng_ hg (bk_ j)) ?_; clear j HB hb hbox hg; intro j HB l z d9 e0; have j6 := e0.out; have k5 := d9.out; have i4 := cf2_ l; have i5 := cf10_ j) | ((with_reducible refine gate_callee (f := 82) rfl ?_); refine goesL_ (some 27) rfl rfl Tryz.func82 (by kernel_rfl) rfl #[.agg #[iv_ I, .slice Y B.length a4, .slice Z D.length a5, iv_ J, iv_ L, iv_ M, iv_ O, iv_ T, .slice a0 E.length a6, iv_ U], iv_ a2, iv_ a3] rfl mp_ ?_; (with_reducible refine (spec_NodeAt.calls k I _ _ B _ _ D J L M O T _ _ E U a2 a3 y u _ ?side1 ?side2 ?side3 ?side4 ?side5 ?side6 f2.out).mono ?_); (case side1 => exact Kd.C_below c0.out (bl2_ HB s z)); (case side2 => exact b7.out); (case side3 => exact Kd.C_below c1.out (bl2_ HB s z)); (case side4 => exact b8.out); (case side5 => exact Kd.C_below d0.out (bl2_ HB s z)); (case side6 => exact b9.out); rintro e n0 ⟨rfl, hb⟩; refine ⟨_, rfl, sh3_ (blk_below (g := d3) (o := .cells #[iv_ I, .slice Y B.length a4, .slice Z D.length a5, iv_ J, iv_ L, iv_ M, iv_ O, iv_ T, .slice a0 E.length a6, iv_ U] 34 (0, 0)) (bp_ j) hb) (blk_below (g := b2) (o := .cells #[iv_ X, iv_ G] 74 (0, 0)) (bp_ l) hb) (below_step (bl2_ HB s z) hb) ?_⟩; clear j l HB hb; intro j l HB) | ((with_reducible refine gd_ 11 ?_); refine bx_ 11 74 #[iv_ 0, iv_ 0] ?_; intro x hg e9 hbox hb; refine sh9_ (blk_below (bk_ j) hb) (blk_below (bk_ l) hb) (below_step (bl2_ HB s z) hb) hbox (ge_ hg (bl2_ HB s z)) (nl_ hg (bk_ j)) (ng_ hg (bk_ j)) (nl_ hg (bk_ l)) (ng_ hg (bk_ l)) ?_; clear j l HB hb hbox hg; intro j l HB m a7 a9 e1 b0 e2; have j7 := e1.out; have k6 := a9.out; have j8 := e2.out; have k7 := b0.out; have i6 := cf2_ m))
    have b3 : Aside0 (((e9.setCell ⟨x, 0, none⟩ (iv_ y)).setCell ⟨x, 1, none⟩ (iv_ u)).heap[d3]? = some (.cells #[iv_ I, .slice Y B.length a4, .slice Z D.length a5, iv_ J, iv_ L, iv_ M, iv_ O, iv_ T, .slice a0 E.length a6, iv_ U] 34 (0, 0))) := ⟨by (with_reducible repeat (first | refine blk_drewN ?_ _ | refine blk_drew ?_ | refine blk_alloc ?_ _)); refine blk_far ?_ a9.out _; (with_reducible repeat (first | refine blk_drewN ?_ _ | refine blk_drew ?_ | refine blk_alloc ?_ _)); refine blk_far ?_ a9.out _; (with_reducible repeat (first | refine blk_drewN ?_ _ | refine blk_drew ?_ | refine blk_alloc ?_ _)); exact j.out⟩
    have b4 : Aside0 (((e9.setCell ⟨x, 0, none⟩ (iv_ y)).setCell ⟨x, 1, none⟩ (iv_ u)).heap[b2]? = some (.cells #[iv_ X, iv_ G] 74 (0, 0))) := ⟨by (with_reducible repeat (first | refine blk_drewN ?_ _ | refine blk_drew ?_ | refine blk_alloc ?_ _)); refine blk_far ?_ b0.out _; (with_reducible repeat (first | refine blk_drewN ?_ _ | refine blk_drew ?_ | refine blk_alloc ?_ _)); refine blk_far ?_ b0.out _; (with_reducible repeat (first | refine blk_drewN ?_ _ | refine blk_drew ?_ | refine blk_alloc ?_ _)); exact l.out⟩
    have b5 : Aside0 (((e9.setCell ⟨x, 0, none⟩ (iv_ y)).setCell ⟨x, 1, none⟩ (iv_ u)).heap[x]? = some (.cells #[iv_ y, iv_ u] 74 (0, 0))) := ⟨by (with_reducible repeat (first | refine blk_drewN ?_ _ | refine blk_drew ?_ | refine blk_alloc ?_ _)); refine blk_put (cs := #[iv_ y, iv_ 0]) ?_ 1 _ rfl; (with_reducible repeat (first | refine blk_drewN ?_ _ | refine blk_drew ?_ | refine blk_alloc ?_ _)); refine blk_put (cs := #[iv_ 0, iv_ 0]) ?_ 0 _ rfl; (with_reducible repeat (first | refine blk_drewN ?_ _ | refine blk_drew ?_ | refine blk_alloc ?_ _)); exact m.out⟩
    have b6 : Aside0 (Below w.heap.size w ((e9.setCell ⟨x, 0, none⟩ (iv_ y)).setCell ⟨x, 1, none⟩ (iv_ u))) := ⟨bl3_ HB s z a7⟩
    (try clear j)
    (try clear l)
    (try clear m)
    (try clear HB)
    generalize ((e9.setCell ⟨x, 0, none⟩ (iv_ y)).setCell ⟨x, 1, none⟩ (iv_ u)) = g7 at b3 b4 b5 b6 ⊢
    have j := b3
    have l := b4
    have m := b5
    have HB := b6
    clear b3 b4 b5 b6
    refine sh4_ (blk_drew j.out) (blk_drew l.out) (blk_drew m.out) (below_drew1 HB.out) ?_
    clear j l m HB
    intro j l m HB
    refine start_ (n := 6) (S := fun w' => Ck2 w' b2 (iv_ X) (iv_ G) (Cz2 w' x (iv_ y) (iv_ u))) (ds := []) (bo_ 6 0) (by kernel_rfl) rfl rfl ⟨(bc_ l 0 rfl), (bc_ l 1 rfl), cz2_ m⟩ (fun hHeld => ?_)
    generalize g7.drew = n2 at j l m HB hHeld ⊢
    refine take_ (i := 0) (N := some 28) (v := ?_) (a' := ?_) (bo_ 6 1) rfl rfl (by kernel_rfl) (fun _ _ _ h => h) (Or.inl ⟨by rfl, ?_⟩) hHeld ?_ ?_
    rotate_left
    ·rintro w' ⟨s0, s1, s2, s3⟩
     go_simp
     with_reducible rfl
    rotate_left
    ·simp only [Act.put, List.setIfInBounds_toArray, List.set_cons_zero, List.set_cons_succ, i64_w, i32_w]
     rfl
    refine take_ (i := 2) (N := some 30) (v := ?_) (a' := ?_) (bo_ 6 5) rfl rfl (by kernel_rfl) (fun _ _ _ h => h) (Or.inl ⟨by rfl, ?_⟩) hHeld ?_ ?_
    rotate_left
    ·rintro w' ⟨s0, s1, s2, s3⟩
     go_simp
     with_reducible rfl
    rotate_left
    ·simp only [Act.put, List.setIfInBounds_toArray, List.set_cons_zero, List.set_cons_succ, i64_w, i32_w]
     rfl
    refine one_ (i := 1) (N := some 29) (bo_ 6 7) rfl rfl (by kernel_rfl) (by decide) (fun K hK => ?_)
    refine goes_ Tryz.func90 (by kernel_rfl) rfl #[.agg #[iv_ X, iv_ G]] (by rfl) rfl rfl mp_ ?_
    with_reducible refine (spec_MiddleOf.calls X G d4 _ f3.out).mono ?_
    rintro e n3 ⟨rfl, hb⟩
    refine ⟨_, rfl, sh4_ (blk_below (bk_ j) hb) (blk_below (bk_ l) hb) (blk_below (bk_ m) hb) (below_step (bl3_ HB s z a7) hb) ?_⟩
    clear j l m HB hb
    intro j l m HB
    refine hK.out _ _ ⟨(bc_ l 0 rfl), (bc_ l 1 rfl), cz2_ m⟩ (fun hHeld => ?_)
    clear hK K
    refine norm_ (show Act.put _ (some 29) _ = _ from pt_) ?_
    refine one_ (i := 3) (N := some 31) (bo_ 6 15) rfl rfl (by kernel_rfl) (by decide) (fun K hK => ?_)
    refine goes_ Tryz.func90 (by kernel_rfl) rfl #[.agg #[iv_ y, iv_ u]] (by rfl) rfl rfl mp_ ?_
    with_reducible refine (spec_MiddleOf.calls y u d5 _ f4.out).mono ?_
    rintro e n4 ⟨rfl, hb⟩
    refine ⟨_, rfl, sh4_ (blk_below (bk_ j) hb) (blk_below (bk_ l) hb) (blk_below (bk_ m) hb) (below_step (bl3_ HB s z a7) hb) ?_⟩
    clear j l m HB hb
    intro j l m HB
    refine hK.out _ _ ⟨(bc_ l 0 rfl), (bc_ l 1 rfl), cz2_ m⟩ (fun hHeld => ?_)
    clear hK K
    refine norm_ (show Act.put _ (some 31) _ = _ from pt_) ?_
    refine one_ (i := 4) (N := some 32) (bo_ 6 31) rfl rfl (by kernel_rfl) (by decide) (fun K hK => ?_)
    refine goes_ Tryz.func89 (by kernel_rfl) rfl #[iv_ d4, iv_ d5] (by rfl) rfl rfl mp_ ?_
    with_reducible refine (spec_GapOf.calls d4 d5 d6 _ f5.out).mono ?_
    rintro e w' ⟨rfl, ⟨nd, rfl⟩⟩
    refine ⟨_, rfl, ?_⟩
    refine hK.out _ _ ⟨(bc_ l 0 rfl), (bc_ l 1 rfl), cz2_ m⟩ (fun hHeld => ?_)
    clear hK K
    refine norm_ (show Act.put _ (some 32) _ = _ from pt_) ?_
    refine pu0_ 5 (bo_ 6 63) (some 12) ?_
    refine done_ (by kernel_rfl) ?_
    have i7 := cf2_ l
    have i8 := cf2_ m
    try go_wp2
    go_ret
    exact ⟨er_, bl3_ HB s z a7⟩

end Go.Proofs.YtpjhdehbikohmaaGreat.PFnExactPlanOf
