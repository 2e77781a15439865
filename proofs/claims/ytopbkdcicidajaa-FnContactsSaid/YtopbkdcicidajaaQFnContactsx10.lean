-- Written by a program of this session for this claim (the kit's printer with changes).
import Derived.Test.YtopbkdcicidajaaQFnContactsx0
import Derived.Test.YtopbkdcicidajaaQFnContactsx1
import Derived.Test.YtopbkdcicidajaaQFnContactsx3
import Derived.Test.YtopbkdcicidajaaQFnContactsx9
namespace Go.Proofs.Ytopbkdcicidajaa.PFnContacts
open Go.RowKit Go.Proofs.YtopbkdcicidajaaW.PrintWords Go.Proofs.YtopbkdcicidajaaW.PrintLast Go.Proofs.YtopbkdcicidajaaW.PrintMore
attribute [local go_sem] max2_int min2_int max_two min_two max_three min_three max_four min_four   -- for this text's walks alone
set_option linter.unusedVariables false
set_option maxHeartbeats 8000000
set_option maxRecDepth 100000
set_option linter.unusedSimpArgs false

/-! ### impl_IsSky: function 80 -/
mutual
def impl_IsSky.j0 : Nat → Bool → Int → List S72 → List S74 → Int → Int → Int → Int → Int → List S88 → Int → Option (Bool)
 | 0, _, _, _, _, _, _, _, _, _, _, _ => none
 | k + 1, b0, j, l, m, u, x, y, z, B, s, D => if b0 = true then (some false) else (impl_IsSky.l0 k l (l.length : Int) 0 j l m u x y z B s D)
def impl_IsSky.l0 : Nat → List S72 → Int → Int → Int → List S72 → List S74 → Int → Int → Int → Int → Int → List S88 → Int → Option (Bool)
 | 0, _, _, _, _, _, _, _, _, _, _, _, _, _ => none
 | k + 1, I, X, E, j, l, m, u, x, y, z, B, s, D => if E < X then (if 0 ≤ E then (if E < (I.length : Int) then ((impl_IsSat.f ((rd_T72 I E).f0) ((rd_T72 I E).f1) ((rd_T72 I E).f2) ((rd_T72 I E).f3) j).bind fun a1 => (if a1 = true then (impl_IsSky.l0 k I X (wrap64 (E + 1)) j l m u x y z B s D) else (some false))) else (none)) else (none)) else (impl_IsSky.l1 k m (m.length : Int) 0 j l m u x y z B s D)
def impl_IsSky.l1 : Nat → List S74 → Int → Int → Int → List S72 → List S74 → Int → Int → Int → Int → Int → List S88 → Int → Option (Bool)
 | 0, _, _, _, _, _, _, _, _, _, _, _, _, _ => none
 | k + 1, M, Y, G, j, l, m, u, x, y, z, B, s, D => if G < Y then (if 0 ≤ G then (if G < (M.length : Int) then ((impl_InRange.f ((rd_T74 M G).f0) 0 (wrap64 (j - 1))).bind fun a2 => (if a2 = true then ((impl_InRange.f ((rd_T74 M G).f1) 0 359).bind fun a3 => (if a3 = true then ((impl_InRange.f ((rd_T74 M G).f2) (-60) 60).bind fun a4 => (if a4 = true then (impl_IsSky.l1 k M Y (wrap64 (G + 1)) j l m u x y z B s D) else (some false))) else (some false))) else (some false))) else (none)) else (none)) else (impl_IsSky.l2 k s (s.length : Int) 0 j l m u x y z B s D)
def impl_IsSky.l2 : Nat → List S88 → Int → Int → Int → List S72 → List S74 → Int → Int → Int → Int → Int → List S88 → Int → Option (Bool)
 | 0, _, _, _, _, _, _, _, _, _, _, _, _, _ => none
 | k + 1, O, Z, J, j, l, m, u, x, y, z, B, s, D => if J < Z then (if 0 ≤ J then (if J < (O.length : Int) then ((impl_InRange.f ((rd_T88 O J).f0) 0 (wrap64 (j - 1))).bind fun a5 => (if a5 = true then ((impl_isWidth.f ((rd_T88 O J).f1.f1)).bind fun a6 => (if a6 = true then (impl_IsSky.l2 k O Z (wrap64 (J + 1)) j l m u x y z B s D) else (some false))) else (some false))) else (none)) else (none)) else ((some (([u, x, y, B] : List Int) : List Int)).bind fun a0 => (impl_IsSky.l3 k a0 (a0.length : Int) 0 j l m u x y z B s D))
def impl_IsSky.l3 : Nat → List Int → Int → Int → Int → List S72 → List S74 → Int → Int → Int → Int → Int → List S88 → Int → Option (Bool)
 | 0, _, _, _, _, _, _, _, _, _, _, _, _, _ => none
 | k + 1, T, U, L, j, l, m, u, x, y, z, B, s, D => if L < U then (if 0 ≤ L then (if L < (T.length : Int) then ((impl_InRange.f (rd T L) 0 180).bind fun a7 => (if a7 = true then (impl_IsSky.l3 k T U (wrap64 (L + 1)) j l m u x y z B s D) else (some false))) else (none)) else (none)) else ((impl_InRange.f z (-60) 60).bind fun a8 => (if a8 = true then ((impl_InRange.f D 0 20).bind fun a9 => (some a9)) else (some false)))
end
def impl_IsSky.f (k : Nat) (j : Int) (l : List S72) (m : List S74) (u x y z B : Int) (s : List S88) (D : Int) : Option (Bool) := (impl_InRange.f j 1 4).bind fun E => (if E = true then ((impl_InRange.f (l.length : Int) 1 8).bind fun G => (if G = true then (if (m.length : Int) > 4 then (impl_IsSky.j0 k true j l m u x y z B s D) else (impl_IsSky.j0 k (decide ((s.length : Int) > 4)) j l m u x y z B s D)) else (impl_IsSky.j0 k true j l m u x y z B s D))) else (impl_IsSky.j0 k true j l m u x y z B s D))
theorem impl_IsSky.calls (k : Nat) (y : Int) (b1 : Option Addr) (a6 : Nat) (l : List S72) (a3 : Option Addr) (a7 : Nat) (s : List S74) (D E G J I : Int) (a4 : Option Addr) (a8 : Nat) (u : List S88) (L : Int) (r : Bool) (w : World) (l8 : Kd.C k72 w b1 l.length l) (l5 : l.length ≤ a6) (l9 : Kd.C k74 w a3 s.length s) (l6 : s.length ≤ a7) (m0 : Kd.C k88 w a4 u.length u) (l7 : u.length ≤ a8) (h : impl_IsSky.f k y l s D E G J I u L = some r) :
  Calls Try.prog 80 #[.agg #[iv_ y, .slice b1 l.length a6, .slice a3 s.length a7, iv_ D, iv_ E, iv_ G, iv_ J, iv_ I, .slice a4 u.length a8, iv_ L]] w fun e w' => e = .returned (.bool r) ∧ Below w.heap.size w w' := by
 have u6 := Try.underlying28
 have u7 := Try.underlying72
 have u8 := Try.underlying74
 have u9 := Try.underlying88
 have j5 := Aside0.mk l8
 have o9 := Aside0.mk l5
 clear l8 l5
 have f8 := Aside0.mk l9
 have p0 := Aside0.mk l6
 clear l9 l6
 have h5 := Aside0.mk m0
 have p1 := Aside0.mk l7
 clear m0 l7
 have HB := Aside0.mk (Below.refl w.heap.size w)
 have H := h
 clear h
 unfold impl_IsSky.f at H
 have h3 := Aside0.mk H
 clear H
 go_enter Try.func80, Try.ntmps80
 go_upto_region 1 with (first | ((with_reducible refine gate_dst (N := 1) rfl ?_); (try (refine gate_guard (by rfl) ?_; dsimp only)); refine box_event ?hg (N := 1) ?hd (cs := #[iv_ y, .slice b1 l.length a6, .slice a3 s.length a7, iv_ D, iv_ E, iv_ G, iv_ J, iv_ I, .slice a4 u.length a8, iv_ L]) (t := 28) ?hr ?_; (case hd => rfl); (case hg => rfl); (case hr => first | (go_simp; done) | (go_simp; rfl)); intro d0 hg w3 hbox hb; refine sh3_ (below_step (bl_ HB) hb) hbox (ge_ hg (bl_ HB)) ?_; clear HB hb hbox hg; intro HB j m))
 (try simp only [Act.put, List.setIfInBounds_toArray, List.set_cons_zero, List.set_cons_succ])
 go_cut [33] (fun o5 wc => ∃ (kq : Nat) (g9 : Bool), o5 = .bool g9 ∧ Aside0 (impl_IsSky.j0 kq g9 y l s D E G J I u L = some r) ∧ Aside0 (kq ≤ k) ∧ Aside0 (wc.heap[d0]? = some (.cells #[iv_ y, (.slice b1 l.length a6), (.slice a3 s.length a7), iv_ D, iv_ E, iv_ G, iv_ J, iv_ I, (.slice a4 u.length a8), iv_ L] 28 (0, 0))) ∧ Aside0 (Below w.heap.size w wc))
 case first =>
  have H := h3.out
  clear h3
  replace H := bs_ H
  obtain ⟨n3, A4, H⟩ := H
  by_cases c5 : n3 = true
  ·subst c5
   rw [if_pos rfl] at H
   replace H := bs_ H
   obtain ⟨n4, A6, H⟩ := H
   by_cases c7 : n4 = true
   ·subst c7
    rw [if_pos rfl] at H
    by_cases c8 : (s.length : Int) > 4
    ·rw [if_pos c8] at H
     have e4 : decide (4 < (s.length : Int)) = true := decide_eq_true c8
     have m8 : decide (4 < s.length) = true := decide_eq_true (by omega)
     clear c8
     (first | rw [e4] | (simp only [i64_w, i32_w]; rw [e4]) | skip)
     have H' := Aside0.mk H
     clear H
     have s7 := cf10_ j
     go_wp2_with (first | ((with_reducible refine gate_callee (f := 93) rfl ?_); refine gl_ 13 Try.func93 (impl_InRange.calls y 1 4 true _ A4.out) ?_; rintro e w' ⟨rfl, ⟨nd, rfl⟩⟩; refine ⟨_, rfl, ?_⟩) | (go_at_call 93; (with_reducible refine (impl_InRange.calls (l.length : Int) 1 8 true _ A6.out).mono ?_); rintro e w' ⟨rfl, ⟨nd, rfl⟩⟩))
     go_meet
     case rel => exact ⟨_, (true), (by first | rfl | (simp; done) | (simp [*]; done)), H', ⟨by first | omega | exact Nat.le_refl _⟩, ⟨(bk_ j)⟩, ⟨bl1_ HB m⟩⟩
    ·rw [if_neg c8] at H
     have e4 : decide (4 < (s.length : Int)) = false := decide_eq_false c8
     have m8 : decide (4 < s.length) = false := decide_eq_false (by omega)
     clear c8
     (first | rw [e4] | (simp only [i64_w, i32_w]; rw [e4]) | skip)
     have H' := Aside0.mk H
     clear H
     have q0 := cf10_ j
     go_wp2_with (first | ((with_reducible refine gate_callee (f := 93) rfl ?_); refine gl_ 13 Try.func93 (impl_InRange.calls y 1 4 true _ A4.out) ?_; rintro e w' ⟨rfl, ⟨nd, rfl⟩⟩; refine ⟨_, rfl, ?_⟩) | (go_at_call 93; (with_reducible refine (impl_InRange.calls (l.length : Int) 1 8 true _ A6.out).mono ?_); rintro e w' ⟨rfl, ⟨nd, rfl⟩⟩))
     go_meet
     case rel => exact ⟨_, (decide ((u.length : Int) > 4)), (by first | rfl | (simp; done) | (simp [*]; done)), H', ⟨by first | omega | exact Nat.le_refl _⟩, ⟨(bk_ j)⟩, ⟨bl1_ HB m⟩⟩
   ·replace c7 := Bool.eq_false_iff.mpr c7
    subst c7
    have x : (impl_IsSky.j0 k true y l s D E G J I u L) = some r := by rw [if_neg (show ¬ (false = true) by decide)] at H; exact H
    clear H
    have H := x
    clear x
    have H' := Aside0.mk H
    clear H
    have q1 := cf10_ j
    go_wp2_with (first | ((with_reducible refine gate_callee (f := 93) rfl ?_); refine gl_ 13 Try.func93 (impl_InRange.calls y 1 4 true _ A4.out) ?_; rintro e w' ⟨rfl, ⟨nd, rfl⟩⟩; refine ⟨_, rfl, ?_⟩) | (go_at_call 93; (with_reducible refine (impl_InRange.calls (l.length : Int) 1 8 false _ A6.out).mono ?_); rintro e w' ⟨rfl, ⟨nd, rfl⟩⟩))
    go_meet
    case rel => exact ⟨_, (true), (by first | rfl | (simp; done) | (simp [*]; done)), H', ⟨by first | omega | exact Nat.le_refl _⟩, ⟨(bk_ j)⟩, ⟨bl1_ HB m⟩⟩
  ·replace c5 := Bool.eq_false_iff.mpr c5
   subst c5
   have x : (impl_IsSky.j0 k true y l s D E G J I u L) = some r := by rw [if_neg (show ¬ (false = true) by decide)] at H; exact H
   clear H
   have H := x
   clear x
   have H' := Aside0.mk H
   clear H
   have q2 := cf10_ j
   go_wp2_with (first | ((with_reducible refine gate_callee (f := 93) rfl ?_); refine gl_ 13 Try.func93 (impl_InRange.calls y 1 4 false _ A4.out) ?_; rintro e w' ⟨rfl, ⟨nd, rfl⟩⟩; refine ⟨_, rfl, ?_⟩))
   go_meet
   case rel => exact ⟨_, (true), (by first | rfl | (simp; done) | (simp [*]; done)), H', ⟨by first | omega | exact Nat.le_refl _⟩, ⟨(bk_ j)⟩, ⟨bl1_ HB m⟩⟩
 case rest =>
  clear h3
  obtain ⟨kq, g9, rfl, HA, b2, j, HB⟩ := hcut
  cases kq with
  | zero => exact absurd HA.out (by simp [impl_IsSky.j0])
  | succ i6 =>
   have H := HA.out
   clear HA
   simp only [impl_IsSky.j0] at H
   by_cases f9 : g9 = true
   ·subst f9
    rw [if_pos rfl] at H
    obtain rfl := Option.some.inj H
    go_wp2
    go_ret
    exact ⟨by first | (rw [hRT_.out]; rfl) | exact er_, bl1_ HB m⟩
   ·replace f9 := Bool.eq_false_iff.mpr f9
    subst f9
    have x : (impl_IsSky.l0 i6 l (l.length : Int) 0 y l s D E G J I u L) = some r := by rw [if_neg (show ¬ (false = true) by decide)] at H; exact H
    clear H
    have H := x
    clear x
    have H' := Aside0.mk H
    clear H
    have q3 := cf10_ j
    go_wp2
    go_loopg [37] i6 (fun kq o6 w' => ∃ (z : Int), o6 = iv_ z ∧ Aside0 (impl_IsSky.l0 kq l (l.length : Int) z y l s D E G J I u L = some r) ∧ Aside0 (kq ≤ i6) ∧ Aside0 (w'.heap[d0]? = some (.cells #[iv_ y, (.slice b1 l.length a6), (.slice a3 s.length a7), iv_ D, iv_ E, iv_ G, iv_ J, iv_ I, (.slice a4 u.length a8), iv_ L] 28 (0, 0))) ∧ Aside0 (Below w.heap.size w w'))
    case atStart => exact ⟨(0), (by first | rfl | (simp; done) | (simp [*]; done)), H', ⟨Nat.le_refl _⟩, ⟨(bk_ j)⟩, ⟨bl1_ HB m⟩⟩
    case round =>
     clear H'
     obtain ⟨z, rfl, HA, b3, j, HB⟩ := hrel
     cases gk with
     | zero => exact absurd HA.out (by simp [impl_IsSky.l0])
     | succ k2 =>
      have H := HA.out
      clear HA
      simp only [impl_IsSky.l0] at H
      by_cases d6 : z < (l.length : Int)
      ·rw [if_pos d6] at H
       have m4 := decide_eq_true d6
       clear d6
       replace H := ifn_ H
       obtain ⟨j8, H⟩ := H
       have p2 := decide_eq_true j8
       clear j8
       replace H := ifn_ H
       obtain ⟨j9, H⟩ := H
       have p3 := decide_eq_true j9
       clear j9
       replace H := bs_ H
       obtain ⟨n5, i7, H⟩ := H
       by_cases g0 : n5 = true
       ·subst g0
        rw [if_pos rfl] at H
        have H' := Aside0.mk H
        clear H
        have d1 : 0 ≤ (z : Int) := od_
        have d3 : z < (l.length : Int) := od_
        obtain ⟨h8, i0, e7, e8, e9, f4⟩ := at_T72 j5.out z d1 d3
        cases i0
        replace e7 := hbc_ HB e7
        replace e8 := hbc_ HB e8
        replace e9 := hbc_ HB e9
        replace f4 := hbc_ HB f4
        replace d1 := eq_true d1
        replace d3 := eq_true d3
        go_wp2_with (first | ((with_reducible refine gate_dst (N := 4) rfl ?_); (try (refine gate_guard (by rfl) ?_; dsimp only)); refine box_event ?hg (N := 4) ?hd (cs := #[iv_ 0, iv_ 0, iv_ 0, iv_ 0]) (t := 72) ?hr ?_; (case hd => rfl); (case hg => rfl); (case hr => first | (go_simp; done) | (go_simp; rfl)); intro i2 hg v1 hbox hb; refine sh6_ (blk_below (bk_ j) hb) (below_step (bl1_ HB m) hb) hbox (ge_ hg (bl1_ HB m)) (nl_ hg (bk_ j)) (ng_ hg (bk_ j)) ?_; clear j HB hb hbox hg; intro j HB a9 e1 h6 h7; have s8 := h7.out; have t7 := h6.out; have q4 := cf4_ a9; have q5 := cf10_ j) | ((with_reducible refine gate_callee (f := 113) rfl ?_); refine gl_ 44 Try.func113 (impl_IsSat.calls ((rd_T72 l z).f0) ((rd_T72 l z).f1) ((rd_T72 l z).f2) ((rd_T72 l z).f3) y true _ i7.out) ?_; rintro e v2 ⟨rfl, hb⟩; refine ⟨_, rfl, sh3_ (blk_below (g := d0) (o := .cells #[iv_ y, .slice (some h8) l.length a6, .slice a3 s.length a7, iv_ D, iv_ E, iv_ G, iv_ J, iv_ I, .slice a4 u.length a8, iv_ L] 28 (0, 0)) (bp_ j) hb) (blk_below (g := i2) (o := .cells #[iv_ ((rd_T72 l z).f0), iv_ ((rd_T72 l z).f1), iv_ ((rd_T72 l z).f2), iv_ ((rd_T72 l z).f3)] 72 (0, 0)) (bp_ a9) hb) (below_step (bl2_ HB m e1) hb) ?_⟩; clear j a9 HB hb; intro j a9 HB))
        go_roundg k2
        case measure => have := b2.out; have := b3.out; omega
        case rel => exact ⟨(wrap64 (z + 1)), (by first | rfl | (simp; done) | (simp [*]; done)), H', ⟨by have := b2.out; have := b3.out; omega⟩, ⟨(bk_ j)⟩, ⟨bl2_ HB m e1⟩⟩
       ·replace g0 := Bool.eq_false_iff.mpr g0
        subst g0
        have x : (some false) = some r := by rw [if_neg (show ¬ (false = true) by decide)] at H; exact H
        clear H
        have H := x
        clear x
        obtain rfl := Option.some.inj H
        have d1 : 0 ≤ (z : Int) := od_
        have d3 : z < (l.length : Int) := od_
        obtain ⟨h8, i0, e7, e8, e9, f4⟩ := at_T72 j5.out z d1 d3
        cases i0
        replace e7 := hbc_ HB e7
        replace e8 := hbc_ HB e8
        replace e9 := hbc_ HB e9
        replace f4 := hbc_ HB f4
        replace d1 := eq_true d1
        replace d3 := eq_true d3
        go_wp2_with (first | ((with_reducible refine gate_dst (N := 4) rfl ?_); (try (refine gate_guard (by rfl) ?_; dsimp only)); refine box_event ?hg (N := 4) ?hd (cs := #[iv_ 0, iv_ 0, iv_ 0, iv_ 0]) (t := 72) ?hr ?_; (case hd => rfl); (case hg => rfl); (case hr => first | (go_simp; done) | (go_simp; rfl)); intro i2 hg v3 hbox hb; refine sh6_ (blk_below (bk_ j) hb) (below_step (bl1_ HB m) hb) hbox (ge_ hg (bl1_ HB m)) (nl_ hg (bk_ j)) (ng_ hg (bk_ j)) ?_; clear j HB hb hbox hg; intro j HB a9 e1 h6 h7; have s9 := h7.out; have t8 := h6.out; have q6 := cf4_ a9; have q7 := cf10_ j) | ((with_reducible refine gate_callee (f := 113) rfl ?_); refine gl_ 44 Try.func113 (impl_IsSat.calls ((rd_T72 l z).f0) ((rd_T72 l z).f1) ((rd_T72 l z).f2) ((rd_T72 l z).f3) y false _ i7.out) ?_; rintro e v4 ⟨rfl, hb⟩; refine ⟨_, rfl, sh3_ (blk_below (g := d0) (o := .cells #[iv_ y, .slice (some h8) l.length a6, .slice a3 s.length a7, iv_ D, iv_ E, iv_ G, iv_ J, iv_ I, .slice a4 u.length a8, iv_ L] 28 (0, 0)) (bp_ j) hb) (blk_below (g := i2) (o := .cells #[iv_ ((rd_T72 l z).f0), iv_ ((rd_T72 l z).f1), iv_ ((rd_T72 l z).f2), iv_ ((rd_T72 l z).f3)] 72 (0, 0)) (bp_ a9) hb) (below_step (bl2_ HB m e1) hb) ?_⟩; clear j a9 HB hb; intro j a9 HB))
        go_ret
        exact ⟨by first | (rw [hRT_.out]; rfl) | exact er_, bl2_ HB m e1⟩
      ·rw [if_neg d6] at H
       have m4 : decide (z < (l.length : Int)) = false := decide_eq_false d6
       clear d6
       have H' := Aside0.mk H
       clear H
       have q8 := cf10_ j
       go_wp2
       go_loopg [50] k2 (fun kq o7 w' => ∃ (B : Int), o7 = iv_ B ∧ Aside0 (impl_IsSky.l1 kq s (s.length : Int) B y l s D E G J I u L = some r) ∧ Aside0 (kq ≤ k2) ∧ Aside0 (w'.heap[d0]? = some (.cells #[iv_ y, (.slice b1 l.length a6), (.slice a3 s.length a7), iv_ D, iv_ E, iv_ G, iv_ J, iv_ I, (.slice a4 u.length a8), iv_ L] 28 (0, 0))) ∧ Aside0 (Below w.heap.size w w'))
       case atStart => exact ⟨(0), (by first | rfl | (simp; done) | (simp [*]; done)), H', ⟨Nat.le_refl _⟩, ⟨(bk_ j)⟩, ⟨bl1_ HB m⟩⟩
       case round =>
        clear H'
        obtain ⟨B, rfl, HA, d5, j, HB⟩ := hrel
        cases gk with
        | zero => exact absurd HA.out (by simp [impl_IsSky.l1])
        | succ k3 =>
         have H := HA.out
         clear HA
         simp only [impl_IsSky.l1] at H
         by_cases d7 : B < (s.length : Int)
         ·rw [if_pos d7] at H
          have m5 := decide_eq_true d7
          clear d7
          replace H := ifn_ H
          obtain ⟨k0, H⟩ := H
          have p4 := decide_eq_true k0
          clear k0
          replace H := ifn_ H
          obtain ⟨k1, H⟩ := H
          have p5 := decide_eq_true k1
          clear k1
          replace H := bs_ H
          obtain ⟨n6, f5, H⟩ := H
          by_cases g1 : n6 = true
          ·subst g1
           rw [if_pos rfl] at H
           replace H := bs_ H
           obtain ⟨n7, h0, H⟩ := H
           by_cases g2 : n7 = true
           ·subst g2
            rw [if_pos rfl] at H
            replace H := bs_ H
            obtain ⟨n8, i8, H⟩ := H
            by_cases g3 : n8 = true
            ·subst g3
             rw [if_pos rfl] at H
             have H' := Aside0.mk H
             clear H
             have T : 0 ≤ (B : Int) := od_
             have U : B < (s.length : Int) := od_
             obtain ⟨h9, c1, Y, Z, a0⟩ := at_T74 f8.out B T U
             cases c1
             replace Y := hbc_ HB Y
             replace Z := hbc_ HB Z
             replace a0 := hbc_ HB a0
             replace T := eq_true T
             replace U := eq_true U
             go_wp2_with (first | ((with_reducible refine gate_dst (N := 6) rfl ?_); (try (refine gate_guard (by rfl) ?_; dsimp only)); refine box_event ?hg (N := 6) ?hd (cs := #[iv_ 0, iv_ 0, iv_ 0]) (t := 74) ?hr ?_; (case hd => rfl); (case hg => rfl); (case hr => first | (go_simp; done) | (go_simp; rfl)); intro i3 hg v6 hbox hb; refine sh6_ (blk_below (bk_ j) hb) (below_step (bl1_ HB m) hb) hbox (ge_ hg (bl1_ HB m)) (nl_ hg (bk_ j)) (ng_ hg (bk_ j)) ?_; clear j HB hb hbox hg; intro j HB b8 b9 a5 c0; have t0 := c0.out; have t9 := a5.out; have q9 := cf3_ b8; have r0 := cf10_ j) | ((with_reducible refine gate_callee (f := 93) rfl ?_); refine gl_ 59 Try.func93 (impl_InRange.calls ((rd_T74 s B).f0) 0 (wrap64 (y - 1)) true _ f5.out) ?_; rintro e w' ⟨rfl, ⟨nd, rfl⟩⟩; refine ⟨_, rfl, ?_⟩) | (go_at_call 93; (with_reducible refine (impl_InRange.calls ((rd_T74 s B).f1) 0 359 true _ h0.out).mono ?_); rintro e w' ⟨rfl, ⟨nd, rfl⟩⟩) | (go_at_call 93; (with_reducible refine (impl_InRange.calls ((rd_T74 s B).f2) (-60) 60 true _ i8.out).mono ?_); rintro e w' ⟨rfl, ⟨nd, rfl⟩⟩))
             go_roundg k3
             case measure => have := b2.out; have := b3.out; have := d5.out; omega
             case rel => exact ⟨(wrap64 (B + 1)), (by first | rfl | (simp; done) | (simp [*]; done)), H', ⟨by have := b2.out; have := b3.out; have := d5.out; omega⟩, ⟨by (with_reducible repeat (first | refine blk_drewN ?_ _ | refine blk_drew ?_ | refine blk_alloc ?_ _)); refine blk_far ?_ a5.out _; (with_reducible repeat (first | refine blk_drewN ?_ _ | refine blk_drew ?_ | refine blk_alloc ?_ _)); refine blk_far ?_ a5.out _; (with_reducible repeat (first | refine blk_drewN ?_ _ | refine blk_drew ?_ | refine blk_alloc ?_ _)); refine blk_far ?_ a5.out _; exact bk_ j⟩, ⟨bl2_ HB m b9⟩⟩
            ·replace g3 := Bool.eq_false_iff.mpr g3
             subst g3
             have x : (some false) = some r := by rw [if_neg (show ¬ (false = true) by decide)] at H; exact H
             clear H
             have H := x
             clear x
             obtain rfl := Option.some.inj H
             have T : 0 ≤ (B : Int) := od_
             have U : B < (s.length : Int) := od_
             obtain ⟨h9, c1, Y, Z, a0⟩ := at_T74 f8.out B T U
             cases c1
             replace Y := hbc_ HB Y
             replace Z := hbc_ HB Z
             replace a0 := hbc_ HB a0
             replace T := eq_true T
             replace U := eq_true U
             go_wp2_with (first | ((with_reducible refine gate_dst (N := 6) rfl ?_); (try (refine gate_guard (by rfl) ?_; dsimp only)); refine box_event ?hg (N := 6) ?hd (cs := #[iv_ 0, iv_ 0, iv_ 0]) (t := 74) ?hr ?_; (case hd => rfl); (case hg => rfl); (case hr => first | (go_simp; done) | (go_simp; rfl)); intro i3 hg v7 hbox hb; refine sh6_ (blk_below (bk_ j) hb) (below_step (bl1_ HB m) hb) hbox (ge_ hg (bl1_ HB m)) (nl_ hg (bk_ j)) (ng_ hg (bk_ j)) ?_; clear j HB hb hbox hg; intro j HB b8 b9 a5 c0; have t1 := c0.out; have u0 := a5.out; have r1 := cf3_ b8; have r2 := cf10_ j) | ((with_reducible refine gate_callee (f := 93) rfl ?_); refine gl_ 59 Try.func93 (impl_InRange.calls ((rd_T74 s B).f0) 0 (wrap64 (y - 1)) true _ f5.out) ?_; rintro e w' ⟨rfl, ⟨nd, rfl⟩⟩; refine ⟨_, rfl, ?_⟩) | (go_at_call 93; (with_reducible refine (impl_InRange.calls ((rd_T74 s B).f1) 0 359 true _ h0.out).mono ?_); rintro e w' ⟨rfl, ⟨nd, rfl⟩⟩) | (go_at_call 93; (with_reducible refine (impl_InRange.calls ((rd_T74 s B).f2) (-60) 60 false _ i8.out).mono ?_); rintro e w' ⟨rfl, ⟨nd, rfl⟩⟩))
             go_ret
             exact ⟨by first | (rw [hRT_.out]; rfl) | exact er_, bl2_ HB m b9⟩
           ·replace g2 := Bool.eq_false_iff.mpr g2
            subst g2
            have x : (some false) = some r := by rw [if_neg (show ¬ (false = true) by decide)] at H; exact H
            clear H
            have H := x
            clear x
            obtain rfl := Option.some.inj H
            have T : 0 ≤ (B : Int) := od_
            have U : B < (s.length : Int) := od_
            obtain ⟨h9, c1, Y, Z, a0⟩ := at_T74 f8.out B T U
            cases c1
            replace Y := hbc_ HB Y
            replace Z := hbc_ HB Z
            replace a0 := hbc_ HB a0
            replace T := eq_true T
            replace U := eq_true U
            go_wp2_with (first | ((with_reducible refine gate_dst (N := 6) rfl ?_); (try (refine gate_guard (by rfl) ?_; dsimp only)); refine box_event ?hg (N := 6) ?hd (cs := #[iv_ 0, iv_ 0, iv_ 0]) (t := 74) ?hr ?_; (case hd => rfl); (case hg => rfl); (case hr => first | (go_simp; done) | (go_simp; rfl)); intro i3 hg v8 hbox hb; refine sh6_ (blk_below (bk_ j) hb) (below_step (bl1_ HB m) hb) hbox (ge_ hg (bl1_ HB m)) (nl_ hg (bk_ j)) (ng_ hg (bk_ j)) ?_; clear j HB hb hbox hg; intro j HB b8 b9 a5 c0; have t2 := c0.out; have u1 := a5.out; have r3 := cf3_ b8; have r4 := cf10_ j) | ((with_reducible refine gate_callee (f := 93) rfl ?_); refine gl_ 59 Try.func93 (impl_InRange.calls ((rd_T74 s B).f0) 0 (wrap64 (y - 1)) true _ f5.out) ?_; rintro e w' ⟨rfl, ⟨nd, rfl⟩⟩; refine ⟨_, rfl, ?_⟩) | (go_at_call 93; (with_reducible refine (impl_InRange.calls ((rd_T74 s B).f1) 0 359 false _ h0.out).mono ?_); rintro e w' ⟨rfl, ⟨nd, rfl⟩⟩))
            go_ret
            exact ⟨by first | (rw [hRT_.out]; rfl) | exact er_, bl2_ HB m b9⟩
          ·replace g1 := Bool.eq_false_iff.mpr g1
           subst g1
           have x : (some false) = some r := by rw [if_neg (show ¬ (false = true) by decide)] at H; exact H
           clear H
           have H := x
           clear x
           obtain rfl := Option.some.inj H
           have T : 0 ≤ (B : Int) := od_
           have U : B < (s.length : Int) := od_
           obtain ⟨h9, c1, Y, Z, a0⟩ := at_T74 f8.out B T U
           cases c1
           replace Y := hbc_ HB Y
           replace Z := hbc_ HB Z
           replace a0 := hbc_ HB a0
           replace T := eq_true T
           replace U := eq_true U
           go_wp2_with (first | ((with_reducible refine gate_dst (N := 6) rfl ?_); (try (refine gate_guard (by rfl) ?_; dsimp only)); refine box_event ?hg (N := 6) ?hd (cs := #[iv_ 0, iv_ 0, iv_ 0]) (t := 74) ?hr ?_; (case hd => rfl); (case hg => rfl); (case hr => first | (go_simp; done) | (go_simp; rfl)); intro i3 hg v9 hbox hb; refine sh6_ (blk_below (bk_ j) hb) (below_step (bl1_ HB m) hb) hbox (ge_ hg (bl1_ HB m)) (nl_ hg (bk_ j)) (ng_ hg (bk_ j)) ?_; clear j HB hb hbox hg; intro j HB b8 b9 a5 c0; have t3 := c0.out; have u2 := a5.out; have r5 := cf3_ b8; have r6 := cf10_ j) | ((with_reducible refine gate_callee (f := 93) rfl ?_); refine gl_ 59 Try.func93 (impl_InRange.calls ((rd_T74 s B).f0) 0 (wrap64 (y - 1)) false _ f5.out) ?_; rintro e w' ⟨rfl, ⟨nd, rfl⟩⟩; refine ⟨_, rfl, ?_⟩))
           go_ret
           exact ⟨by first | (rw [hRT_.out]; rfl) | exact er_, bl2_ HB m b9⟩
         ·rw [if_neg d7] at H
          have m5 : decide (B < (s.length : Int)) = false := decide_eq_false d7
          clear d7
          have H' := Aside0.mk H
          clear H
          have r7 := cf10_ j
          go_wp2
          go_loopg [77] k3 (fun kq o8 w' => ∃ (O : Int), o8 = iv_ O ∧ Aside0 (impl_IsSky.l2 kq u (u.length : Int) O y l s D E G J I u L = some r) ∧ Aside0 (kq ≤ k3) ∧ Aside0 (w'.heap[d0]? = some (.cells #[iv_ y, (.slice b1 l.length a6), (.slice a3 s.length a7), iv_ D, iv_ E, iv_ G, iv_ J, iv_ I, (.slice a4 u.length a8), iv_ L] 28 (0, 0))) ∧ Aside0 (Below w.heap.size w w'))
          case atStart => exact ⟨(0), (by first | rfl | (simp; done) | (simp [*]; done)), H', ⟨Nat.le_refl _⟩, ⟨(bk_ j)⟩, ⟨bl1_ HB m⟩⟩
          case round =>
           clear H'
           obtain ⟨O, rfl, HA, f7, j, HB⟩ := hrel
           cases gk with
           | zero => exact absurd HA.out (by simp [impl_IsSky.l2])
           | succ k4 =>
            have H := HA.out
            clear HA
            simp only [impl_IsSky.l2] at H
            by_cases d8 : O < (u.length : Int)
            ·rw [if_pos d8] at H
             have m6 := decide_eq_true d8
             clear d8
             replace H := ifn_ H
             obtain ⟨k6, H⟩ := H
             have p6 := decide_eq_true k6
             clear k6
             replace H := ifn_ H
             obtain ⟨k7, H⟩ := H
             have p7 := decide_eq_true k7
             clear k7
             replace H := bs_ H
             obtain ⟨n9, h2, H⟩ := H
             by_cases g4 : n9 = true
             ·subst g4
              rw [if_pos rfl] at H
              replace H := bs_ H
              obtain ⟨o0, i9, H⟩ := H
              by_cases g5 : o0 = true
              ·subst g5
               rw [if_pos rfl] at H
               have H' := Aside0.mk H
               clear H
               have a1 : 0 ≤ (O : Int) := od_
               have a2 : O < (u.length : Int) := od_
               obtain ⟨j7, e5, b5, b6, b7⟩ := at_T88 h5.out O a1 a2
               cases e5
               replace b5 := hbc_ HB b5
               replace b6 := hbc_ HB b6
               replace b7 := hbc_ HB b7
               replace a1 := eq_true a1
               replace a2 := eq_true a2
               go_wp2_with (first | ((with_reducible refine gate_dst (N := 8) rfl ?_); (try (refine gate_guard (by rfl) ?_; dsimp only)); refine box_event ?hg (N := 8) ?hd (cs := #[iv_ 0, iv_ 0, iv_ 0]) (t := 88) ?hr ?_; (case hd => rfl); (case hg => rfl); (case hr => first | (go_simp; done) | (go_simp; rfl)); intro l4 hg w1 hbox hb; refine sh6_ (blk_below (bk_ j) hb) (below_step (bl1_ HB m) hb) hbox (ge_ hg (bl1_ HB m)) (nl_ hg (bk_ j)) (ng_ hg (bk_ j)) ?_; clear j HB hb hbox hg; intro j HB e0 e2 b4 e3; have t4 := e3.out; have u3 := b4.out; have r8 := cf3_ e0; have r9 := cf10_ j) | ((with_reducible refine gate_callee (f := 93) rfl ?_); refine gl_ 86 Try.func93 (impl_InRange.calls ((rd_T88 u O).f0) 0 (wrap64 (y - 1)) true _ h2.out) ?_; rintro e w' ⟨rfl, ⟨nd, rfl⟩⟩; refine ⟨_, rfl, ?_⟩) | (go_at_call 92; (with_reducible refine (impl_isWidth.calls ((rd_T88 u O).f1.f1) true _ i9.out).mono ?_); rintro e w' ⟨rfl, ⟨nd, rfl⟩⟩))
               go_roundg k4
               case measure => have := b2.out; have := b3.out; have := d5.out; have := f7.out; omega
               case rel => exact ⟨(wrap64 (O + 1)), (by first | rfl | (simp; done) | (simp [*]; done)), H', ⟨by have := b2.out; have := b3.out; have := d5.out; have := f7.out; omega⟩, ⟨by (with_reducible repeat (first | refine blk_drewN ?_ _ | refine blk_drew ?_ | refine blk_alloc ?_ _)); refine blk_far ?_ b4.out _; (with_reducible repeat (first | refine blk_drewN ?_ _ | refine blk_drew ?_ | refine blk_alloc ?_ _)); refine blk_far ?_ b4.out _; (with_reducible repeat (first | refine blk_drewN ?_ _ | refine blk_drew ?_ | refine blk_alloc ?_ _)); refine blk_far ?_ b4.out _; exact bk_ j⟩, ⟨bl2_ HB m e2⟩⟩
              ·replace g5 := Bool.eq_false_iff.mpr g5
               subst g5
               have x : (some false) = some r := by rw [if_neg (show ¬ (false = true) by decide)] at H; exact H
               clear H
               have H := x
               clear x
               obtain rfl := Option.some.inj H
               have a1 : 0 ≤ (O : Int) := od_
               have a2 : O < (u.length : Int) := od_
               obtain ⟨j7, e5, b5, b6, b7⟩ := at_T88 h5.out O a1 a2
               cases e5
               replace b5 := hbc_ HB b5
               replace b6 := hbc_ HB b6
               replace b7 := hbc_ HB b7
               replace a1 := eq_true a1
               replace a2 := eq_true a2
               go_wp2_with (first | ((with_reducible refine gate_dst (N := 8) rfl ?_); (try (refine gate_guard (by rfl) ?_; dsimp only)); refine box_event ?hg (N := 8) ?hd (cs := #[iv_ 0, iv_ 0, iv_ 0]) (t := 88) ?hr ?_; (case hd => rfl); (case hg => rfl); (case hr => first | (go_simp; done) | (go_simp; rfl)); intro l4 hg w2 hbox hb; refine sh6_ (blk_below (bk_ j) hb) (below_step (bl1_ HB m) hb) hbox (ge_ hg (bl1_ HB m)) (nl_ hg (bk_ j)) (ng_ hg (bk_ j)) ?_; clear j HB hb hbox hg; intro j HB e0 e2 b4 e3; have t5 := e3.out; have u4 := b4.out; have s0 := cf3_ e0; have s1 := cf10_ j) | ((with_reducible refine gate_callee (f := 93) rfl ?_); refine gl_ 86 Try.func93 (impl_InRange.calls ((rd_T88 u O).f0) 0 (wrap64 (y - 1)) true _ h2.out) ?_; rintro e w' ⟨rfl, ⟨nd, rfl⟩⟩; refine ⟨_, rfl, ?_⟩) | (go_at_call 92; (with_reducible refine (impl_isWidth.calls ((rd_T88 u O).f1.f1) false _ i9.out).mono ?_); rintro e w' ⟨rfl, ⟨nd, rfl⟩⟩))
               go_ret
               exact ⟨by first | (rw [hRT_.out]; rfl) | exact er_, bl2_ HB m e2⟩
             ·replace g4 := Bool.eq_false_iff.mpr g4
              subst g4
              have x : (some false) = some r := by rw [if_neg (show ¬ (false = true) by decide)] at H; exact H
              clear H
              have H := x
              clear x
              obtain rfl := Option.some.inj H
              have a1 : 0 ≤ (O : Int) := od_
              have a2 : O < (u.length : Int) := od_
              obtain ⟨j7, e5, b5, b6, b7⟩ := at_T88 h5.out O a1 a2
              cases e5
              replace b5 := hbc_ HB b5
              replace b6 := hbc_ HB b6
              replace b7 := hbc_ HB b7
              replace a1 := eq_true a1
              replace a2 := eq_true a2
              go_wp2_with (first | ((with_reducible refine gate_dst (N := 8) rfl ?_); (try (refine gate_guard (by rfl) ?_; dsimp only)); refine box_event ?hg (N := 8) ?hd (cs := #[iv_ 0, iv_ 0, iv_ 0]) (t := 88) ?hr ?_; (case hd => rfl); (case hg => rfl); (case hr => first | (go_simp; done) | (go_simp; rfl)); intro l4 hg w4 hbox hb; refine sh6_ (blk_below (bk_ j) hb) (below_step (bl1_ HB m) hb) hbox (ge_ hg (bl1_ HB m)) (nl_ hg (bk_ j)) (ng_ hg (bk_ j)) ?_; clear j HB hb hbox hg; intro j HB e0 e2 b4 e3; have t6 := e3.out; have u5 := b4.out; have s2 := cf3_ e0; have s3 := cf10_ j) | ((with_reducible refine gate_callee (f := 93) rfl ?_); refine gl_ 86 Try.func93 (impl_InRange.calls ((rd_T88 u O).f0) 0 (wrap64 (y - 1)) false _ h2.out) ?_; rintro e w' ⟨rfl, ⟨nd, rfl⟩⟩; refine ⟨_, rfl, ?_⟩))
              go_ret
              exact ⟨by first | (rw [hRT_.out]; rfl) | exact er_, bl2_ HB m e2⟩
            ·rw [if_neg d8] at H
             have m6 : decide (O < (u.length : Int)) = false := decide_eq_false d8
             clear d8
             replace H : ∃ y_ : List Int, Aside0 (y_ = (([D, E, G, I] : List Int))) ∧ (impl_IsSky.l3 k4 y_ (y_.length : Int) 0 y l s D E G J I u L) = some r := ⟨_, ⟨rfl⟩, yh_ H⟩
             obtain ⟨b0, j6, H⟩ := H
             have H' := Aside0.mk H
             clear H
             have s4 := cf10_ j
             go_wp2_with (first | ((with_reducible refine gate_dst (N := 104) rfl ?_); (try (refine gate_guard (by rfl) ?_; dsimp only)); refine Kd.R_lit (Kd.int .i64) _ 3 ?hg (N := 104) ?hd (xs := ([D, E, G, I] : List Int)) (inner := [iv_ D, iv_ E, iv_ G, iv_ I]) (ok := fun _ => True) (okp := fun _ => True) ?hr ?hp (fun _ hk => hk) trivial (Below.refl _ _) (Nat.le_refl _) (by simp) ?_; (case hd => rfl); (case hg => rfl); (case hr => first | (go_simp; done) | (go_simp; rfl)); (case hp => exact (Reps.one (show Kd.M (Kd.int .i64) _ _ _ D [iv_ D] from rfl) (Reps.one (show Kd.M (Kd.int .i64) _ _ _ E [iv_ E] from rfl) (Reps.one (show Kd.M (Kd.int .i64) _ _ _ G [iv_ G] from rfl) (Reps.one (show Kd.M (Kd.int .i64) _ _ _ I [iv_ I] from rfl) (Reps.none _ _)))))); intro v0 w5 e6 hb hg_ hnew_; clear hg_ hnew_; (first | rw [← j6.out] at e6 | (simp only [Int.reduceToNat] at e6; rw [← j6.out] at e6)); refine sh3_ (Kd.R_lower e6 (below_size (bl1_ HB m))) (blk_below (bk_ j) hb) (below_step (bl1_ HB m) hb) ?_; clear j HB hb e6; intro j4 j HB; obtain ⟨m2, m9, n0⟩ := Kd.R_slice j4.out; subst n0))
             go_loopg [106] k4 (fun kq o4 w' => ∃ (X : Int), o4 = iv_ X ∧ Aside0 (impl_IsSky.l3 kq b0 (b0.length : Int) X y l s D E G J I u L = some r) ∧ Aside0 (kq ≤ k4) ∧ Aside0 (Kd.R (Kd.int .i64) 3 w' w.heap.size (fun _ => True) (.slice m2 b0.length m9) b0) ∧ Aside0 (w'.heap[d0]? = some (.cells #[iv_ y, (.slice b1 l.length a6), (.slice a3 s.length a7), iv_ D, iv_ E, iv_ G, iv_ J, iv_ I, (.slice a4 u.length a8), iv_ L] 28 (0, 0))) ∧ Aside0 (Below w.heap.size w w'))
             case atStart => exact ⟨(0), (by first | rfl | (simp; done) | (simp [*]; done)), H', ⟨Nat.le_refl _⟩, ⟨ra_ j4⟩, ⟨(bk_ j)⟩, ⟨bl1_ HB m⟩⟩
             case round =>
              clear H'
              obtain ⟨X, rfl, HA, j3, h4, j, HB⟩ := hrel
              cases gk with
              | zero => exact absurd HA.out (by simp [impl_IsSky.l3])
              | succ k5 =>
               have H := HA.out
               clear HA
               simp only [impl_IsSky.l3] at H
               by_cases d9 : X < (b0.length : Int)
               ·rw [if_pos d9] at H
                have m7 := decide_eq_true d9
                clear d9
                replace H := ifn_ H
                obtain ⟨k8, H⟩ := H
                have p8 := decide_eq_true k8
                clear k8
                replace H := ifn_ H
                obtain ⟨k9, H⟩ := H
                have p9 := decide_eq_true k9
                clear k9
                replace H := bs_ H
                obtain ⟨o1, j1, H⟩ := H
                by_cases g6 : o1 = true
                ·subst g6
                 rw [if_pos rfl] at H
                 have H' := Aside0.mk H
                 clear H
                 have d2 : 0 ≤ (X : Int) := od_
                 have d4 : X < (b0.length : Int) := od_
                 obtain ⟨m3, i1, n1⟩ := Kd.at_int (Kd.R_reads' h4.out).2.2 X d2 d4
                 cases i1
                 replace d2 := eq_true d2
                 replace d4 := eq_true d4
                 go_wp2_with (first | ((with_reducible refine gate_callee (f := 93) rfl ?_); refine gl_ 111 Try.func93 (impl_InRange.calls (rd b0 X) 0 180 true _ j1.out) ?_; rintro e w' ⟨rfl, ⟨nd, rfl⟩⟩; refine ⟨_, rfl, ?_⟩))
                 go_roundg k5
                 case measure => have := b2.out; have := b3.out; have := d5.out; have := f7.out; have := j3.out; omega
                 case rel => exact ⟨(wrap64 (X + 1)), (by first | rfl | (simp; done) | (simp [*]; done)), H', ⟨by have := b2.out; have := b3.out; have := d5.out; have := f7.out; have := j3.out; omega⟩, ⟨ra_ h4⟩, ⟨(bk_ j)⟩, ⟨bl1_ HB m⟩⟩
                ·replace g6 := Bool.eq_false_iff.mpr g6
                 subst g6
                 have x : (some false) = some r := by rw [if_neg (show ¬ (false = true) by decide)] at H; exact H
                 clear H
                 have H := x
                 clear x
                 obtain rfl := Option.some.inj H
                 have d2 : 0 ≤ (X : Int) := od_
                 have d4 : X < (b0.length : Int) := od_
                 obtain ⟨m3, i1, n1⟩ := Kd.at_int (Kd.R_reads' h4.out).2.2 X d2 d4
                 cases i1
                 replace d2 := eq_true d2
                 replace d4 := eq_true d4
                 go_wp2_with (first | ((with_reducible refine gate_callee (f := 93) rfl ?_); refine gl_ 111 Try.func93 (impl_InRange.calls (rd b0 X) 0 180 false _ j1.out) ?_; rintro e w' ⟨rfl, ⟨nd, rfl⟩⟩; refine ⟨_, rfl, ?_⟩))
                 go_ret
                 exact ⟨by first | (rw [hRT_.out]; rfl) | exact er_, bl1_ HB m⟩
               ·rw [if_neg d9] at H
                have m7 := decide_eq_false d9
                clear d9
                replace H := bs_ H
                obtain ⟨o2, j2, H⟩ := H
                by_cases g7 : o2 = true
                ·subst g7
                 rw [if_pos rfl] at H
                 replace H := bs_ H
                 obtain ⟨o3, m1, H⟩ := H
                 obtain rfl := Option.some.inj H
                 have s5 := cf10_ j
                 go_wp2_with (first | ((with_reducible refine gate_callee (f := 93) rfl ?_); refine gl_ 116 Try.func93 (impl_InRange.calls J (-60) 60 true _ j2.out) ?_; rintro e w' ⟨rfl, ⟨nd, rfl⟩⟩; refine ⟨_, rfl, ?_⟩) | (go_at_call 93; (with_reducible refine (impl_InRange.calls L 0 20 o3 _ m1.out).mono ?_); rintro e w' ⟨rfl, ⟨nd, rfl⟩⟩))
                 go_ret
                 exact ⟨by first | (rw [hRT_.out]; rfl) | exact er_, bl1_ HB m⟩
                ·replace g7 := Bool.eq_false_iff.mpr g7
                 subst g7
                 have x : (some false) = some r := by rw [if_neg (show ¬ (false = true) by decide)] at H; exact H
                 clear H
                 have H := x
                 clear x
                 obtain rfl := Option.some.inj H
                 have s6 := cf10_ j
                 go_wp2_with (first | ((with_reducible refine gate_callee (f := 93) rfl ?_); refine gl_ 116 Try.func93 (impl_InRange.calls J (-60) 60 false _ j2.out) ?_; rintro e w' ⟨rfl, ⟨nd, rfl⟩⟩; refine ⟨_, rfl, ?_⟩))
                 go_ret
                 exact ⟨by first | (rw [hRT_.out]; rfl) | exact er_, bl1_ HB m⟩

end Go.Proofs.Ytopbkdcicidajaa.PFnContacts
