/- At every code of at most 2^20 bytes, the pieces of time of the drawn contacts follow one another without gaps, the links do not change within a piece, and the neighbors of the drawn links are told in order and both ways. -/
import Derived.Test.YtlljhblilicnfaaQFnGraphsx
import Derived.Test.YtlljhblilicnfaaKKit
namespace Go.Proofs.Ytlljhblilicnfaa.Pure
open Go.RowKit Go.Proofs.Ytlljhblilicnfaa.PFnGraphs Go.Proofs.YtlljhblilicnfaaW.PrintWords Go.Proofs.YtlljhblilicnfaaW.PrintLast Go.Proofs.YtlljhblilicnfaaW.PrintMore Go.Proofs.Ytlljhblilicnfaa
set_option linter.unusedSimpArgs false
set_option linter.unusedVariables false
namespace LFnGraphs
theorem and255 (n : Int) : Go.bits .and .i64 n 255 = n % 256 := by
  have h255 : (BitVec.ofInt 64 255).toNat = 2 ^ 8 - 1 := by decide
  have key : (BitVec.ofInt 64 n &&& BitVec.ofInt 64 255).toNat = (n % ((2 ^ 64 : Nat) : Int)).toNat % 2 ^ 8 := by
    rw [BitVec.toNat_and, BitVec.toNat_ofInt, h255, Nat.and_two_pow_sub_one_eq_mod]
  show IntKind.i64.wrap ((BitVec.ofInt 64 n &&& BitVec.ofInt 64 255).toNat : Nat) = n % 256
  rw [key, IntKind.wrap_i64]
  omega
theorem l1New (l : List Int) (hl : l.length ≤ 1048576) : ∃ h, Ev (fun k => spec_l1New.f k l) (l, 0, h) := by
  have loop : ∀ (d : Nat) (h i : Int), 0 ≤ i → (l.length : Int) - i = d → ∃ h', Ev (fun k => spec_l1New.l0 k l h i) (l, 0, h') := by
    intro d
    induction d with
    | zero =>
      intro h i h0 hd
      refine ⟨h, K.succ ?_⟩
      simp only [spec_l1New.l0]
      exact K.neg (by omega) (Ev.now _)
    | succ d ih =>
      intro h i h0 hd
      by_cases c : i < 4000
      · obtain ⟨h', g⟩ := ih (Go.bits .and .i64 (wrap64 ((wrap64 ((wrap64 (h * 137)) + (wrap64 (rd l i)))) + 11)) 1073741823) (i + 1) (by omega) (by omega)
        refine ⟨h', K.succ ?_⟩
        simp only [spec_l1New.l0]
        rw [K.wr (x := i + 1) (by omega) (by omega)]
        exact K.pos (by omega) (K.pos c (K.pos h0 g))
      · refine ⟨h, K.succ ?_⟩
        simp only [spec_l1New.l0]
        exact K.pos (by omega) (K.neg c (Ev.now _))
  unfold spec_l1New.f
  exact loop l.length _ 0 (by omega) (by omega)
theorem l1Byte (l : List Int) (hl : l.length ≤ 1048576) (i h : Int) (h0 : 0 ≤ i) (h1 : i ≤ (l.length : Int)) :
    ∃ v i' h', spec_l1Byte.f l i h = some (v, i', h') ∧ 0 ≤ v ∧ v ≤ 255 ∧ 0 ≤ i' ∧ i' ≤ (l.length : Int) := by
  unfold spec_l1Byte.f
  simp only [and255]
  by_cases c : i < (l.length : Int)
  · rw [if_pos c, if_pos h0, K.wr (x := i + 1) (by omega) (by omega)]
    exact ⟨_, _, _, rfl, by omega, by omega, by omega, by omega⟩
  · rw [if_neg c]
    exact ⟨_, _, _, rfl, by omega, by omega, h0, h1⟩
theorem l1Below (l : List Int) (hl : l.length ≤ 1048576) (i h : Int) (h0 : 0 ≤ i) (h1 : i ≤ (l.length : Int)) (n : Int) (hn : 0 < n) (hn2 : n ≤ 256) :
    ∃ v i' h', spec_l1Below.f l i h n = some (v, i', h') ∧ 0 ≤ v ∧ v < n ∧ 0 ≤ i' ∧ i' ≤ (l.length : Int) := by
  obtain ⟨v, i', h', e, a, b, c, d⟩ := l1Byte l hl i h h0 h1
  refine ⟨Int.tmod v n, i', h', ?_, Int.tmod_nonneg _ a, Int.tmod_lt_of_pos _ hn, c, d⟩
  unfold spec_l1Below.f
  rw [if_neg (by omega), if_pos hn2, e]
  simp only [Option.bind_some]
  rw [if_neg (by omega)]
theorem l1Once (l : List Int) (hl : l.length ≤ 1048576) (i h : Int) (h0 : 0 ≤ i) (h1 : i ≤ (l.length : Int)) (n : Int) (hn : 0 < n) (hn2 : n ≤ 256) :
    ∃ v i' h', spec_l1Once.f l i h n = some (v, i', h') ∧ 0 ≤ i' ∧ i' ≤ (l.length : Int) := by
  obtain ⟨v, i', h', e, a, b, c, d⟩ := l1Below l hl i h h0 h1 n hn hn2
  refine ⟨v == 0, i', h', ?_, c, d⟩
  unfold spec_l1Once.f
  rw [e]
  rfl
theorem l1Int (l : List Int) (hl : l.length ≤ 1048576) (i h : Int) (h0 : 0 ≤ i) (h1 : i ≤ (l.length : Int)) (xs : List Int) (hn : 0 < (xs.length : Int)) (hn2 : (xs.length : Int) ≤ 256) :
    ∃ v i' h', spec_l1Int.f l i h xs = some (v, i', h') ∧ v ∈ xs ∧ 0 ≤ i' ∧ i' ≤ (l.length : Int) := by
  obtain ⟨v, i', h', e, a, b, c, d⟩ := l1Below l hl i h h0 h1 _ hn hn2
  refine ⟨rd xs v, i', h', ?_, ?_, c, d⟩
  · unfold spec_l1Int.f
    rw [e]
    simp only [Option.bind_some]
    rw [if_pos a, if_pos b]
  · simp only [rd, List.getD_eq_getElem?_getD, List.getElem?_eq_getElem (show v.toNat < xs.length by omega), Option.getD_some]
    exact List.getElem_mem _
theorem l4Raw (l : List Int) (hl : l.length ≤ 1048576) (i h : Int) (h0 : 0 ≤ i) (h1 : i ≤ (l.length : Int)) : ∃ v i' h', spec_l4Raw.f l i h = some (v, i', h') ∧ 0 ≤ i' ∧ i' ≤ (l.length : Int) := by
  obtain ⟨b, i1, g1, e1, p1, q1⟩ := l1Once l hl i h h0 h1 6 (by omega) (by omega)
  unfold spec_l4Raw.f
  rw [e1, Option.bind_some]
  cases b with
  | true =>
    obtain ⟨v, i2, g2, e2, m2, p2, q2⟩ := l1Int l hl i1 g1 p1 q1 [(-1), 0, 1000, 1001, 9223372036854775807, (-9223372036854775808)] (by decide) (by decide)
    refine ⟨v, i2, g2, ?_, p2, q2⟩
    dsimp only
    rw [if_pos rfl, e2]
    rfl
  | false =>
    obtain ⟨v, i2, g2, e2, _, _, p2, q2⟩ := l1Below l hl i1 g1 p1 q1 40 (by omega) (by omega)
    refine ⟨v, i2, g2, ?_, p2, q2⟩
    dsimp only
    rw [if_neg Bool.false_ne_true, e2]
    rfl
theorem minI (a b : Int) : ∃ v, spec_Min.f a b = some v ∧ v ≤ a ∧ v ≤ b ∧ (v = a ∨ v = b) := by
  unfold spec_Min.f
  split
  · exact ⟨b, rfl, by omega, by omega, .inr rfl⟩
  · exact ⟨a, rfl, by omega, by omega, .inl rfl⟩
theorem plan2 (l : List Int) (hl : l.length ≤ 1048576) (a b : Int) (hb0 : 0 ≤ b) (hb : b ≤ 4) : ∀ (n : Nat) (t : Int) (out : List S96) (i h : Int), 0 ≤ i → i ≤ (l.length : Int) → 0 ≤ t → t ≤ 100 → n ≤ 2 → out.length + n ≤ 200 → ∃ (out' : List S96) (i' h' : Int), out'.length ≤ out.length + n ∧ 0 ≤ i' ∧ i' ≤ (l.length : Int) ∧ ∀ r, Ev (fun k => spec_l11Plan.l1 k 4 20 out' a (b + 1) l i' h') r → Ev (fun k => spec_l11Plan.l2 k 4 20 out a b t (n : Int) l i h) r := by
  intro n
  induction n with
  | zero =>
    intro t out i h h0 h1 t0 t1 hn ho
    have w1 := Aside0.mk (K.wr (x := b + 1) (by omega) (by omega))
    refine ⟨out, i, h, by omega, h0, h1, fun r g => K.succ ?_⟩
    simp only [spec_l11Plan.l2]
    refine K.neg (by omega) (K.succ ?_)
    simp only [spec_l11Plan.j3, w1.out]
    exact K.neg Bool.false_ne_true g
  | succ n ih =>
    intro t out i h h0 h1 t0 t1 hn ho
    have w1 := Aside0.mk (K.wr (x := b + 1) (by omega) (by omega))
    by_cases c : t < 20
    · obtain ⟨v1, i1, g1, e1, a1, b1, p1, q1⟩ := l1Below l hl i h h0 h1 9 (by omega) (by omega)
      have w2 := Aside0.mk (K.wr (x := t + 2) (by omega) (by omega))
      have w3 := Aside0.mk (K.wr (x := t + 2 + v1) (by omega) (by omega))
      obtain ⟨e, e2, m1, m2, m3⟩ := minI 20 (t + 2 + v1)
      obtain ⟨v2, i2, g2, e3, a3, b3, p2, q2⟩ := l1Below l hl i1 g1 p1 q1 6 (by omega) (by omega)
      have w4 := Aside0.mk (K.wr (x := e + 1) (by omega) (by omega))
      have w5 := Aside0.mk (K.wr (x := e + 1 + v2) (by omega) (by omega))
      have w6 := Aside0.mk (K.wr (x := ((n + 1 : Nat) : Int) - 1) (by omega) (by omega))
      obtain ⟨out', i', h', k1, k2, k3, k4⟩ := ih (e + 1 + v2) (out ++ [⟨a, b, t, e⟩]) i2 g2 p2 q2 (by omega) (by omega) (by omega) (by simp; omega)
      refine ⟨out', i', h', by simp at k1; omega, k2, k3, fun r g => K.succ ?_⟩
      have g := k4 r g
      rw [show (n : Int) = ((n + 1 : Nat) : Int) - 1 by omega] at g
      simp only [spec_l11Plan.l2]
      refine K.pos (by omega) ?_
      rw [show decide (t < 20) = true from decide_eq_true c]
      refine K.succ ?_
      simp only [spec_l11Plan.j3, e1, Option.bind_some, w2.out, w3.out, e2, e3, w4.out, w5.out, w6.out]
      exact K.pos trivial (K.pos (by omega) g)
    · refine ⟨out, i, h, by omega, h0, h1, fun r g => K.succ ?_⟩
      simp only [spec_l11Plan.l2]
      refine K.pos (by omega) ?_
      rw [show decide (t < 20) = false from decide_eq_false c]
      refine K.succ ?_
      simp only [spec_l11Plan.j3, w1.out]
      exact K.neg Bool.false_ne_true g
theorem plan1 (l : List Int) (hl : l.length ≤ 1048576) (a : Int) (ha0 : 0 ≤ a) (ha : a ≤ 4) : ∀ (d : Nat) (b : Int) (out : List S96) (i h : Int), 4 - b = d → 0 ≤ b → 0 ≤ i → i ≤ (l.length : Int) → out.length + 2 * d ≤ 200 → ∃ (out' : List S96) (i' h' : Int), out'.length ≤ out.length + 2 * d ∧ 0 ≤ i' ∧ i' ≤ (l.length : Int) ∧ ∀ r, Ev (fun k => spec_l11Plan.l0 k 4 20 out' (a + 1) l i' h') r → Ev (fun k => spec_l11Plan.l1 k 4 20 out a b l i h) r := by
  intro d
  induction d with
  | zero =>
    intro b out i h hd hb h0 h1 ho
    have w1 := Aside0.mk (K.wr (x := a + 1) (by omega) (by omega))
    refine ⟨out, i, h, by omega, h0, h1, fun r g => K.succ ?_⟩
    simp only [spec_l11Plan.l1, w1.out]
    exact K.neg (by omega) g
  | succ d ih =>
    intro b out i h hd hb h0 h1 ho
    obtain ⟨v1, i1, g1, e1, a1, b1, p1, q1⟩ := l1Below l hl i h h0 h1 5 (by omega) (by omega)
    obtain ⟨v2, i2, g2, e2, a2, b2, p2, q2⟩ := l1Below l hl i1 g1 p1 q1 3 (by omega) (by omega)
    obtain ⟨o1, i3, g3, k1, k2, k3, k4⟩ := plan2 l hl a b hb (by omega) v2.toNat v1 out i2 g2 p2 q2 a1 (by omega) (by omega) (by omega)
    obtain ⟨o2, i4, g4, m1, m2, m3, m4⟩ := ih (b + 1) o1 i3 g3 (by omega) (by omega) k2 k3 (by omega)
    refine ⟨o2, i4, g4, by omega, m2, m3, fun r g => K.succ ?_⟩
    have g := k4 r (m4 r g)
    rw [show ((v2.toNat : Nat) : Int) = v2 by omega] at g
    simp only [spec_l11Plan.l1, e1, e2, Option.bind_some]
    exact K.pos (by omega) g
theorem plan0 (l : List Int) (hl : l.length ≤ 1048576) : ∀ (d : Nat) (a : Int) (out : List S96) (i h : Int), 4 - a = d → 0 ≤ a → 0 ≤ i → i ≤ (l.length : Int) → out.length + 8 * d ≤ 100 → ∃ (out' : List S96) (i' h' : Int), out'.length ≤ 100 ∧ 0 ≤ i' ∧ i' ≤ (l.length : Int) ∧ Ev (fun k => spec_l11Plan.l0 k 4 20 out a l i h) (out', i', h') := by
  intro d
  induction d with
  | zero =>
    intro a out i h hd ha h0 h1 ho
    refine ⟨out, i, h, by omega, h0, h1, K.succ ?_⟩
    simp only [spec_l11Plan.l0]
    exact K.neg (by omega) (Ev.now _)
  | succ d ih =>
    intro a out i h hd ha h0 h1 ho
    have w1 := Aside0.mk (K.wr (x := a + 1) (by omega) (by omega))
    obtain ⟨o1, i1, g1, k1, k2, k3, k4⟩ := plan1 l hl a ha (by omega) (4 - (a + 1)).toNat (a + 1) out i h (by omega) (by omega) h0 h1 (by omega)
    obtain ⟨o2, i2, g2, m1, m2, m3, m4⟩ := ih (a + 1) o1 i1 g1 (by omega) (by omega) k2 k3 (by omega)
    refine ⟨o2, i2, g2, m1, m2, m3, K.succ ?_⟩
    simp only [spec_l11Plan.l0, w1.out]
    exact K.pos (by omega) (k4 _ m4)
theorem l11Any (l : List Int) (hl : l.length ≤ 1048576) (i h : Int) (h0 : 0 ≤ i) (h1 : i ≤ (l.length : Int)) : ∃ (L : List S96) (i' h' : Int), L.length ≤ 200 ∧ 0 ≤ i' ∧ i' ≤ (l.length : Int) ∧ Ev (fun k => spec_l11Any.f k l i h) (L, i', h') := by
  obtain ⟨L, i1, g1, p0, p1, q1, e0⟩ := plan0 l hl 4 0 [] i h (by omega) (by omega) h0 h1 (by simp)
  have e0 : Ev (fun k => spec_l11Plan.f k l i h 4 20) (L, i1, g1) := by unfold spec_l11Plan.f; exact e0
  unfold spec_l11Any.f
  by_cases c : (L.length : Int) = 0
  · exact ⟨L, i1, g1, by omega, p1, q1, Ev.bind e0 (K.pos c (Ev.now _))⟩
  obtain ⟨v2, i2, g2, e2, a2, b2, p2, q2⟩ := l1Below l hl i1 g1 p1 q1 (L.length : Int) (by omega) (by omega)
  obtain ⟨v3, i3, g3, e3, a3, b3, p3, q3⟩ := l1Below l hl i2 g2 p2 q2 8 (by omega) (by omega)
  by_cases c0 : v3 = 0
  · obtain ⟨v4, i4, g4, e4, a4, b4, p4, q4⟩ := l1Below l hl i3 g3 p3 q3 5 (by omega) (by omega)
    exact ⟨_, i4, g4, by rw [List.length_set]; show L.length ≤ 200; omega, p4, q4, Ev.bind e0 (K.neg c (K.known e2 (K.known e3 (K.pos c0 (K.known e4 (K.pos a2 (K.pos b2 (Ev.now _))))))))⟩
  by_cases c1 : v3 = 1
  · obtain ⟨v4, i4, g4, e4, p4, q4⟩ := l4Raw l hl i3 g3 p3 q3
    exact ⟨_, i4, g4, by rw [List.length_set]; show L.length ≤ 200; omega, p4, q4, Ev.bind e0 (K.neg c (K.known e2 (K.known e3 (K.neg c0 (K.pos c1 (K.known e4 (K.pos a2 (K.pos b2 (Ev.now _)))))))))⟩
  by_cases c2 : v3 = 2
  · exact ⟨_, i3, g3, by rw [List.length_append, List.length_singleton]; show L.length + 1 ≤ 200; omega, p3, q3, Ev.bind e0 (K.neg c (K.known e2 (K.known e3 (K.neg c0 (K.neg c1 (K.pos c2 (K.pos a2 (K.pos b2 (K.pos (by show L.length < 4398046511104; omega) (Ev.now _))))))))))⟩
  by_cases c3 : v3 = 3
  · obtain ⟨v4, i4, g4, e4, m4, p4, q4⟩ := l1Int l hl i3 g3 p3 q3 [(-1), 4, 9223372036854775807] (by decide) (by decide)
    exact ⟨_, i4, g4, by rw [List.length_set]; show L.length ≤ 200; omega, p4, q4, Ev.bind e0 (K.neg c (K.known e2 (K.known e3 (K.neg c0 (K.neg c1 (K.neg c2 (K.pos c3 (K.known e4 (K.pos a2 (K.pos b2 (Ev.now _)))))))))))⟩
  · exact ⟨L, i3, g3, by omega, p3, q3, Ev.bind e0 (K.neg c (K.known e2 (K.known e3 (K.neg c0 (K.neg c1 (K.neg c2 (K.neg c3 (Ev.now _))))))))⟩
theorem drawPieces (l : List Int) (hl : l.length ≤ 1048576) : ∃ (L : List S96) (f tt : Int), L.length ≤ 200 ∧ Ev (fun k => spec_DrawPiecesOf.f k l) (L, f, tt) := by
  obtain ⟨h, e0⟩ := l1New l hl
  obtain ⟨L, i1, g1, k1, p1, q1, e1⟩ := l11Any l hl 0 h (by omega) (by omega)
  obtain ⟨f, i2, g2, e2, m2, p2, q2⟩ := l1Int l hl i1 g1 p1 q1 [0, 0, 3, (-1)] (by decide) (by decide)
  obtain ⟨tt, i3, g3, e3, m3, p3, q3⟩ := l1Int l hl i2 g2 p2 q2 [20, 20, 10, 25, 1001, 0] (by decide) (by decide)
  refine ⟨L, f, tt, k1, ?_⟩
  unfold spec_DrawPiecesOf.f spec_DrawChangesOf.f
  exact Ev.bind (Ev.bind e0 (Ev.bind e1 (K.known e2 (K.known e3 (Ev.now _))))) (Ev.now _)
theorem links1 (l : List Int) (hl : l.length ≤ 1048576) (a : Int) (ha0 : 0 ≤ a) (ha : a ≤ 5) : ∀ (d : Nat) (b : Int) (out : List S103) (i h : Int), 5 - b = d → 0 ≤ b → 0 ≤ i → i ≤ (l.length : Int) → out.length + d ≤ 100 → ∃ (out' : List S103) (i' h' : Int), out'.length ≤ out.length + d ∧ 0 ≤ i' ∧ i' ≤ (l.length : Int) ∧ ∀ r, Ev (fun k => spec_l13Links.l0 k 5 out' (a + 1) l i' h') r → Ev (fun k => spec_l13Links.l1 k 5 out a b l i h) r := by
  intro d
  induction d with
  | zero =>
    intro b out i h hd hb h0 h1 ho
    have w1 := Aside0.mk (K.wr (x := a + 1) (by omega) (by omega))
    refine ⟨out, i, h, by omega, h0, h1, fun r g => K.succ ?_⟩
    simp only [spec_l13Links.l1, w1.out]
    exact K.neg (by omega) g
  | succ d ih =>
    intro b out i h hd hb h0 h1 ho
    have w1 := Aside0.mk (K.wr (x := b + 1) (by omega) (by omega))
    obtain ⟨v1, i1, g1, e1, p1, q1⟩ := l1Once l hl i h h0 h1 2 (by omega) (by omega)
    cases v1 with
    | true =>
      obtain ⟨o2, i4, g4, m1, m2, m3, m4⟩ := ih (b + 1) out i1 g1 (by omega) (by omega) p1 q1 (by omega)
      refine ⟨o2, i4, g4, by omega, m2, m3, fun r g => K.succ ?_⟩
      have g := m4 r g
      simp only [spec_l13Links.l1, e1, Option.bind_some, w1.out]
      exact K.pos (by omega) (K.pos trivial g)
    | false =>
      obtain ⟨o2, i4, g4, m1, m2, m3, m4⟩ := ih (b + 1) (out ++ [⟨a, b⟩]) i1 g1 (by omega) (by omega) p1 q1 (by simp; omega)
      refine ⟨o2, i4, g4, by simp at m1; omega, m2, m3, fun r g => K.succ ?_⟩
      have g := m4 r g
      simp only [spec_l13Links.l1, e1, Option.bind_some, w1.out]
      exact K.pos (by omega) (K.neg Bool.false_ne_true (K.pos (by omega) g))
theorem links0 (l : List Int) (hl : l.length ≤ 1048576) : ∀ (d : Nat) (a : Int) (out : List S103) (i h : Int), 5 - a = d → 0 ≤ a → 0 ≤ i → i ≤ (l.length : Int) → out.length + 5 * d ≤ 50 → ∃ (out' : List S103) (i' h' : Int), out'.length ≤ 50 ∧ 0 ≤ i' ∧ i' ≤ (l.length : Int) ∧ Ev (fun k => spec_l13Links.l0 k 5 out a l i h) (out', i', h') := by
  intro d
  induction d with
  | zero =>
    intro a out i h hd ha h0 h1 ho
    refine ⟨out, i, h, by omega, h0, h1, K.succ ?_⟩
    simp only [spec_l13Links.l0]
    exact K.neg (by omega) (Ev.now _)
  | succ d ih =>
    intro a out i h hd ha h0 h1 ho
    have w1 := Aside0.mk (K.wr (x := a + 1) (by omega) (by omega))
    obtain ⟨o1, i1, g1, k1, k2, k3, k4⟩ := links1 l hl a ha (by omega) (5 - (a + 1)).toNat (a + 1) out i h (by omega) (by omega) h0 h1 (by omega)
    obtain ⟨o2, i2, g2, m1, m2, m3, m4⟩ := ih (a + 1) o1 i1 g1 (by omega) (by omega) k2 k3 (by omega)
    refine ⟨o2, i2, g2, m1, m2, m3, K.succ ?_⟩
    simp only [spec_l13Links.l0, w1.out]
    exact K.pos (by omega) (k4 _ m4)
theorem drawNear (l : List Int) (hl : l.length ≤ 1048576) : ∃ (L : List S103) (n : Int), L.length ≤ 100 ∧ Ev (fun k => spec_DrawNeighborsIn.f k l) (L, n) := by
  obtain ⟨h, e0⟩ := l1New l hl
  obtain ⟨L, i1, g1, k1, p1, q1, e1⟩ := links0 l hl 5 0 [] 0 h (by omega) (by omega) (by omega) (by omega) (by simp)
  have e1 : Ev (fun k => spec_l13Links.f k l 0 h 5) (L, i1, g1) := by unfold spec_l13Links.f; exact e1
  obtain ⟨b, i2, g2, e2, p2, q2⟩ := l1Once l hl i1 g1 p1 q1 4 (by omega) (by omega)
  obtain ⟨n, i3, g3, e3, a3, b3, p3, q3⟩ := l1Below l hl i2 g2 p2 q2 6 (by omega) (by omega)
  unfold spec_DrawNeighborsIn.f
  cases b with
  | true => exact ⟨L ++ [⟨1, 1⟩, ⟨2, 1⟩], n, by simp; omega, Ev.bind e0 (Ev.bind e1 (K.known e2 (K.pos rfl (K.known rfl (K.pos (by simp; omega) (K.known e3 (Ev.now _)))))))⟩
  | false => exact ⟨L, n, by omega, Ev.bind e0 (Ev.bind e1 (K.known e2 (K.neg Bool.false_ne_true (K.known e3 (Ev.now _)))))⟩

theorem iIsSpan (a b : Int) : impl_IsSpan.f a b = some (decide (0 ≤ a ∧ b ≤ 1000 ∧ a < b)) := by
  unfold impl_IsSpan.f
  split <;> (try split) <;> first | rfl | (congr 1; exact decide_eq_decide.2 (by omega)) | (congr 1; exact (decide_eq_false (by omega)).symm)
theorem iInSpan (a b t : Int) : impl_InSpan.f a b t = some (decide (0 ≤ a ∧ b ≤ 1000 ∧ a ≤ t ∧ t < b)) := by
  unfold impl_InSpan.f
  simp only [iIsSpan, Option.bind_some, decide_eq_true_eq]
  split <;> (try split) <;> first | rfl | (congr 1; exact decide_eq_decide.2 (by omega)) | (congr 1; exact (decide_eq_false (by omega)).symm)
theorem indexI (l : List S103) (hl : l.length ≤ 1048576) (a b : Int) : ∀ (d : Nat) (i : Int), 0 ≤ i → (l.length : Int) - i = d → ∃ v, Ev (fun k => impl_Link_122.l0 k l (l.length : Int) i a b) v := by
  intro d
  induction d with
  | zero =>
    intro i h0 hd
    refine ⟨-1, K.succ ?_⟩
    simp only [impl_Link_122.l0]
    exact K.neg (by omega) (Ev.now _)
  | succ d ih =>
    intro i h0 hd
    have w2 := Aside0.mk (K.wr (x := i + 1) (by omega) (by omega))
    by_cases c : (a == (rd_T103 l i).f0 && (b == (rd_T103 l i).f1)) = true
    · refine ⟨i, K.succ ?_⟩
      simp only [impl_Link_122.l0, w2.out]
      exact K.pos (by omega) (K.pos h0 (K.pos (by omega) (K.pos c (Ev.now _))))
    · obtain ⟨v, h⟩ := ih (i + 1) (by omega) (by omega)
      refine ⟨v, K.succ ?_⟩
      simp only [impl_Link_122.l0, w2.out]
      exact K.pos (by omega) (K.pos h0 (K.pos (by omega) (K.neg c h)))
theorem containsI (l : List S103) (hl : l.length ≤ 1048576) (a b : Int) : ∃ v : Bool, Ev (fun k => impl_Link_93.f k l a b) v := by
  obtain ⟨v, h1⟩ := indexI l hl a b l.length 0 (by omega) (by omega)
  refine ⟨decide (v ≥ 0), ?_⟩
  unfold impl_Link_93.f impl_Link_122.f
  exact Ev.bind h1 (Ev.now _)
theorem linksI0 (L : List S96) (hL : L.length ≤ 1048576) (t : Int) : ∀ (d : Nat) (out : List S103) (i : Int), 0 ≤ i → (L.length : Int) - i = d → (out.length : Int) ≤ i → ∃ v : List S103, v.length ≤ 1048576 ∧ Ev (fun k => impl_LinksAt.l0 k t out L (L.length : Int) i) v := by
  intro d
  induction d with
  | zero =>
    intro out i h0 hd ho
    refine ⟨out, by omega, K.succ ?_⟩
    simp only [impl_LinksAt.l0]
    exact K.neg (by omega) (Ev.now _)
  | succ d ih =>
    intro out i h0 hd ho
    have w2 := Aside0.mk (K.wr (x := i + 1) (by omega) (by omega))
    obtain ⟨b, hc⟩ := containsI out (by omega) (rd_T96 L i).f0 (rd_T96 L i).f1
    by_cases c : 0 ≤ (rd_T96 L i).f2 ∧ (rd_T96 L i).f3 ≤ 1000 ∧ (rd_T96 L i).f2 ≤ t ∧ t < (rd_T96 L i).f3
    · cases b with
      | true =>
        obtain ⟨v, hv, h2⟩ := ih out (i + 1) (by omega) (by omega) (by omega)
        refine ⟨v, hv, K.succ ?_⟩
        simp only [impl_LinksAt.l0, impl_spanOf.f, iInSpan, Option.bind_some, decide_eq_true_eq, w2.out]
        exact K.pos (by omega) (K.pos h0 (K.pos (by omega) (K.pos c (Ev.bind hc (K.pos rfl h2)))))
      | false =>
        obtain ⟨v, hv, h2⟩ := ih (out ++ [(⟨(rd_T96 L i).f0, (rd_T96 L i).f1⟩ : S103)]) (i + 1) (by omega) (by omega) (by simp; omega)
        refine ⟨v, hv, K.succ ?_⟩
        simp only [impl_LinksAt.l0, impl_spanOf.f, iInSpan, Option.bind_some, decide_eq_true_eq, w2.out]
        exact K.pos (by omega) (K.pos h0 (K.pos (by omega) (K.pos c (Ev.bind hc (K.neg Bool.false_ne_true (K.pos (by omega) h2))))))
    · obtain ⟨v, hv, h2⟩ := ih out (i + 1) (by omega) (by omega) (by omega)
      refine ⟨v, hv, K.succ ?_⟩
      simp only [impl_LinksAt.l0, impl_spanOf.f, iInSpan, Option.bind_some, decide_eq_true_eq, w2.out]
      exact K.pos (by omega) (K.pos h0 (K.pos (by omega) (K.neg c h2)))
theorem linksI (L : List S96) (hL : L.length ≤ 1048576) (t : Int) : ∃ v : List S103, v.length ≤ 1048576 ∧ Ev (fun k => impl_LinksAt.f k L t) v :=
  linksI0 L hL t L.length [] 0 (by omega) (by omega) (by simp)
theorem rdDropL (l : List S103) (i : Int) (h0 : 0 ≤ i) (h1 : i < (l.length : Int)) : l.drop i.toNat = rd_T103 l i :: l.drop (i + 1).toNat := by
  rw [List.drop_eq_getElem_cons (by omega), show (i + 1).toNat = i.toNat + 1 by omega]
  simp [rd_T103, List.getD_eq_getElem?_getD, List.getElem?_eq_getElem (show i.toNat < l.length by omega)]
theorem equalI (a b : List S103) (hl : a.length = b.length) (hn : a.length ≤ 1048576) : ∀ (d : Nat) (i : Int), 0 ≤ i → (a.length : Int) - i = d → ∃ v : Bool, (v = true ↔ a.drop i.toNat = b.drop i.toNat) ∧ Ev (fun k => impl_Link_113.l0 k a b (a.length : Int) i) v := by
  intro d
  induction d with
  | zero =>
    intro i h0 hd
    refine ⟨true, ?_, K.succ ?_⟩
    · rw [List.drop_of_length_le (by omega), List.drop_of_length_le (by omega)]
      simp
    · simp only [impl_Link_113.l0]
      exact K.neg (by omega) (Ev.now _)
  | succ d ih =>
    intro i h0 hd
    have w2 := Aside0.mk (K.wr (x := i + 1) (by omega) (by omega))
    rw [rdDropL a i h0 (by omega), rdDropL b i h0 (by omega)]
    by_cases c : (!(((rd_T103 a i).f0) == ((rd_T103 b i).f0)) || (!(((rd_T103 a i).f1) == ((rd_T103 b i).f1)))) = true
    · refine ⟨false, ⟨fun h => (by cases h), fun h => ?_⟩, K.succ ?_⟩
      · rw [(List.cons.inj h).1] at c
        simp at c
      · simp only [impl_Link_113.l0, w2.out]
        exact K.pos (by omega) (K.pos h0 (K.pos (by omega) (K.pos (by omega) (K.pos c (Ev.now _)))))
    · obtain ⟨v, hv, h⟩ := ih (i + 1) (by omega) (by omega)
      refine ⟨v, ?_, K.succ ?_⟩
      · rw [hv]
        have e : rd_T103 a i = rd_T103 b i := by
          simp at c
          revert c
          generalize rd_T103 a i = x
          generalize rd_T103 b i = y
          intro c
          cases x
          cases y
          simp at c
          simp [c.1, c.2]
        rw [e]
        simp
      · simp only [impl_Link_113.l0, w2.out]
        exact K.pos (by omega) (K.pos h0 (K.pos (by omega) (K.pos (by omega) (K.neg c h))))
theorem sameI (a b : List S103) (hn : a.length ≤ 1048576) : ∃ v : Bool, (v = true ↔ a = b) ∧ Ev (fun k => impl_SameLinks.f k a b) v := by
  unfold impl_SameLinks.f impl_Link_113.f
  by_cases c : (a.length : Int) = (b.length : Int)
  · obtain ⟨v, hv, h⟩ := equalI a b (by omega) hn a.length 0 (by omega) (by omega)
    exact ⟨v, by simpa using hv, Ev.bind (K.pos c h) (Ev.now _)⟩
  · exact ⟨false, ⟨fun h => (by cases h), fun h => by subst h; exact absurd rfl c⟩, Ev.bind (K.neg c (Ev.now _)) (Ev.now _)⟩
def PG (la : Int → List S103) : Int → List Int → Prop
  | _, [] => True
  | s, t :: c => (0 ≤ s ∧ s < t ∧ t ≤ 1000) ∧ (∀ u, s ≤ u → u < t → la u = la s) ∧ (c ≠ [] → la t ≠ la s) ∧ PG la t c
def pcs : Int → List Int → List S78
  | _, [] => []
  | s, t :: c => ⟨s, t⟩ :: pcs t c
theorem mnTo {tt : Int} (h : tt ≤ 1000) : mn tt 1000 = tt := by
  unfold mn
  split <;> omega
theorem chI (L : List S96) (la : Int → List S103) (hla : ∀ t, (la t).length ≤ 1048576 ∧ Ev (fun k => impl_LinksAt.f k L t) (la t)) (f tt : Int) (hf : 0 ≤ f) (ht : tt ≤ 1000) : ∀ (d : Nat) (t s : Int) (out : List Int), f < t → tt - t = d → 0 ≤ s → s < t → (∀ u, s ≤ u → u < t → la u = la s) → out.length + d ≤ 2000 → ∃ c : List Int, c.length ≤ d ∧ PG la s (c ++ [tt]) ∧ Ev (fun k => impl_ChangesOf.l0 k L f tt out t) (out ++ c) := by
  intro d
  induction d with
  | zero =>
    intro t s out h1 h2 h3 h4 h5 h6
    refine ⟨[], by simp, ⟨⟨h3, by omega, ht⟩, fun u u0 u1 => h5 u u0 (by omega), fun h => absurd rfl h, trivial⟩, K.succ ?_⟩
    simp only [impl_ChangesOf.l0, mnTo ht, List.append_nil]
    exact K.neg (by omega) (Ev.now _)
  | succ d ih =>
    intro t s out h1 h2 h3 h4 h5 h6
    have w1 := Aside0.mk (K.wr (x := t + 1) (by omega) (by omega))
    have w2 := Aside0.mk (K.wr (x := t - 1) (by omega) (by omega))
    obtain ⟨b, hb, b1⟩ := sameI (la t) (la (t - 1)) (hla t).1
    have e1 : la (t - 1) = la s := h5 (t - 1) (by omega) (by omega)
    cases b with
    | true =>
      have e := hb.1 rfl
      obtain ⟨c, c1, c2, c3⟩ := ih (t + 1) s out (by omega) (by omega) h3 (by omega) (fun u u0 u1 => by
        by_cases x : u = t
        · subst x
          exact e.trans e1
        · exact h5 u u0 (by omega)) (by omega)
      refine ⟨c, by omega, c2, K.succ ?_⟩
      simp only [impl_ChangesOf.l0, w1.out, w2.out, mnTo ht]
      exact K.pos (by omega) (K.pos (by omega) (Ev.bind (hla t).2 (Ev.bind (hla (t - 1)).2 (Ev.bind b1 (K.pos rfl c3)))))
    | false =>
      have e : la t ≠ la s := fun h => Bool.false_ne_true (hb.2 (h.trans e1.symm))
      obtain ⟨c, c1, c2, c3⟩ := ih (t + 1) t (out ++ [t]) (by omega) (by omega) (by omega) (by omega) (fun u u0 u1 => by rw [show u = t by omega]) (by simp; omega)
      refine ⟨t :: c, by simp; omega, ⟨⟨h3, h4, by omega⟩, h5, fun _ => e, c2⟩, K.succ ?_⟩
      rw [List.append_assoc] at c3
      simp only [impl_ChangesOf.l0, w1.out, w2.out, mnTo ht]
      exact K.pos (by omega) (K.pos (by omega) (Ev.bind (hla t).2 (Ev.bind (hla (t - 1)).2 (Ev.bind b1 (K.neg Bool.false_ne_true (K.pos (by omega) c3))))))
theorem skI (L : List S96) (f tt : Int) (hft : f < tt) (ht : tt ≤ 1000) (v : List Int) (h : Ev (fun k => impl_ChangesOf.l0 k L f tt [] (f + 1)) v) : ∀ (d : Nat) (t : Int), 1 ≤ t → f + 1 - t = d → Ev (fun k => impl_ChangesOf.l0 k L f tt [] t) v := by
  intro d
  induction d with
  | zero =>
    intro t h0 hd
    rw [show t = f + 1 by omega]
    exact h
  | succ d ih =>
    intro t h0 hd
    have w1 := Aside0.mk (K.wr (x := t + 1) (by omega) (by omega))
    have ih' := ih (t + 1) (by omega) (by omega)
    refine K.succ ?_
    simp only [impl_ChangesOf.l0, w1.out, mnTo ht]
    exact K.pos (by omega) (K.neg (by omega) ih')
theorem piI : ∀ (q p : List Int) (s : Int) (out : List S78), p.length + q.length ≤ 5000 → out.length ≤ p.length → Ev (fun k => impl_PiecesOf.l0 k s out (p ++ q) ((p ++ q).length : Int) (p.length : Int)) (out ++ pcs s q)
  | [], p, s, out, hl, ho => by
    refine K.succ ?_
    simp only [impl_PiecesOf.l0, pcs, List.append_nil]
    exact K.neg (by omega) (Ev.now _)
  | t :: q, p, s, out, hl, ho => by
    simp at hl
    have hr : rd (p ++ t :: q) (p.length : Int) = t := by simp [rd, List.getD_eq_getElem?_getD]
    have w1 := Aside0.mk (K.wr (x := (p.length : Int) + 1) (by omega) (by omega))
    have e2 : p ++ t :: q = (p ++ [t]) ++ q := by simp
    have e3 : (p.length : Int) + 1 = ((p ++ [t]).length : Int) := by simp
    have ih := piI q (p ++ [t]) t (out ++ [⟨s, t⟩]) (by simp; omega) (by simp; omega)
    rw [← e2, ← e3, List.append_assoc] at ih
    refine K.succ ?_
    simp only [impl_PiecesOf.l0, hr, w1.out]
    exact K.pos (by simp; omega) (K.pos (by omega) (K.pos (by simp; omega) (K.pos (by omega) ih)))
theorem piecesI (L : List S96) (la : Int → List S103) (hla : ∀ t, (la t).length ≤ 1048576 ∧ Ev (fun k => impl_LinksAt.f k L t) (la t)) (f tt : Int) : (¬ (0 ≤ f ∧ tt ≤ 1000 ∧ f < tt) ∧ Ev (fun k => impl_PiecesOf.f k L f tt) []) ∨ (0 ≤ f ∧ tt ≤ 1000 ∧ f < tt) ∧ ∃ c : List Int, c.length ≤ 1000 ∧ PG la f (c ++ [tt]) ∧ Ev (fun k => impl_PiecesOf.f k L f tt) (pcs f (c ++ [tt])) := by
  unfold impl_PiecesOf.f
  simp only [Option.bind_some, iIsSpan, decide_eq_true_eq]
  by_cases c : 0 ≤ f ∧ tt ≤ 1000 ∧ f < tt
  · refine .inr ⟨c, ?_⟩
    obtain ⟨x, x1, x2, x3⟩ := chI L la hla f tt c.1 c.2.1 (tt - (f + 1)).toNat (f + 1) f [] (by omega) (by omega) c.1 (by omega) (fun u u0 u1 => by rw [show u = f by omega]) (by simp; omega)
    rw [List.nil_append] at x3
    have x4 := skI L f tt c.2.2 c.2.1 x x3 f.toNat 1 (by omega) (by omega)
    refine ⟨x, by omega, x2, K.pos c (Ev.bind (by unfold impl_ChangesOf.f; exact x4) (K.pos (by omega) ?_))⟩
    exact piI (x ++ [tt]) [] f [] (by simp; omega) (by simp)
  · exact .inl ⟨c, K.neg c (Ev.now _)⟩
theorem sorted_ext : ∀ (a b : List Int), a.Pairwise (· < ·) → b.Pairwise (· < ·) → (∀ x, x ∈ a ↔ x ∈ b) → a = b
  | [], b, _, _, h => (List.eq_nil_iff_forall_not_mem.2 fun x hx => by have := (h x).2 hx; simp at this).symm
  | x :: a, [], _, _, h => by have := (h x).1 (by simp); simp at this
  | x :: a, y :: b, ha, hb, h => by
    rw [List.pairwise_cons] at ha hb
    have e : x = y := by
      rcases List.mem_cons.1 ((h x).1 (by simp)) with e | e
      · exact e
      rcases List.mem_cons.1 ((h y).2 (by simp)) with e2 | e2
      · exact e2.symm
      have := hb.1 x e
      have := ha.1 y e2
      omega
    subst e
    rw [sorted_ext a b ha.2 hb.2 fun z => ⟨fun hz => ?_, fun hz => ?_⟩]
    · rcases List.mem_cons.1 ((h z).1 (List.mem_cons_of_mem _ hz)) with e | e
      · have := ha.1 z hz; omega
      · exact e
    · rcases List.mem_cons.1 ((h z).2 (List.mem_cons_of_mem _ hz)) with e | e
      · have := hb.1 z hz; omega
      · exact e
theorem upTo (d : Array Int) (hs : ∀ i j, i ≤ j → j < d.size → d[i]! ≤ d[j]!) : ∀ m, m ≤ d.size → (Go.Lib.compactUpTo d m).Pairwise (· < ·) ∧ (∀ x, x ∈ Go.Lib.compactUpTo d m ↔ ∃ j, j < m ∧ d[j]! = x)
  | 0, _ => by
    refine ⟨by simp [Go.Lib.compactUpTo], fun x => ?_⟩
    simp [Go.Lib.compactUpTo]
  | m + 1, hm => by
    obtain ⟨h1, h2⟩ := upTo d hs m (by omega)
    rw [Go.Lib.compactUpTo_succ]
    by_cases hk : Go.Lib.keeps d m = true
    · rw [if_pos hk]
      refine ⟨List.pairwise_append.2 ⟨h1, by simp, fun x hx y hy => ?_⟩, fun x => ?_⟩
      · obtain ⟨j, hj, rfl⟩ := (h2 x).1 hx
        obtain rfl := List.mem_singleton.1 hy
        have hk2 := of_decide_eq_true hk
        rcases hk2 with hk2 | hk2
        · omega
        · have a1 := hs j (m - 1) (by omega) (by omega)
          have a2 := hs (m - 1) m (by omega) (by omega)
          omega
      · rw [List.mem_append, h2, List.mem_singleton]
        constructor
        · rintro (⟨j, hj, e⟩ | e)
          · exact ⟨j, by omega, e⟩
          · exact ⟨m, by omega, e.symm⟩
        · rintro ⟨j, hj, e⟩
          by_cases c : j = m
          · subst c; exact .inr e.symm
          · exact .inl ⟨j, by omega, e⟩
    · rw [if_neg hk, List.append_nil]
      refine ⟨h1, fun x => ?_⟩
      rw [h2]
      have hk2 : ¬ (m = 0 ∨ d[m]! ≠ d[m - 1]!) := fun h => hk (decide_eq_true h)
      have hm0 : m ≠ 0 := fun h => hk2 (.inl h)
      have he : d[m]! = d[m - 1]! := Classical.byContradiction fun h => hk2 (.inr h)
      constructor
      · rintro ⟨j, hj, e⟩
        exact ⟨j, by omega, e⟩
      · rintro ⟨j, hj, e⟩
        by_cases c : j = m
        · subst c; exact ⟨j - 1, by omega, by rw [← he]; exact e⟩
        · exact ⟨j, by omega, e⟩
theorem compactSorted (l : List Int) : (Go.Lib.compact (l.mergeSort fun x y => decide (x ≤ y))).Pairwise (· < ·) ∧ ∀ x, x ∈ Go.Lib.compact (l.mergeSort fun x y => decide (x ≤ y)) ↔ x ∈ l := by
  have hp : (l.mergeSort fun x y => decide (x ≤ y)).Pairwise (fun x y => decide (x ≤ y) = true) := List.pairwise_mergeSort (fun a b c h1 h2 => by simp at *; omega) (fun a b => by simp; omega) l
  have hm : ∀ x, x ∈ l.mergeSort (fun x y => decide (x ≤ y)) ↔ x ∈ l := fun x => List.mem_mergeSort
  generalize l.mergeSort (fun x y => decide (x ≤ y)) = s at hp hm
  have hs : ∀ i j, i ≤ j → j < s.toArray.size → s.toArray[i]! ≤ s.toArray[j]! := by
    intro i j hij hj
    have hj' : j < s.length := by simpa using hj
    rw [getElem!_pos s.toArray i (by simp; omega), getElem!_pos s.toArray j hj]
    by_cases c : i = j
    · subst c; exact Int.le_refl _
    · have := List.pairwise_iff_getElem.1 hp i j (by omega) hj' (by omega)
      simpa using this
  obtain ⟨h1, h2⟩ := upTo s.toArray hs s.length (by simp)
  refine ⟨h1, fun x => ?_⟩
  rw [← hm x, Go.Lib.compact, h2, List.mem_iff_getElem]
  constructor
  · rintro ⟨j, hj, e⟩
    refine ⟨j, hj, ?_⟩
    rw [getElem!_pos s.toArray j (by simpa using hj)] at e
    simpa using e
  · rintro ⟨j, hj, e⟩
    refine ⟨j, hj, ?_⟩
    rw [getElem!_pos s.toArray j (by simpa using hj)]
    simpa using e
def ins : List Int → Int → List Int
  | [], n => [n]
  | x :: o, n => if x < n then x :: ins o n else if x = n then x :: o else n :: x :: o
theorem ins_app : ∀ (p q : List Int) (n : Int), (∀ x ∈ p, x < n) → ins (p ++ q) n = p ++ ins q n
  | [], _, _, _ => rfl
  | x :: p, q, n, h => by
    rw [List.cons_append, ins, if_pos (h x (by simp)), ins_app p q n (fun y hy => h y (List.mem_cons_of_mem _ hy))]
    rfl
theorem ins_mem : ∀ (o : List Int) (n x : Int), x ∈ ins o n ↔ x = n ∨ x ∈ o
  | [], n, x => by simp [ins]
  | y :: o, n, x => by
    rw [ins]
    split
    · rw [List.mem_cons, ins_mem o n x, List.mem_cons]
      constructor
      · rintro (h | h | h)
        · exact .inr (.inl h)
        · exact .inl h
        · exact .inr (.inr h)
      · rintro (h | h | h)
        · exact .inr (.inl h)
        · exact .inl h
        · exact .inr (.inr h)
    · split
      · rename_i h
        subst h
        simp
      · simp
theorem ins_len : ∀ (o : List Int) (n : Int), (ins o n).length ≤ o.length + 1
  | [], n => by simp [ins]
  | y :: o, n => by
    have := ins_len o n
    rw [ins]
    split
    · simp; omega
    · split <;> simp
theorem ins_sorted : ∀ (o : List Int) (n : Int), o.Pairwise (· < ·) → (ins o n).Pairwise (· < ·)
  | [], n, _ => by simp [ins]
  | y :: o, n, h => by
    rw [List.pairwise_cons] at h
    rw [ins]
    split
    · rename_i c
      refine List.pairwise_cons.2 ⟨fun x hx => ?_, ins_sorted o n h.2⟩
      rcases (ins_mem o n x).1 hx with rfl | hx
      · exact c
      · exact h.1 x hx
    · split
      · exact List.pairwise_cons.2 h
      · refine List.pairwise_cons.2 ⟨fun x hx => ?_, List.pairwise_cons.2 h⟩
        rcases List.mem_cons.1 hx with rfl | hx
        · omega
        · have := h.1 x hx; omega
def stepS (a : Int) (o : List Int) (s : S103) : List Int := if s.f0 = a then ins o s.f1 else if s.f1 = a then ins o s.f0 else o
def stepI (a : Int) (o : List Int) (s : S103) : List Int := (o ++ if s.f0 = a then [s.f1] else []) ++ if s.f1 = a then [s.f0] else []
def nears (a : Int) (l : List S103) : List Int := l.foldl (stepS a) []
theorem stepS_len (a : Int) (o : List Int) (s : S103) : (stepS a o s).length ≤ o.length + 1 := by
  unfold stepS
  split
  · exact ins_len _ _
  · split
    · exact ins_len _ _
    · omega
theorem stepI_len (a : Int) (o : List Int) (s : S103) : (stepI a o s).length ≤ o.length + 2 := by
  unfold stepI
  split <;> split <;> simp
theorem near_fold (a : Int) : ∀ (l : List S103) (o v : List Int), o.Pairwise (· < ·) → (∀ x, x ∈ o ↔ x ∈ v) → (l.foldl (stepS a) o).Pairwise (· < ·) ∧ ∀ x, x ∈ l.foldl (stepS a) o ↔ x ∈ l.foldl (stepI a) v
  | [], o, v, h1, h2 => ⟨h1, h2⟩
  | s :: l, o, v, h1, h2 => by
    refine near_fold a l (stepS a o s) (stepI a v s) ?_ ?_
    · unfold stepS
      split
      · exact ins_sorted _ _ h1
      · split
        · exact ins_sorted _ _ h1
        · exact h1
    · intro x
      unfold stepS stepI
      by_cases c : s.f0 = a
      · rw [if_pos c, if_pos c, ins_mem, h2]
        by_cases d : s.f1 = a
        · rw [if_pos d]
          have e : s.f0 = s.f1 := by omega
          simp only [List.mem_append, List.mem_singleton, e]
          constructor
          · rintro (h | h)
            · exact .inr h
            · exact .inl (.inl h)
          · rintro ((h | h) | h)
            · exact .inr h
            · exact .inl h
            · exact .inl h
        · rw [if_neg d]
          simp only [List.mem_append, List.mem_singleton, List.append_nil]
          exact Or.comm
      · rw [if_neg c, if_neg c, List.append_nil]
        by_cases d : s.f1 = a
        · rw [if_pos d, if_pos d, ins_mem, h2]
          simp only [List.mem_append, List.mem_singleton]
          exact Or.comm
        · rw [if_neg d, if_neg d, List.append_nil]
          exact h2 x
theorem nears_eq (a : Int) (l : List S103) : Go.Lib.compact ((l.foldl (stepI a) []).mergeSort fun x y => decide (x ≤ y)) = nears a l := by
  obtain ⟨h1, h2⟩ := near_fold a l [] [] (by simp) (fun x => Iff.rfl)
  obtain ⟨h3, h4⟩ := compactSorted (l.foldl (stepI a) [])
  exact sorted_ext _ _ h3 h1 fun x => (h4 x).trans (h2 x).symm
theorem stepS_fold (a : Int) : ∀ (l : List S103) (o : List Int), (l.foldl (stepS a) o).length ≤ o.length + l.length
  | [], o => by simp
  | s :: l, o => by
    have := stepS_fold a l (stepS a o s)
    have := stepS_len a o s
    simp only [List.foldl_cons, List.length_cons]
    omega
theorem nears_len (a : Int) (l : List S103) : (nears a l).length ≤ l.length := by
  have := stepS_fold a l []
  simpa [nears] using this
theorem iNear (a : Int) (r : List Int) : ∀ (q p : List S103) (o : List Int), o.length ≤ 2 * p.length → p.length + q.length ≤ 1048576 → sc108.f (q.foldl (stepI a) o) = some r → Ev (fun k => impl_NeighborsIn.l0 k a o (p ++ q) ((p ++ q).length : Int) (p.length : Int)) r
  | [], p, o, _, _, h => by
    refine K.succ ?_
    simp only [impl_NeighborsIn.l0]
    refine K.neg (by simp) (K.known h (Ev.now _))
  | s :: q, p, o, ho, hl, h => by
    have hr : rd_T103 (p ++ s :: q) (p.length : Int) = s := by simp [rd_T103, List.getD_eq_getElem?_getD]
    simp at hl
    have w1 : wrap64 ((p.length : Int) + 1) = (p.length : Int) + 1 := K.wr (by omega) (by omega)
    have e2 : p ++ s :: q = (p ++ [s]) ++ q := by simp
    have e3 : (p.length : Int) + 1 = ((p ++ [s]).length : Int) := by simp
    have ih := iNear a r q (p ++ [s]) (stepI a o s) (by have := stepI_len a o s; simp; omega) (by simp; omega) h
    rw [← e2, ← e3, ← w1] at ih
    refine K.succ ?_
    simp only [impl_NeighborsIn.l0, hr, Option.bind_some]
    refine K.pos (by simp; omega) (K.pos (by omega) (K.pos (by simp; omega) ?_))
    unfold stepI at ih
    by_cases c : s.f0 = a
    · rw [if_pos c] at ih
      refine K.pos c (K.pos (by omega) ?_)
      by_cases d : s.f1 = a
      · rw [if_pos d] at ih
        exact K.pos d (K.pos (by simp; omega) ih)
      · rw [if_neg d, List.append_nil] at ih
        exact K.neg d ih
    · rw [if_neg c, List.append_nil] at ih
      refine K.neg c ?_
      by_cases d : s.f1 = a
      · rw [if_pos d] at ih
        exact K.pos d (K.pos (by omega) ih)
      · rw [if_neg d, List.append_nil] at ih
        exact K.neg d ih
theorem stepI_fold (a : Int) : ∀ (l : List S103) (o : List Int), (l.foldl (stepI a) o).length ≤ o.length + 2 * l.length
  | [], o => by simp
  | s :: l, o => by
    have := stepI_fold a l (stepI a o s)
    have := stepI_len a o s
    simp only [List.foldl_cons, List.length_cons]
    omega
theorem iNears (a : Int) (l : List S103) (hl : l.length ≤ 1048576) : Ev (fun k => impl_NeighborsIn.f k l a) (nears a l) := by
  unfold impl_NeighborsIn.f
  refine iNear a _ l [] [] (by simp) (by simpa using hl) ?_
  have := stepI_fold a l []
  unfold sc108.f
  rw [if_pos (by simp at this; omega), nears_eq]
theorem nears_sorted (a : Int) (l : List S103) : (nears a l).Pairwise (· < ·) := (near_fold a l [] [] (by simp) (fun x => Iff.rfl)).1
theorem foldI_mem (a x : Int) : ∀ (l : List S103) (v : List Int), x ∈ l.foldl (stepI a) v ↔ x ∈ v ∨ ∃ s ∈ l, (s.f0 = a ∧ s.f1 = x) ∨ (s.f1 = a ∧ s.f0 = x)
  | [], v => by simp
  | s :: l, v => by
    rw [List.foldl_cons, foldI_mem a x l]
    have h : x ∈ stepI a v s ↔ x ∈ v ∨ (s.f0 = a ∧ s.f1 = x) ∨ (s.f1 = a ∧ s.f0 = x) := by
      unfold stepI
      rw [List.mem_append, List.mem_append, or_assoc]
      refine or_congr Iff.rfl (or_congr ?_ ?_)
      · split
        · rename_i c
          rw [List.mem_singleton]
          exact ⟨fun h => ⟨c, h.symm⟩, fun h => h.2.symm⟩
        · rename_i c
          exact ⟨fun h => by simp at h, fun h => absurd h.1 c⟩
      · split
        · rename_i c
          rw [List.mem_singleton]
          exact ⟨fun h => ⟨c, h.symm⟩, fun h => h.2.symm⟩
        · rename_i c
          exact ⟨fun h => by simp at h, fun h => absurd h.1 c⟩
    rw [h, or_assoc]
    refine or_congr Iff.rfl ?_
    constructor
    · rintro (h1 | ⟨t, ht, h1⟩)
      · exact ⟨s, by simp, h1⟩
      · exact ⟨t, List.mem_cons_of_mem _ ht, h1⟩
    · rintro ⟨t, ht, h1⟩
      rcases List.mem_cons.1 ht with rfl | ht
      · exact .inl h1
      · exact .inr ⟨t, ht, h1⟩
theorem nears_mem (a x : Int) (l : List S103) : x ∈ nears a l ↔ ∃ s ∈ l, (s.f0 = a ∧ s.f1 = x) ∨ (s.f1 = a ∧ s.f0 = x) := by
  refine ((near_fold a l [] [] (by simp) (fun x => Iff.rfl)).2 x).trans ((foldI_mem a x l []).trans ?_)
  simp
theorem nears_back (a x : Int) (l : List S103) (h : x ∈ nears a l) : a ∈ nears x l := by
  obtain ⟨s, hs, h⟩ := (nears_mem a x l).1 h
  refine (nears_mem x a l).2 ⟨s, hs, ?_⟩
  rcases h with h | h
  · exact .inr ⟨h.2, h.1⟩
  · exact .inl ⟨h.2, h.1⟩

theorem hasI (x : Int) : ∀ (q p : List Int), p.length + q.length ≤ 1048576 → x ∈ q → Ev (fun k => laws_contains.l0 k (p ++ q) x (p.length : Int)) true
  | [], p, hl, h => by simp at h
  | y :: q, p, hl, h => by
    simp at hl
    have hr : rd (p ++ y :: q) (p.length : Int) = y := by simp [rd, List.getD_eq_getElem?_getD]
    have w1 := Aside0.mk (K.wr (x := (p.length : Int) + 1) (by omega) (by omega))
    refine K.succ ?_
    simp only [laws_contains.l0, hr, w1.out]
    refine K.pos (by simp; omega) (K.pos (by omega) ?_)
    by_cases c : y = x
    · exact K.pos c (Ev.now _)
    · have e2 : p ++ y :: q = (p ++ [y]) ++ q := by simp
      have e3 : (p.length : Int) + 1 = ((p ++ [y]).length : Int) := by simp
      rw [e2, e3]
      refine K.neg c (hasI x q (p ++ [y]) (by simp; omega) ?_)
      rcases List.mem_cons.1 h with h | h
      · exact absurd h.symm c
      · exact h
theorem tailI (lk : List S103) (hl : lk.length ≤ 100) (n : Int) : ∀ (q p : List Int), nears n lk = p ++ q → Ev (fun k => laws_FnGraphs.l2 k lk n (p ++ q) (p.length : Int)) true
  | [], p, h => by
    refine K.succ ?_
    simp only [laws_FnGraphs.l2]
    exact K.neg (by simp) (Ev.now _)
  | y :: q, p, h => by
    have hn := nears_len n lk
    rw [h] at hn
    simp at hn
    have hr : rd (p ++ y :: q) (p.length : Int) = y := by simp [rd, List.getD_eq_getElem?_getD]
    have w1 := Aside0.mk (K.wr (x := (p.length : Int) + 1) (by omega) (by omega))
    have w2 := Aside0.mk (K.wr (x := (p.length : Int) - 1) (by omega) (by omega))
    have e2 : p ++ y :: q = (p ++ [y]) ++ q := by simp
    have e3 : (p.length : Int) + 1 = ((p ++ [y]).length : Int) := by simp
    have ih := tailI lk hl n q (p ++ [y]) (by rw [← e2]; exact h)
    rw [← e2, ← e3] at ih
    have hy : y ∈ nears n lk := by rw [h]; simp
    have hb := nears_back n y lk hy
    have hc : Ev (fun k => laws_contains.f k (nears y lk) n) true := by
      unfold laws_contains.f
      exact hasI n (nears y lk) [] (by have := nears_len y lk; simp; omega) hb
    refine K.succ ?_
    simp only [laws_FnGraphs.l2, hr, w1.out, w2.out]
    refine K.pos (by simp; omega) (K.pos (by omega) (Ev.bind (iNears y lk (by omega)) (Ev.bind hc (K.pos rfl ?_))))
    rcases List.eq_nil_or_concat p with rfl | ⟨p', z, rfl⟩
    · exact K.neg (by simp) ih
    · have hs := nears_sorted n lk
      rw [h] at hs
      have hz : z < y := (List.pairwise_append.1 hs).2.2 z (by simp) y (by simp)
      have hrz : rd (p'.concat z ++ y :: q) (((p'.concat z).length : Int) - 1) = z := by
        have : ((p'.concat z).length : Int) - 1 = (p'.length : Int) := by simp
        rw [this]
        simp [rd, List.getD_eq_getElem?_getD]
      rw [hrz]
      have hpl : 0 < (p'.concat z).length := by simp
      exact K.pos (by omega) (K.pos (by omega) (K.pos (by simp; omega) (K.neg (by omega) ih)))
theorem l1I (code : List Int) (L : List S96) (la : Int → List S103) (hla : ∀ t, (la t).length ≤ 1048576 ∧ Ev (fun k => impl_LinksAt.f k L t) (la t)) (P : List S78) (i s t : Int) (hi0 : 0 ≤ i) (hi : i < (P.length : Int)) (hP : P.length ≤ 5000) (hr : rd_T78 P i = ⟨s, t⟩) (hs : 0 ≤ s) (ht : t ≤ 1000) (hc : ∀ u, s ≤ u → u < t → la u = la s) (r : Bool) (g : Ev (fun k => laws_FnGraphs.l0 k code L P (i + 1)) r) : ∀ (d : Nat) (u : Int), s ≤ u → u ≤ t → t - u = d → Ev (fun k => laws_FnGraphs.l1 k code L P i u) r := by
  have w1 := Aside0.mk (K.wr (x := i + 1) (by omega) (by omega))
  have out : ∀ u, Ev (fun k => laws_FnGraphs.j4 k code L P i u false) r := by
    intro u
    refine K.succ ?_
    simp only [laws_FnGraphs.j4, w1.out]
    exact K.neg Bool.false_ne_true g
  intro d
  induction d with
  | zero =>
    intro u u0 u1 hd
    refine K.succ ?_
    simp only [laws_FnGraphs.l1, hr]
    exact K.pos hi0 (K.pos hi (K.neg (by omega) (out u)))
  | succ d ih =>
    intro u u0 u1 hd
    have w2 := Aside0.mk (K.wr (x := u + 1) (by omega) (by omega))
    refine K.succ ?_
    simp only [laws_FnGraphs.l1, hr]
    refine K.pos hi0 (K.pos hi (K.pos (by omega) ?_))
    by_cases c : u ≤ 40
    · rw [show decide (u ≤ 40) = true from decide_eq_true c]
      obtain ⟨v, hv, e⟩ := sameI (la s) (la u) (hla s).1
      have hv : v = true := hv.2 (hc u u0 (by omega)).symm
      subst hv
      refine K.succ ?_
      simp only [laws_FnGraphs.j4, hr, w2.out]
      exact K.pos trivial (K.pos hi0 (K.pos hi (Ev.bind (hla s).2 (Ev.bind (hla u).2 (Ev.bind e (K.pos rfl (ih (u + 1) (by omega) (by omega) (by omega))))))))
    · rw [show decide (u ≤ 40) = false from decide_eq_false c]
      exact out u
theorem l0I (code : List Int) (L : List S96) (la : Int → List S103) (hla : ∀ t, (la t).length ≤ 1048576 ∧ Ev (fun k => impl_LinksAt.f k L t) (la t)) (r : Bool) (hend : ∀ P : List S78, Ev (fun k => laws_FnGraphs.l0 k code L P (P.length : Int)) r) : ∀ (c : List Int) (s : Int) (q : List S78), q.length + c.length ≤ 3000 → PG la s c → (q = [] ∨ ∃ q' a, q = q' ++ [⟨a, s⟩] ∧ (c ≠ [] → la s ≠ la a)) → Ev (fun k => laws_FnGraphs.l0 k code L (q ++ pcs s c) (q.length : Int)) r
  | [], s, q, hl, hg, hq => by
    rw [pcs, List.append_nil]
    exact hend q
  | t :: c, s, q, hl, hg, hq => by
    obtain ⟨⟨g0, g1, g2⟩, g3, g4, g5⟩ := hg
    simp at hl
    have pl : ∀ (c : List Int) (s : Int), (pcs s c).length = c.length := by
      intro c
      induction c with
      | nil => intro s; rfl
      | cons x c ih => intro s; simp [pcs, ih]
    have hr : rd_T78 (q ++ pcs s (t :: c)) (q.length : Int) = ⟨s, t⟩ := by simp [rd_T78, List.getD_eq_getElem?_getD, pcs]
    have hlen : (q ++ pcs s (t :: c)).length = q.length + (c.length + 1) := by rw [List.length_append, pl]; simp
    have e2 : q ++ pcs s (t :: c) = (q ++ [⟨s, t⟩]) ++ pcs t c := by simp [pcs]
    have e3 : (q.length : Int) + 1 = ((q ++ [(⟨s, t⟩ : S78)]).length : Int) := by simp
    have ih := l0I code L la hla r hend c t (q ++ [⟨s, t⟩]) (by simp; omega) g5 (.inr ⟨q, s, rfl, g4⟩)
    rw [← e2, ← e3] at ih
    have w2 := Aside0.mk (K.wr (x := (q.length : Int) - 1) (by omega) (by omega))
    have hj : Ev (fun k => laws_FnGraphs.j2 k code L (q ++ pcs s (t :: c)) (q.length : Int) false) r := by
      refine K.succ ?_
      simp only [laws_FnGraphs.j2, hr]
      refine K.neg Bool.false_ne_true (K.pos (by omega) (K.pos (by omega) ?_))
      exact l1I code L la hla _ (q.length : Int) s t (by omega) (by omega) (by omega) hr g0 g2 g3 r ih (t - s).toNat s (by omega) (by omega) (by omega)
    have hs : (!decide (0 ≤ s ∧ t ≤ 1000 ∧ s < t)) = false := by rw [decide_eq_true ⟨g0, g2, g1⟩]; rfl
    refine K.succ ?_
    simp only [laws_FnGraphs.l0, hr, w2.out, iIsSpan, Option.bind_some, hs]
    refine K.pos (by omega) ?_
    rcases hq with rfl | ⟨q', a, rfl, hne⟩
    · exact K.neg (by simp) (K.pos (by omega) hj)
    · have hrz : rd_T78 (q' ++ [⟨a, s⟩] ++ pcs s (t :: c)) (((q' ++ [(⟨a, s⟩ : S78)]).length : Int) - 1) = ⟨a, s⟩ := by
        have : ((q' ++ [(⟨a, s⟩ : S78)]).length : Int) - 1 = (q'.length : Int) := by simp
        rw [this]
        simp [rd_T78, List.getD_eq_getElem?_getD]
      obtain ⟨v, hv, e⟩ := sameI (la a) (la s) (hla a).1
      have hv : v = false := Bool.eq_false_iff.2 (fun h => hne (by simp) (hv.1 h).symm)
      subst hv
      simp only [hrz]
      have hql : 0 < (q' ++ [(⟨a, s⟩ : S78)]).length := by simp
      exact K.pos (by omega) (K.pos (by omega) (K.pos (by omega) (K.pos (by omega) (K.pos trivial (Ev.bind (hla a).2 (Ev.bind (hla s).2 (Ev.bind e (K.neg Bool.false_ne_true hj))))))))
theorem pcs_last : ∀ (c : List Int) (s tt : Int), ∃ (Q : List S78) (a : Int), pcs s (c ++ [tt]) = Q ++ [⟨a, tt⟩] ∧ Q.length = c.length
  | [], s, tt => ⟨[], s, rfl, rfl⟩
  | x :: c, s, tt => by
    obtain ⟨Q, a, h1, h2⟩ := pcs_last c x tt
    exact ⟨⟨s, x⟩ :: Q, a, by rw [List.cons_append, pcs, h1]; rfl, by simp [h2]⟩
theorem pcs_head : ∀ (c : List Int) (s tt : Int), (rd_T78 (pcs s (c ++ [tt])) 0).f0 = s
  | [], s, tt => rfl
  | x :: c, s, tt => rfl
end LFnGraphs
theorem FnGraphs (l : List Int) : ∃ k, laws_FnGraphs.f k l = some true := by
  refine K.rounds (g := fun k => laws_FnGraphs.f k l) ?_
  unfold laws_FnGraphs.f laws_big.f
  refine K.known rfl ?_
  by_cases c : (l.length : Int) > 1048576
  · exact K.pos (decide_eq_true c) (Ev.now _)
  refine K.neg (by simp; omega) ?_
  obtain ⟨L, f, tt, hL, e1⟩ := LFnGraphs.drawPieces l (by omega)
  obtain ⟨lk, n, hlk, e2⟩ := LFnGraphs.drawNear l (by omega)
  obtain ⟨la, hla⟩ := Classical.axiomOfChoice (LFnGraphs.linksI L (by omega))
  refine Ev.bind e1 ?_
  dsimp only
  rcases LFnGraphs.piecesI L la hla f tt with ⟨hn, e3⟩ | ⟨hy, x, hx, hg, e3⟩
  · refine Ev.bind e3 (K.pos rfl ?_)
    by_cases c1 : f < 0
    · exact K.pos c1 (Ev.now _)
    · refine K.neg c1 ?_
      by_cases c2 : tt > 1000
      · exact K.pos c2 (Ev.now _)
      · refine K.neg c2 ?_
        rw [show decide (f ≥ tt) = true from decide_eq_true (by omega)]
        exact Ev.now _
  · obtain ⟨Q, a, h1, h2⟩ := LFnGraphs.pcs_last x f tt
    have h3 := LFnGraphs.pcs_head x f tt
    have hend : ∀ P : List S78, Ev (fun k => laws_FnGraphs.l0 k l L P (P.length : Int)) true := by
      intro P
      refine K.succ ?_
      simp only [laws_FnGraphs.l0]
      refine K.neg (by omega) (Ev.bind e2 (Ev.bind (LFnGraphs.iNears n lk (by omega)) ?_))
      exact LFnGraphs.tailI lk hlk n (LFnGraphs.nears n lk) [] rfl
    have hloop := LFnGraphs.l0I l L la hla true hend (x ++ [tt]) f [] (by simp; omega) hg (.inl rfl)
    have hlen : (LFnGraphs.pcs f (x ++ [tt])).length = x.length + 1 := by rw [h1]; simp [h2]
    have hlast : (rd_T78 (LFnGraphs.pcs f (x ++ [tt])) (((LFnGraphs.pcs f (x ++ [tt])).length : Int) - 1)).f1 = tt := by
      rw [hlen, h1, show ((x.length + 1 : Nat) : Int) - 1 = (Q.length : Int) by omega]
      simp [rd_T78, List.getD_eq_getElem?_getD]
    refine Ev.bind e3 (K.neg (by omega) (K.pos (by omega) ?_))
    have w1 := Aside0.mk (K.wr (x := ((LFnGraphs.pcs f (x ++ [tt])).length : Int) - 1) (by omega) (by omega))
    simp only [h3, w1.out, hlast]
    refine K.pos trivial (K.pos (by omega) (K.pos (by omega) ?_))
    rw [show (tt != tt) = false by simp]
    refine K.succ ?_
    simp only [laws_FnGraphs.j0]
    exact K.neg Bool.false_ne_true hloop

end Go.Proofs.Ytlljhblilicnfaa.Pure
