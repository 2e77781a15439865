/- How many routes use a node is one number in the program and in the reference, for every table of at most 2^20 entries and every node. -/
import Derived.Test.YtlljhblilicnfaaPFnExactUsesNodex
import Derived.Test.YtlljhblilicnfaaKKit
namespace Go.Proofs.Ytlljhblilicnfaa.Pure
open Go.RowKit Go.Proofs.Ytlljhblilicnfaa.PFnExactUsesNode Go.Proofs.YtlljhblilicnfaaW.PrintWords Go.Proofs.YtlljhblilicnfaaW.PrintLast Go.Proofs.YtlljhblilicnfaaW.PrintMore Go.Proofs.Ytlljhblilicnfaa
set_option linter.unusedSimpArgs false
set_option linter.unusedVariables false
namespace LFnExactUsesNode
theorem rd_of {l : List Int} {i : Int} {x : Int} (h : l[i.toNat]? = some x) : rd l i = x := by
  simp only [rd, List.getD_eq_getElem?_getD, h, Option.getD_some]
theorem rd_mem {l : List Int} {i : Int} (h0 : 0 ≤ i) (h : i < (l.length : Int)) : rd l i ∈ l := by
  have hg : l[i.toNat]? = some (l[i.toNat]'(by omega)) := List.getElem?_eq_getElem (by omega)
  rw [rd_of hg]
  exact List.getElem_mem _
theorem toIntS (l : List Int) (hl : l.length ≤ 1048576) : Ev (fun k => laws_toIntS.f k l) l := by
  unfold laws_toIntS.f
  refine K.pos (by omega) (K.pos (by omega) ?_)
  refine K.fill (fun k xs i => laws_toIntS.l0 k l xs i) l hl ?_ ?_ l.length _ 0 (by omega) (by omega) (by simp) (by intro j hj; omega)
  · intro k xs i hi
    simp only [laws_toIntS.l0]
    rw [if_neg hi]
  · intro k xs i y h0 hi hx hy
    simp only [laws_toIntS.l0]
    rw [if_pos hi, if_pos h0, if_pos (by omega), K.wr (x := i + 1) (by omega) (by omega), rd_of hy]
theorem eqIntS (l : List Int) (hl : l.length ≤ 67108864) : Ev (fun k => laws_eqIntS.f k l l) true := by
  unfold laws_eqIntS.f
  refine K.pos rfl ?_
  refine K.all (n := l.length) (fun k i => laws_eqIntS.l0 k l l i) ?_ ?_ l.length 0 (by omega) (by omega)
  · intro k i hi
    simp only [laws_eqIntS.l0]
    rw [if_neg hi]
  · intro k i h0 hi
    simp only [laws_eqIntS.l0, ↓reduceIte]
    rw [if_pos hi, if_pos h0, if_pos hi, K.wr (x := i + 1) (by omega) (by omega)]
theorem szIntS (l : List Int) (left : Int) (h0 : 0 ≤ left) (h1 : left ≤ 1048576) (hm : l.length ≤ 9223372036854775807) : laws_szIntS.f l left = some (if (l.length : Int) ≤ left then left - l.length else -1) := by
  unfold laws_szIntS.f
  rw [K.wr (by omega) (by omega)]
  split <;> split <;> first | rfl | omega
theorem szTable (d : Int) (a b : List Int) (left : Int) (h0 : 0 ≤ left) (h1 : left ≤ 1048576) (ha : a.length ≤ 9223372036854775807) (hb : b.length ≤ 9223372036854775807) :
    laws_szTable.f d a b left = some (if (a.length : Int) + b.length ≤ left then left - a.length - b.length else -1) := by
  unfold laws_szTable.f
  rw [szIntS a left h0 h1 ha]
  simp only [Option.bind_some]
  by_cases c : (a.length : Int) ≤ left
  · rw [if_pos c, szIntS b _ (by omega) (by omega) hb]
    simp only [Option.bind_some]
    rw [if_neg (by omega)]
    by_cases c2 : (b.length : Int) ≤ left - a.length
    · rw [if_pos c2, if_neg (by omega), if_pos (by omega)]
    · rw [if_neg c2, if_pos (by omega), if_neg (by omega)]
  · rw [if_neg c, if_pos (by omega), if_neg (by omega)]
theorem toTable (d : Int) (a b : List Int) (ha : a.length ≤ 1048576) (hb : b.length ≤ 1048576) : Ev (fun k => laws_toTable.f k d a b) (d, a, b) := by
  unfold laws_toTable.f
  exact Ev.bind (toIntS a ha) (Ev.bind (toIntS b hb) (Ev.now _))
theorem eqTable (d : Int) (a b : List Int) (ha : a.length ≤ 1048576) (hb : b.length ≤ 1048576) : Ev (fun k => laws_eqTable.f k d a b d a b) true := by
  unfold laws_eqTable.f
  exact K.pos rfl (Ev.bind (eqIntS a (by omega)) (K.pos rfl (Ev.bind (eqIntS b (by omega)) (K.pos rfl (Ev.now _)))))
theorem l1In (a b c : Int) : spec_l1In.f a b c = some (decide (b ≤ a ∧ a ≤ c)) := by
  unfold spec_l1In.f
  split <;> (try split) <;> first | rfl | (congr 1; exact decide_eq_decide.2 (by omega)) | (congr 1; exact (decide_eq_false (by omega)).symm)
theorem isIndex (a b : Int) : impl_isIndex.f a b = some (decide (0 ≤ a ∧ a < b)) := by
  unfold impl_isIndex.f
  split <;> (try split) <;> first | rfl | (congr 1; exact decide_eq_decide.2 (by omega)) | (congr 1; exact (decide_eq_false (by omega)).symm)
theorem path (l : List Int) (hl : l.length ≤ 1048576) (e : Int) : ∀ (d : Nat) (out : List Int) (i : Int), (l.length : Int) + 1 - out.length = d →
    ∃ v : List Int, v.length ≤ 1048577 ∧ Ev (fun k => spec_PathTo.l0 k l e out i) v ∧ Ev (fun k => impl_PathTo.l0 k l i e out) v := by
  intro d
  induction d with
  | zero =>
    intro out i hd
    refine ⟨[], by simp, K.succ ?_, K.succ ?_⟩
    · simp only [spec_PathTo.l0]
      refine K.neg (by omega) (K.succ ?_)
      simp only [spec_PathTo.j1]
      exact K.neg (by simp) (Ev.now _)
    · simp only [impl_PathTo.l0]
      refine K.neg (by omega) (K.succ ?_)
      simp only [impl_PathTo.j1]
      exact K.neg (by simp) (Ev.now _)
  | succ d ih =>
    intro out i hd
    have w1 : wrap64 ((l.length : Int) - 1) = (l.length : Int) - 1 := K.wr (by omega) (by omega)
    have hs : ∀ k, spec_PathTo.l0 (k + 1) l e out i = spec_PathTo.j1 k l e out i (decide (0 ≤ i ∧ i < (l.length : Int))) := by
      intro k
      have hif : (0 ≤ i ∧ i ≤ (l.length : Int) - 1) = (0 ≤ i ∧ i < (l.length : Int)) := propext (by omega)
      simp only [spec_PathTo.l0, l1In, Option.bind_some, w1, hif]
      rw [if_pos (by omega)]
    have hi : ∀ k, impl_PathTo.l0 (k + 1) l i e out = impl_PathTo.j1 k l i e out (decide (0 ≤ i ∧ i < (l.length : Int))) := by
      intro k
      simp only [impl_PathTo.l0, isIndex, Option.bind_some]
      rw [if_pos (by omega)]
    by_cases c : 0 ≤ i ∧ i < (l.length : Int)
    · have hd1 : decide (0 ≤ i ∧ i < (l.length : Int)) = true := by simpa using c
      by_cases ce : i = e
      · refine ⟨out ++ [i], by simp; omega, K.succ ?_, K.succ ?_⟩
        · simp only [hs, hd1]
          refine K.succ ?_
          simp only [spec_PathTo.j1, Option.bind_some]
          exact K.pos (by trivial) (K.pos (by omega) (K.pos ce (Ev.now _)))
        · simp only [hi, hd1]
          refine K.succ ?_
          simp only [impl_PathTo.j1, Option.bind_some]
          exact K.pos (by trivial) (K.pos (by omega) (K.pos ce (Ev.now _)))
      · obtain ⟨v, hv, h1, h2⟩ := ih (out ++ [i]) (rd l i) (by simp; omega)
        refine ⟨v, hv, K.succ ?_, K.succ ?_⟩
        · simp only [hs, hd1]
          refine K.succ ?_
          simp only [spec_PathTo.j1, Option.bind_some]
          exact K.pos (by trivial) (K.pos (by omega) (K.neg ce (K.pos c.1 (K.pos c.2 h1))))
        · simp only [hi, hd1]
          refine K.succ ?_
          simp only [impl_PathTo.j1, Option.bind_some]
          exact K.pos (by trivial) (K.pos (by omega) (K.neg ce (K.pos c.1 (K.pos c.2 h2))))
    · have hd1 : decide (0 ≤ i ∧ i < (l.length : Int)) = false := by simpa using c
      refine ⟨[], by simp, K.succ ?_, K.succ ?_⟩
      · simp only [hs, hd1]
        refine K.succ ?_
        simp only [spec_PathTo.j1]
        exact K.neg (by simp) (Ev.now _)
      · simp only [hi, hd1]
        refine K.succ ?_
        simp only [impl_PathTo.j1]
        exact K.neg (by simp) (Ev.now _)


theorem has (l : List Int) (hl : l.length ≤ 1048577) (n : Int) : ∀ (d : Nat) (i : Int), 0 ≤ i → (l.length : Int) - i = d →
    ∃ v w, Ev (fun k => spec_l15Has.l0 k l n i) v ∧ Ev (fun k => slices_Index_int_int.l0 k l n (l.length : Int) i) w ∧ v = decide (w ≥ 0) := by
  intro d
  induction d with
  | zero =>
    intro i h0 hd
    refine ⟨false, -1, K.succ ?_, K.succ ?_, rfl⟩
    · simp only [spec_l15Has.l0]
      repeat (first | refine K.pos (by first | assumption | exact True.intro | with_reducible rfl | omega) ?_ | refine K.neg (by first | assumption | omega | exact Bool.false_ne_true | exact K.nbne _) ?_)
      exact Ev.now _
    · simp only [slices_Index_int_int.l0]
      repeat (first | refine K.pos (by first | assumption | exact True.intro | with_reducible rfl | omega) ?_ | refine K.neg (by first | assumption | omega | exact Bool.false_ne_true | exact K.nbne _) ?_)
      exact Ev.now _
  | succ d ih =>
    intro i h0 hd
    have w1 : wrap64 (i + 1) = i + 1 := K.wr (by omega) (by omega)
    by_cases c : rd l i = n
    · refine ⟨true, i, K.succ ?_, K.succ ?_, (decide_eq_true h0).symm⟩
      · simp only [spec_l15Has.l0, w1]
        repeat (first | refine K.pos (by first | assumption | exact True.intro | with_reducible rfl | omega) ?_ | refine K.neg (by first | assumption | omega | exact Bool.false_ne_true | exact K.nbne _) ?_)
        exact Ev.now _
      · simp only [slices_Index_int_int.l0, w1]
        repeat (first | refine K.pos (by first | assumption | exact True.intro | with_reducible rfl | omega) ?_ | refine K.neg (by first | assumption | omega | exact Bool.false_ne_true | exact K.nbne _) ?_)
        exact Ev.now _
    · obtain ⟨v, w, h1, h2, h3⟩ := ih (i + 1) (by omega) (by omega)
      refine ⟨v, w, K.succ ?_, K.succ ?_, h3⟩
      · simp only [spec_l15Has.l0, w1]
        repeat (first | refine K.pos (by first | assumption | exact True.intro | with_reducible rfl | omega) ?_ | refine K.neg (by first | assumption | omega | exact Bool.false_ne_true | exact K.nbne _) ?_)
        exact h1
      · simp only [slices_Index_int_int.l0, w1]
        repeat (first | refine K.pos (by first | assumption | exact True.intro | with_reducible rfl | omega) ?_ | refine K.neg (by first | assumption | omega | exact Bool.false_ne_true | exact K.nbne _) ?_)
        exact h2
theorem uses (dst n : Int) (D X : List Int) (hX : X.length ≤ 1048576) : ∀ (d : Nat) (c i : Int), 0 ≤ i → (X.length : Int) - i = d → 0 ≤ c → c ≤ i →
    ∃ v, Ev (fun k => spec_UsesNode.l0 k n c i dst D X) v ∧ Ev (fun k => impl_UsesNode.l0 k n c (X.length : Int) i dst D X) v := by
  intro d
  induction d with
  | zero =>
    intro c i h0 hd hc0 hc1
    refine ⟨c, K.succ ?_, K.succ ?_⟩
    · simp only [spec_UsesNode.l0]
      repeat (first | refine K.pos (by first | assumption | exact True.intro | with_reducible rfl | omega) ?_ | refine K.neg (by first | assumption | omega | exact Bool.false_ne_true | exact K.nbne _) ?_)
      exact Ev.now _
    · simp only [impl_UsesNode.l0]
      repeat (first | refine K.pos (by first | assumption | exact True.intro | with_reducible rfl | omega) ?_ | refine K.neg (by first | assumption | omega | exact Bool.false_ne_true | exact K.nbne _) ?_)
      exact Ev.now _
  | succ d ih =>
    intro c i h0 hd hc0 hc1
    have w1 : wrap64 (i + 1) = i + 1 := K.wr (by omega) (by omega)
    have w2 : wrap64 (c + 1) = c + 1 := K.wr (by omega) (by omega)
    by_cases c1 : i = n
    · obtain ⟨v, h1, h2⟩ := ih c (i + 1) (by omega) (by omega) (by omega) (by omega)
      refine ⟨v, K.succ ?_, K.succ ?_⟩
      · simp only [spec_UsesNode.l0, w1]
        exact K.pos (by omega) (K.pos c1 h1)
      · simp only [impl_UsesNode.l0, w1]
        exact K.pos (by omega) (K.pos c1 h2)
    · by_cases c2 : i = dst
      · obtain ⟨v, h1, h2⟩ := ih c (i + 1) (by omega) (by omega) (by omega) (by omega)
        refine ⟨v, K.succ ?_, K.succ ?_⟩
        · simp only [spec_UsesNode.l0, w1]
          exact K.pos (by omega) (K.neg c1 (K.pos c2 h1))
        · simp only [impl_UsesNode.l0, w1]
          exact K.pos (by omega) (K.neg c1 (K.pos c2 h2))
      · obtain ⟨p, hp, p1, p2⟩ := path X hX dst (X.length + 1) [] i (by simp)
        obtain ⟨b, w, b1, b2, b3⟩ := has p hp n p.length 0 (by omega) (by omega)
        have r1 : Ev (fun k => spec_RouteOf.f k dst D X i) p := Ev.bind (g := fun k => spec_PathTo.f k X i dst) p1 (Ev.now _)
        have r2 : Ev (fun k => impl_RouteOf.f k dst D X i) p := Ev.bind (g := fun k => impl_PathTo.f k X i dst) p2 (Ev.now _)
        have q2 : Ev (fun k => slices_Contains_int_int.f k p n) b := by
          rw [b3]
          exact Ev.bind (g := fun k => slices_Index_int_int.f k p n) b2 (Ev.now _)
        cases b with
        | true =>
          obtain ⟨v, h1, h2⟩ := ih (c + 1) (i + 1) (by omega) (by omega) (by omega) (by omega)
          refine ⟨v, K.succ ?_, K.succ ?_⟩
          · simp only [spec_UsesNode.l0, w1, w2]
            exact K.pos (by omega) (K.neg c1 (K.neg c2 (Ev.bind r1 (Ev.bind (g := fun k => spec_l15Has.f k p n) b1 (K.pos rfl h1)))))
          · simp only [impl_UsesNode.l0, w1, w2]
            exact K.pos (by omega) (K.neg c1 (K.neg c2 (Ev.bind r2 (Ev.bind q2 (K.pos rfl h2)))))
        | false =>
          obtain ⟨v, h1, h2⟩ := ih c (i + 1) (by omega) (by omega) (by omega) (by omega)
          refine ⟨v, K.succ ?_, K.succ ?_⟩
          · simp only [spec_UsesNode.l0, w1]
            exact K.pos (by omega) (K.neg c1 (K.neg c2 (Ev.bind r1 (Ev.bind (g := fun k => spec_l15Has.f k p n) b1 (K.neg Bool.false_ne_true h1)))))
          · simp only [impl_UsesNode.l0, w1]
            exact K.pos (by omega) (K.neg c1 (K.neg c2 (Ev.bind r2 (Ev.bind q2 (K.neg Bool.false_ne_true h2)))))
end LFnExactUsesNode
theorem FnExactUsesNode (dst : Int) (a b : List Int) (n : Int) (ha : a.length ≤ 9223372036854775807) (hb : b.length ≤ 9223372036854775807) : ∃ k, laws_FnExactUsesNode.f k dst a b n = some true := by
  refine Ev.rounds (g := fun k => laws_FnExactUsesNode.f k dst a b n) ?_
  unfold laws_FnExactUsesNode.f
  refine K.known (LFnExactUsesNode.szTable dst a b 1048576 (by omega) (by omega) ha hb) ?_
  by_cases c : (a.length : Int) + b.length ≤ 1048576
  · rw [if_pos c]
    obtain ⟨v, h1, h2⟩ := LFnExactUsesNode.uses dst n a b (by omega) b.length 0 0 (by omega) (by omega) (by omega) (by omega)
    have e1 : Ev (fun k => spec_UsesNode.f k dst a b n) v := h1
    have e2 : Ev (fun k => impl_UsesNode.f k dst a b n) v := h2
    repeat (first | exact Ev.now _ | refine K.pos (by first | exact True.intro | with_reducible rfl | omega) ?_ | refine K.neg (by first | omega | exact Bool.false_ne_true | exact K.nbne _) ?_ | refine Ev.bind (LFnExactUsesNode.toTable dst a b (by omega) (by omega)) ?_ | refine Ev.bind (e1) ?_ | refine Ev.bind (e2) ?_ | refine Ev.bind (LFnExactUsesNode.eqTable dst a b (by omega) (by omega)) ?_)
  · rw [if_neg c]
    exact K.pos (by omega) (Ev.now _)

end Go.Proofs.Ytlljhblilicnfaa.Pure
