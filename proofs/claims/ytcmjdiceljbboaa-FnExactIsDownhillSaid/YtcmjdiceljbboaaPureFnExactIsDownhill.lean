/- Whether a table leads downhill is told alike by the program and the reference, for every table of at most 2^20 entries. -/
import Derived.Test.YtcmjdiceljbboaaQFnExactIsDownhillx
import Derived.Test.YtcmjdiceljbboaaKKit
namespace Go.Proofs.Ytcmjdiceljbboaa.Pure
open Go.RowKit Go.Proofs.Ytcmjdiceljbboaa.PFnExactIsDownhill Go.Proofs.YtcmjdiceljbboaaW.PrintWords Go.Proofs.YtcmjdiceljbboaaW.PrintLast Go.Proofs.YtcmjdiceljbboaaW.PrintMore Go.Proofs.Ytcmjdiceljbboaa
set_option linter.unusedSimpArgs false
set_option linter.unusedVariables false
namespace LFnExactIsDownhill
theorem rd_of {l : List Int} {i : Int} {x : Int} (h : l[i.toNat]? = some x) : rd l i = x := by
  simp only [rd, List.getD_eq_getElem?_getD, h, Option.getD_some]
theorem rd_mem {l : List Int} {i : Int} (h0 : 0 ≤ i) (h : i < (l.length : Int)) : rd l i ∈ l := by
  have hg : l[i.toNat]? = some (l[i.toNat]'(by omega)) := List.getElem?_eq_getElem (by omega)
  rw [rd_of hg]
  exact List.getElem_mem _
theorem toIntS (l : List Int) (hl : l.length ≤ 1048576) : Ev (fun k => laws_toIntS.f k l) l := by
  unfold laws_toIntS.f
  refine K.pos (by omega) (K.pos (by omega) ?_)
  refine K.fill (fun k xs i => laws_toIntS.l0 k l xs i) l hl ?_ ?_ l.length _ 0 (by omega) (by omega) (by simp) (by intro j hj; omega)
  · intro k xs i hi
    simp only [laws_toIntS.l0]
    rw [if_neg hi]
  · intro k xs i y h0 hi hx hy
    simp only [laws_toIntS.l0]
    rw [if_pos hi, if_pos h0, if_pos (by omega), K.wr (x := i + 1) (by omega) (by omega), rd_of hy]
theorem eqIntS (l : List Int) (hl : l.length ≤ 67108864) : Ev (fun k => laws_eqIntS.f k l l) true := by
  unfold laws_eqIntS.f
  refine K.pos rfl ?_
  refine K.all (n := l.length) (fun k i => laws_eqIntS.l0 k l l i) ?_ ?_ l.length 0 (by omega) (by omega)
  · intro k i hi
    simp only [laws_eqIntS.l0]
    rw [if_neg hi]
  · intro k i h0 hi
    simp only [laws_eqIntS.l0, ↓reduceIte]
    rw [if_pos hi, if_pos h0, if_pos hi, K.wr (x := i + 1) (by omega) (by omega)]
theorem szIntS (l : List Int) (left : Int) (h0 : 0 ≤ left) (h1 : left ≤ 1048576) (hm : l.length ≤ 9223372036854775807) : laws_szIntS.f l left = some (if (l.length : Int) ≤ left then left - l.length else -1) := by
  unfold laws_szIntS.f
  rw [K.wr (by omega) (by omega)]
  split <;> split <;> first | rfl | omega
theorem szTable (d : Int) (a b : List Int) (left : Int) (h0 : 0 ≤ left) (h1 : left ≤ 1048576) (ha : a.length ≤ 9223372036854775807) (hb : b.length ≤ 9223372036854775807) :
    laws_szTable.f d a b left = some (if (a.length : Int) + b.length ≤ left then left - a.length - b.length else -1) := by
  unfold laws_szTable.f
  rw [szIntS a left h0 h1 ha]
  simp only [Option.bind_some]
  by_cases c : (a.length : Int) ≤ left
  · rw [if_pos c, szIntS b _ (by omega) (by omega) hb]
    simp only [Option.bind_some]
    rw [if_neg (by omega)]
    by_cases c2 : (b.length : Int) ≤ left - a.length
    · rw [if_pos c2, if_neg (by omega), if_pos (by omega)]
    · rw [if_neg c2, if_pos (by omega), if_neg (by omega)]
  · rw [if_neg c, if_pos (by omega), if_neg (by omega)]
theorem toTable (d : Int) (a b : List Int) (ha : a.length ≤ 1048576) (hb : b.length ≤ 1048576) : Ev (fun k => laws_toTable.f k d a b) (d, a, b) := by
  unfold laws_toTable.f
  exact Ev.bind (toIntS a ha) (Ev.bind (toIntS b hb) (Ev.now _))
theorem eqTable (d : Int) (a b : List Int) (ha : a.length ≤ 1048576) (hb : b.length ≤ 1048576) : Ev (fun k => laws_eqTable.f k d a b d a b) true := by
  unfold laws_eqTable.f
  exact K.pos rfl (Ev.bind (eqIntS a (by omega)) (K.pos rfl (Ev.bind (eqIntS b (by omega)) (K.pos rfl (Ev.now _)))))
theorem l1In (a b c : Int) : spec_l1In.f a b c = some (decide (b ≤ a ∧ a ≤ c)) := by
  unfold spec_l1In.f
  split <;> (try split) <;> first | rfl | (congr 1; exact decide_eq_decide.2 (by omega)) | (congr 1; exact (decide_eq_false (by omega)).symm)
theorem isIndex (a b : Int) : impl_isIndex.f a b = some (decide (0 ≤ a ∧ a < b)) := by
  unfold impl_isIndex.f
  split <;> (try split) <;> first | rfl | (congr 1; exact decide_eq_decide.2 (by omega)) | (congr 1; exact (decide_eq_false (by omega)).symm)

theorem hill (dst : Int) (D X : List Int) (hl : D.length = X.length) (hn : X.length ≤ 1048576) : ∀ (d : Nat) (i : Int), 0 ≤ i → (X.length : Int) - i = d →
    ∃ v, Ev (fun k => spec_IsDownhill.l0 k i dst D X) v ∧ Ev (fun k => impl_IsDownhill.l0 k X (X.length : Int) i dst D X) v := by
  intro d
  induction d with
  | zero =>
    intro i h0 hd
    refine ⟨true, K.succ ?_, K.succ ?_⟩
    · simp only [spec_IsDownhill.l0]
      repeat (first | refine K.pos (by first | assumption | exact True.intro | with_reducible rfl | omega) ?_ | refine K.neg (by first | assumption | omega | exact Bool.false_ne_true | exact K.nbne _) ?_)
      exact Ev.now _
    · simp only [impl_IsDownhill.l0]
      repeat (first | refine K.pos (by first | assumption | exact True.intro | with_reducible rfl | omega) ?_ | refine K.neg (by first | assumption | omega | exact Bool.false_ne_true | exact K.nbne _) ?_)
      exact Ev.now _
  | succ d ih =>
    intro i h0 hd
    have w2 : wrap64 (i + 1) = i + 1 := K.wr (by omega) (by omega)
    have w3 : wrap64 ((X.length : Int) - 1) = (X.length : Int) - 1 := K.wr (by omega) (by omega)
    obtain ⟨v, h1, h2⟩ := ih (i + 1) (by omega) (by omega)
    by_cases c1 : 0 ≤ rd X i ∧ rd X i < (X.length : Int)
    · by_cases c2 : rd D (rd X i) < 0
      · refine ⟨false, K.succ ?_, K.succ ?_⟩
        · simp only [spec_IsDownhill.l0, l1In, Option.bind_some, decide_eq_true_eq, w2, w3]
          repeat (first | refine K.pos (by first | assumption | exact True.intro | with_reducible rfl | omega) ?_ | refine K.neg (by first | assumption | omega | exact Bool.false_ne_true | exact K.nbne _) ?_)
          exact Ev.now _
        · simp only [impl_IsDownhill.l0, isIndex, Option.bind_some, decide_eq_true_eq, w2]
          repeat (first | refine K.pos (by first | assumption | exact True.intro | with_reducible rfl | omega) ?_ | refine K.neg (by first | assumption | omega | exact Bool.false_ne_true | exact K.nbne _) ?_)
          exact Ev.now _
      · by_cases c3 : rd D (rd X i) ≥ rd D i
        · refine ⟨false, K.succ ?_, K.succ ?_⟩
          · simp only [spec_IsDownhill.l0, l1In, Option.bind_some, decide_eq_true_eq, w2, w3]
            repeat (first | refine K.pos (by first | assumption | exact True.intro | with_reducible rfl | omega) ?_ | refine K.neg (by first | assumption | omega | exact Bool.false_ne_true | exact K.nbne _) ?_)
            exact Ev.now _
          · simp only [impl_IsDownhill.l0, isIndex, Option.bind_some, decide_eq_true_eq, w2]
            repeat (first | refine K.pos (by first | assumption | exact True.intro | with_reducible rfl | omega) ?_ | refine K.neg (by first | assumption | omega | exact Bool.false_ne_true | exact K.nbne _) ?_)
            exact Ev.now _
        · refine ⟨v, K.succ ?_, K.succ ?_⟩
          · simp only [spec_IsDownhill.l0, l1In, Option.bind_some, decide_eq_true_eq, w2, w3]
            repeat (first | refine K.pos (by first | assumption | exact True.intro | with_reducible rfl | omega) ?_ | refine K.neg (by first | assumption | omega | exact Bool.false_ne_true | exact K.nbne _) ?_)
            exact h1
          · simp only [impl_IsDownhill.l0, isIndex, Option.bind_some, decide_eq_true_eq, w2]
            repeat (first | refine K.pos (by first | assumption | exact True.intro | with_reducible rfl | omega) ?_ | refine K.neg (by first | assumption | omega | exact Bool.false_ne_true | exact K.nbne _) ?_)
            exact h2
    · refine ⟨v, K.succ ?_, K.succ ?_⟩
      · simp only [spec_IsDownhill.l0, l1In, Option.bind_some, decide_eq_true_eq, w2, w3]
        repeat (first | refine K.pos (by first | assumption | exact True.intro | with_reducible rfl | omega) ?_ | refine K.neg (by first | assumption | omega | exact Bool.false_ne_true | exact K.nbne _) ?_)
        exact h1
      · simp only [impl_IsDownhill.l0, isIndex, Option.bind_some, decide_eq_true_eq, w2]
        repeat (first | refine K.pos (by first | assumption | exact True.intro | with_reducible rfl | omega) ?_ | refine K.neg (by first | assumption | omega | exact Bool.false_ne_true | exact K.nbne _) ?_)
        exact h2
theorem both (dst : Int) (D X : List Int) (hn : X.length ≤ 1048576) : ∃ v, Ev (fun k => spec_IsDownhill.f k dst D X) v ∧ Ev (fun k => impl_IsDownhill.f k dst D X) v := by
  unfold spec_IsDownhill.f impl_IsDownhill.f
  by_cases c : (D.length : Int) = (X.length : Int)
  · obtain ⟨v, h1, h2⟩ := hill dst D X (by omega) hn X.length 0 (by omega) (by omega)
    exact ⟨v, K.pos c h1, K.pos c h2⟩
  · exact ⟨false, K.neg c (Ev.now _), K.neg c (Ev.now _)⟩
end LFnExactIsDownhill
theorem FnExactIsDownhill (dst : Int) (a b : List Int) (ha : a.length ≤ 9223372036854775807) (hb : b.length ≤ 9223372036854775807) : ∃ k, laws_FnExactIsDownhill.f k dst a b = some true := by
  refine K.rounds (g := fun k => laws_FnExactIsDownhill.f k dst a b) ?_
  unfold laws_FnExactIsDownhill.f
  refine K.known (LFnExactIsDownhill.szTable dst a b 1048576 (by omega) (by omega) ha hb) ?_
  by_cases c : (a.length : Int) + b.length ≤ 1048576
  · rw [if_pos c]
    obtain ⟨v, h1, h2⟩ := LFnExactIsDownhill.both dst a b (by omega)
    repeat (first | exact Ev.now _ | refine K.pos (by first | exact True.intro | with_reducible rfl | omega) ?_ | refine K.neg (by first | omega | exact Bool.false_ne_true | exact K.nbne _) ?_ | refine Ev.bind (LFnExactIsDownhill.toTable dst a b (by omega) (by omega)) ?_ | refine Ev.bind (h1) ?_ | refine Ev.bind (h2) ?_ | refine Ev.bind (LFnExactIsDownhill.eqTable dst a b (by omega) (by omega)) ?_)
  · rw [if_neg c]
    exact K.pos (by omega) (Ev.now _)

end Go.Proofs.Ytcmjdiceljbboaa.Pure
