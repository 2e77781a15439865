/- Whether two tables are equal is told alike by the program and the reference, for any two tables of at most 2^20 entries together. -/
import Derived.Test.YtcmjdiceljbboaaQFnExactEqualTablesx
import Derived.Test.YtcmjdiceljbboaaKKit
namespace Go.Proofs.Ytcmjdiceljbboaa.Pure
open Go.RowKit Go.Proofs.Ytcmjdiceljbboaa.PFnExactEqualTables Go.Proofs.YtcmjdiceljbboaaW.PrintWords Go.Proofs.YtcmjdiceljbboaaW.PrintLast Go.Proofs.YtcmjdiceljbboaaW.PrintMore Go.Proofs.Ytcmjdiceljbboaa
set_option linter.unusedSimpArgs false
set_option linter.unusedVariables false
namespace LFnExactEqualTables
theorem rd_of {l : List Int} {i : Int} {x : Int} (h : l[i.toNat]? = some x) : rd l i = x := by
  simp only [rd, List.getD_eq_getElem?_getD, h, Option.getD_some]
theorem rd_mem {l : List Int} {i : Int} (h0 : 0 ≤ i) (h : i < (l.length : Int)) : rd l i ∈ l := by
  have hg : l[i.toNat]? = some (l[i.toNat]'(by omega)) := List.getElem?_eq_getElem (by omega)
  rw [rd_of hg]
  exact List.getElem_mem _
theorem toIntS (l : List Int) (hl : l.length ≤ 1048576) : Ev (fun k => laws_toIntS.f k l) l := by
  unfold laws_toIntS.f
  refine K.pos (by omega) (K.pos (by omega) ?_)
  refine K.fill (fun k xs i => laws_toIntS.l0 k l xs i) l hl ?_ ?_ l.length _ 0 (by omega) (by omega) (by simp) (by intro j hj; omega)
  · intro k xs i hi
    simp only [laws_toIntS.l0]
    rw [if_neg hi]
  · intro k xs i y h0 hi hx hy
    simp only [laws_toIntS.l0]
    rw [if_pos hi, if_pos h0, if_pos (by omega), K.wr (x := i + 1) (by omega) (by omega), rd_of hy]
theorem eqIntS (l : List Int) (hl : l.length ≤ 67108864) : Ev (fun k => laws_eqIntS.f k l l) true := by
  unfold laws_eqIntS.f
  refine K.pos rfl ?_
  refine K.all (n := l.length) (fun k i => laws_eqIntS.l0 k l l i) ?_ ?_ l.length 0 (by omega) (by omega)
  · intro k i hi
    simp only [laws_eqIntS.l0]
    rw [if_neg hi]
  · intro k i h0 hi
    simp only [laws_eqIntS.l0, ↓reduceIte]
    rw [if_pos hi, if_pos h0, if_pos hi, K.wr (x := i + 1) (by omega) (by omega)]
theorem szIntS (l : List Int) (left : Int) (h0 : 0 ≤ left) (h1 : left ≤ 1048576) (hm : l.length ≤ 9223372036854775807) : laws_szIntS.f l left = some (if (l.length : Int) ≤ left then left - l.length else -1) := by
  unfold laws_szIntS.f
  rw [K.wr (by omega) (by omega)]
  split <;> split <;> first | rfl | omega
theorem szTable (d : Int) (a b : List Int) (left : Int) (h0 : 0 ≤ left) (h1 : left ≤ 1048576) (ha : a.length ≤ 9223372036854775807) (hb : b.length ≤ 9223372036854775807) :
    laws_szTable.f d a b left = some (if (a.length : Int) + b.length ≤ left then left - a.length - b.length else -1) := by
  unfold laws_szTable.f
  rw [szIntS a left h0 h1 ha]
  simp only [Option.bind_some]
  by_cases c : (a.length : Int) ≤ left
  · rw [if_pos c, szIntS b _ (by omega) (by omega) hb]
    simp only [Option.bind_some]
    rw [if_neg (by omega)]
    by_cases c2 : (b.length : Int) ≤ left - a.length
    · rw [if_pos c2, if_neg (by omega), if_pos (by omega)]
    · rw [if_neg c2, if_pos (by omega), if_neg (by omega)]
  · rw [if_neg c, if_pos (by omega), if_neg (by omega)]
theorem toTable (d : Int) (a b : List Int) (ha : a.length ≤ 1048576) (hb : b.length ≤ 1048576) : Ev (fun k => laws_toTable.f k d a b) (d, a, b) := by
  unfold laws_toTable.f
  exact Ev.bind (toIntS a ha) (Ev.bind (toIntS b hb) (Ev.now _))
theorem eqTable (d : Int) (a b : List Int) (ha : a.length ≤ 1048576) (hb : b.length ≤ 1048576) : Ev (fun k => laws_eqTable.f k d a b d a b) true := by
  unfold laws_eqTable.f
  exact K.pos rfl (Ev.bind (eqIntS a (by omega)) (K.pos rfl (Ev.bind (eqIntS b (by omega)) (K.pos rfl (Ev.now _)))))

theorem eqints (a b : List Int) (hl : a.length = b.length) (hn : a.length ≤ 1048576) : ∀ (d : Nat) (i : Int), 0 ≤ i → (a.length : Int) - i = d →
    ∃ v, Ev (fun k => spec_EqualInts.l0 k a b i) v ∧ Ev (fun k => slices_Equal_int_int.l0 k a b (a.length : Int) i) v := by
  intro d
  induction d with
  | zero =>
    intro i h0 hd
    refine ⟨true, K.succ ?_, K.succ ?_⟩
    · simp only [spec_EqualInts.l0]
      repeat (first | refine K.pos (by first | assumption | exact True.intro | with_reducible rfl | omega) ?_ | refine K.neg (by first | assumption | omega | exact Bool.false_ne_true | exact K.nbne _) ?_)
      exact Ev.now _
    · simp only [slices_Equal_int_int.l0]
      repeat (first | refine K.pos (by first | assumption | exact True.intro | with_reducible rfl | omega) ?_ | refine K.neg (by first | assumption | omega | exact Bool.false_ne_true | exact K.nbne _) ?_)
      exact Ev.now _
  | succ d ih =>
    intro i h0 hd
    have w2 : wrap64 (i + 1) = i + 1 := K.wr (by omega) (by omega)
    by_cases c : rd a i = rd b i
    · obtain ⟨v, h1, h2⟩ := ih (i + 1) (by omega) (by omega)
      refine ⟨v, K.succ ?_, K.succ ?_⟩
      · simp only [spec_EqualInts.l0, w2]
        repeat (first | refine K.pos (by first | assumption | exact True.intro | with_reducible rfl | omega) ?_ | refine K.neg (by first | assumption | omega | exact Bool.false_ne_true | exact K.nbne _) ?_)
        exact h1
      · simp only [slices_Equal_int_int.l0, w2]
        repeat (first | refine K.pos (by first | assumption | exact True.intro | with_reducible rfl | omega) ?_ | refine K.neg (by first | assumption | omega | exact Bool.false_ne_true | exact K.nbne _) ?_)
        exact h2
    · refine ⟨false, K.succ ?_, K.succ ?_⟩
      · simp only [spec_EqualInts.l0, w2]
        repeat (first | refine K.pos (by first | assumption | exact True.intro | with_reducible rfl | omega) ?_ | refine K.neg (by first | assumption | omega | exact Bool.false_ne_true | exact K.nbne _) ?_)
        exact Ev.now _
      · simp only [slices_Equal_int_int.l0, w2]
        repeat (first | refine K.pos (by first | assumption | exact True.intro | with_reducible rfl | omega) ?_ | refine K.neg (by first | assumption | omega | exact Bool.false_ne_true | exact K.nbne _) ?_)
        exact Ev.now _
theorem ints (a b : List Int) (hn : a.length ≤ 1048576) : ∃ v, Ev (fun k => spec_EqualInts.f k a b) v ∧ Ev (fun k => slices_Equal_int_int.f k a b) v := by
  unfold spec_EqualInts.f slices_Equal_int_int.f
  by_cases c : (a.length : Int) = (b.length : Int)
  · obtain ⟨v, h1, h2⟩ := eqints a b (by omega) hn a.length 0 (by omega) (by omega)
    exact ⟨v, K.pos c h1, K.pos c h2⟩
  · exact ⟨false, K.neg c (Ev.now _), K.neg c (Ev.now _)⟩
theorem both (d e : Int) (a b x y : List Int) (ha : a.length ≤ 1048576) (hb : b.length ≤ 1048576) : ∃ v, Ev (fun k => spec_EqualTables.f k d a b e x y) v ∧ Ev (fun k => impl_EqualTables.f k d a b e x y) v := by
  unfold spec_EqualTables.f impl_EqualTables.f
  by_cases c : d = e
  · obtain ⟨v, h1, h2⟩ := ints a x ha
    cases v with
    | true =>
      obtain ⟨u, g1, g2⟩ := ints b y hb
      exact ⟨u, K.pos c (Ev.bind h1 (K.pos rfl (Ev.bind g1 (Ev.now _)))), K.pos c (Ev.bind h2 (K.pos rfl (Ev.bind g2 (Ev.now _))))⟩
    | false => exact ⟨false, K.pos c (Ev.bind h1 (K.neg Bool.false_ne_true (Ev.now _))), K.pos c (Ev.bind h2 (K.neg Bool.false_ne_true (Ev.now _)))⟩
  · exact ⟨false, K.neg c (Ev.now _), K.neg c (Ev.now _)⟩
end LFnExactEqualTables
theorem FnExactEqualTables (d : Int) (a b : List Int) (e : Int) (x y : List Int) (ha : a.length ≤ 9223372036854775807) (hb : b.length ≤ 9223372036854775807) (hx : x.length ≤ 9223372036854775807) (hy : y.length ≤ 9223372036854775807) : ∃ k, laws_FnExactEqualTables.f k d a b e x y = some true := by
  refine Ev.rounds (g := fun k => laws_FnExactEqualTables.f k d a b e x y) ?_
  unfold laws_FnExactEqualTables.f
  refine K.known (LFnExactEqualTables.szTable d a b 1048576 (by omega) (by omega) ha hb) ?_
  by_cases c : (a.length : Int) + b.length ≤ 1048576
  · rw [if_pos c]
    refine K.neg (by omega) (K.known (LFnExactEqualTables.szTable e x y _ (by omega) (by omega) hx hy) ?_)
    by_cases c2 : (x.length : Int) + y.length ≤ 1048576 - a.length - b.length
    · rw [if_pos c2]
      obtain ⟨v, h1, h2⟩ := LFnExactEqualTables.both d e a b x y (by omega) (by omega)
      repeat (first | exact Ev.now _ | refine K.pos (by first | exact True.intro | with_reducible rfl | omega) ?_ | refine K.neg (by first | omega | exact Bool.false_ne_true | exact K.nbne _) ?_ | refine Ev.bind (LFnExactEqualTables.toTable d a b (by omega) (by omega)) ?_ | refine Ev.bind (LFnExactEqualTables.toTable e x y (by omega) (by omega)) ?_ | refine Ev.bind (h1) ?_ | refine Ev.bind (h2) ?_ | refine Ev.bind (LFnExactEqualTables.eqTable d a b (by omega) (by omega)) ?_ | refine Ev.bind (LFnExactEqualTables.eqTable e x y (by omega) (by omega)) ?_)
    · rw [if_neg c2]
      exact K.pos (by omega) (Ev.now _)
  · rw [if_neg c]
    exact K.pos (by omega) (Ev.now _)

end Go.Proofs.Ytcmjdiceljbboaa.Pure
