/- Whether a table is one is told alike by the program and the reference, for every table of at most 2^20 entries and any numbers of nodes. -/
import Derived.Test.YtcmjdiceljbboaaPFnExactIsTablex
import Derived.Test.YtcmjdiceljbboaaKKit
namespace Go.Proofs.Ytcmjdiceljbboaa.Pure
open Go.RowKit Go.Proofs.Ytcmjdiceljbboaa.PFnExactIsTable Go.Proofs.YtcmjdiceljbboaaW.PrintWords Go.Proofs.YtcmjdiceljbboaaW.PrintLast Go.Proofs.YtcmjdiceljbboaaW.PrintMore Go.Proofs.Ytcmjdiceljbboaa
namespace LFnExactIsTable
theorem rd_of {l : List Int} {i : Int} {x : Int} (h : l[i.toNat]? = some x) : rd l i = x := by
  simp only [rd, List.getD_eq_getElem?_getD, h, Option.getD_some]
theorem rd_mem {l : List Int} {i : Int} (h0 : 0 ≤ i) (h : i < (l.length : Int)) : rd l i ∈ l := by
  have hg : l[i.toNat]? = some (l[i.toNat]'(by omega)) := List.getElem?_eq_getElem (by omega)
  rw [rd_of hg]
  exact List.getElem_mem _
theorem toIntS (l : List Int) (hl : l.length ≤ 1048576) : Ev (fun k => laws_toIntS.f k l) l := by
  unfold laws_toIntS.f
  refine K.pos (by omega) (K.pos (by omega) ?_)
  refine K.fill (fun k xs i => laws_toIntS.l0 k l xs i) l hl ?_ ?_ l.length _ 0 (by omega) (by omega) (by simp) (by intro j hj; omega)
  · intro k xs i hi
    simp only [laws_toIntS.l0]
    rw [if_neg hi]
  · intro k xs i y h0 hi hx hy
    simp only [laws_toIntS.l0]
    rw [if_pos hi, if_pos h0, if_pos (by omega), K.wr (x := i + 1) (by omega) (by omega), rd_of hy]
theorem eqIntS (l : List Int) (hl : l.length ≤ 67108864) : Ev (fun k => laws_eqIntS.f k l l) true := by
  unfold laws_eqIntS.f
  refine K.pos rfl ?_
  refine K.all (n := l.length) (fun k i => laws_eqIntS.l0 k l l i) ?_ ?_ l.length 0 (by omega) (by omega)
  · intro k i hi
    simp only [laws_eqIntS.l0]
    rw [if_neg hi]
  · intro k i h0 hi
    simp only [laws_eqIntS.l0, ↓reduceIte]
    rw [if_pos hi, if_pos h0, if_pos hi, K.wr (x := i + 1) (by omega) (by omega)]
theorem szIntS (l : List Int) (left : Int) (h0 : 0 ≤ left) (h1 : left ≤ 1048576) (hm : l.length ≤ 9223372036854775807) : laws_szIntS.f l left = some (if (l.length : Int) ≤ left then left - l.length else -1) := by
  unfold laws_szIntS.f
  rw [K.wr (by omega) (by omega)]
  split <;> split <;> first | rfl | omega
theorem szTable (d : Int) (a b : List Int) (left : Int) (h0 : 0 ≤ left) (h1 : left ≤ 1048576) (ha : a.length ≤ 9223372036854775807) (hb : b.length ≤ 9223372036854775807) :
    laws_szTable.f d a b left = some (if (a.length : Int) + b.length ≤ left then left - a.length - b.length else -1) := by
  unfold laws_szTable.f
  rw [szIntS a left h0 h1 ha]
  simp only [Option.bind_some]
  by_cases c : (a.length : Int) ≤ left
  · rw [if_pos c, szIntS b _ (by omega) (by omega) hb]
    simp only [Option.bind_some]
    rw [if_neg (by omega)]
    by_cases c2 : (b.length : Int) ≤ left - a.length
    · rw [if_pos c2, if_neg (by omega), if_pos (by omega)]
    · rw [if_neg c2, if_pos (by omega), if_neg (by omega)]
  · rw [if_neg c, if_pos (by omega), if_neg (by omega)]
theorem toTable (d : Int) (a b : List Int) (ha : a.length ≤ 1048576) (hb : b.length ≤ 1048576) : Ev (fun k => laws_toTable.f k d a b) (d, a, b) := by
  unfold laws_toTable.f
  exact Ev.bind (toIntS a ha) (Ev.bind (toIntS b hb) (Ev.now _))
theorem eqTable (d : Int) (a b : List Int) (ha : a.length ≤ 1048576) (hb : b.length ≤ 1048576) : Ev (fun k => laws_eqTable.f k d a b d a b) true := by
  unfold laws_eqTable.f
  exact K.pos rfl (Ev.bind (eqIntS a (by omega)) (K.pos rfl (Ev.bind (eqIntS b (by omega)) (K.pos rfl (Ev.now _)))))

theorem l1In (a b c : Int) : spec_l1In.f a b c = some (decide (b ≤ a ∧ a ≤ c)) := by
  unfold spec_l1In.f
  split <;> (try split) <;> first | rfl | (congr 1; exact decide_eq_decide.2 (by omega)) | (congr 1; exact (decide_eq_false (by omega)).symm)
theorem isIndex (a b : Int) : impl_isIndex.f a b = some (decide (0 ≤ a ∧ a < b)) := by
  unfold impl_isIndex.f
  split <;> (try split) <;> first | rfl | (congr 1; exact decide_eq_decide.2 (by omega)) | (congr 1; exact (decide_eq_false (by omega)).symm)
theorem InRange (a b c : Int) : impl_InRange.f a b c = some (decide (b ≤ a ∧ a ≤ c)) := by
  unfold impl_InRange.f
  split <;> (try split) <;> first | rfl | (congr 1; exact decide_eq_decide.2 (by omega)) | (congr 1; exact (decide_eq_false (by omega)).symm)

theorem node (dst n f : Int) (D X : List Int) (hD : (D.length : Int) = n) (hX : (X.length : Int) = n) (h1 : 1 ≤ n) (h12 : n ≤ 12) (i : Int) (h0 : 0 ≤ i) (hi : i < n)
    (_hdn : -9223372036854775808 ≤ rd D i) :
    ∃ b, Ev (fun k => spec_l15Node.f k dst D X n f i) b ∧ ∀ k, impl_IsTable.l0 (k + 1) n f D (D.length : Int) i dst D X = if b = true then impl_IsTable.l0 k n f D (D.length : Int) (i + 1) dst D X else some false := by
  have w2 : wrap64 (i + 1) = i + 1 := K.wr (by omega) (by omega)
  have w3 : wrap64 (n - 1) = n - 1 := K.wr (by omega) (by omega)
  by_cases c1 : i = dst
  · by_cases c2 : rd X i = -1
    · by_cases c3 : rd D i = 0
      · refine ⟨true, ?_, fun k => ?_⟩
        · unfold spec_l15Node.f
          repeat (first | refine K.pos (by first | assumption | exact True.intro | with_reducible rfl | omega) ?_ | refine K.neg (by first | assumption | omega | exact Bool.false_ne_true | exact K.nbne _) ?_)
          refine K.succ ?_
          simp only [spec_l15Node.j0]
          repeat (first | refine K.pos (by first | assumption | exact True.intro | with_reducible rfl | omega) ?_ | refine K.neg (by first | assumption | omega | exact Bool.false_ne_true | exact K.nbne _) ?_)
          have : ((rd D i == 0) == (i == dst)) = true := by
            rw [beq_iff_eq.2 c3, beq_iff_eq.2 c1]
            rfl
          rw [this]
          exact Ev.now _
        · simp only [impl_IsTable.l0, w2]
          repeat (first | rw [if_pos (by first | assumption | exact True.intro | with_reducible rfl | omega)] | rw [if_neg (by first | assumption | omega | exact Bool.false_ne_true | exact K.nbne _)])
      · refine ⟨false, ?_, fun k => ?_⟩
        · unfold spec_l15Node.f
          repeat (first | refine K.pos (by first | assumption | exact True.intro | with_reducible rfl | omega) ?_ | refine K.neg (by first | assumption | omega | exact Bool.false_ne_true | exact K.nbne _) ?_)
          refine K.succ ?_
          simp only [spec_l15Node.j0]
          repeat (first | refine K.pos (by first | assumption | exact True.intro | with_reducible rfl | omega) ?_ | refine K.neg (by first | assumption | omega | exact Bool.false_ne_true | exact K.nbne _) ?_)
          have : ((rd D i == 0) == (i == dst)) = false := by
            rw [beq_eq_false_iff_ne.2 c3, beq_iff_eq.2 c1]
            rfl
          rw [this]
          exact Ev.now _
        · simp only [impl_IsTable.l0, w2]
          repeat (first | rw [if_pos (by first | assumption | exact True.intro | with_reducible rfl | omega)] | rw [if_neg (by first | assumption | omega | exact Bool.false_ne_true | exact K.nbne _)])
    · refine ⟨false, ?_, fun k => ?_⟩
      · unfold spec_l15Node.f
        repeat (first | refine K.pos (by first | assumption | exact True.intro | with_reducible rfl | omega) ?_ | refine K.neg (by first | assumption | omega | exact Bool.false_ne_true | exact K.nbne _) ?_)
        refine K.succ ?_
        simp only [spec_l15Node.j0]
        repeat (first | refine K.pos (by first | assumption | exact True.intro | with_reducible rfl | omega) ?_ | refine K.neg (by first | assumption | omega | exact Bool.false_ne_true | exact K.nbne _) ?_)
        exact Ev.now _
      · simp only [impl_IsTable.l0, w2]
        by_cases c3 : rd D i = 0
        · repeat (first | rw [if_pos (by first | assumption | exact True.intro | with_reducible rfl | omega)] | rw [if_neg (by first | assumption | omega | exact Bool.false_ne_true | exact K.nbne _)])
        · repeat (first | rw [if_pos (by first | assumption | exact True.intro | with_reducible rfl | omega)] | rw [if_neg (by first | assumption | omega | exact Bool.false_ne_true | exact K.nbne _)])
  · by_cases c2 : rd D i = -1
    · have e1 : (rd D i == -1) = true := by simp [c2]
      by_cases c3 : rd X i = -1
      · refine ⟨true, ?_, fun k => ?_⟩
        · unfold spec_l15Node.f
          repeat (first | refine K.pos (by first | assumption | exact True.intro | with_reducible rfl | omega) ?_ | refine K.neg (by first | assumption | omega | exact Bool.false_ne_true | exact K.nbne _) ?_)
          refine K.succ ?_
          simp only [spec_l15Node.j0, e1]
          repeat (first | refine K.pos (by first | assumption | exact True.intro | with_reducible rfl | omega) ?_ | refine K.neg (by first | assumption | omega | exact Bool.false_ne_true | exact K.nbne _) ?_)
          have : ((rd D i == 0) == (i == dst)) = true := by
            rw [beq_eq_false_iff_ne.2 (show rd D i ≠ 0 by omega), beq_eq_false_iff_ne.2 c1]
            rfl
          rw [this]
          exact Ev.now _
        · simp only [impl_IsTable.l0, w2]
          repeat (first | rw [if_pos (by first | assumption | exact True.intro | with_reducible rfl | omega)] | rw [if_neg (by first | assumption | omega | exact Bool.false_ne_true | exact K.nbne _)])
      · refine ⟨false, ?_, fun k => ?_⟩
        · unfold spec_l15Node.f
          repeat (first | refine K.pos (by first | assumption | exact True.intro | with_reducible rfl | omega) ?_ | refine K.neg (by first | assumption | omega | exact Bool.false_ne_true | exact K.nbne _) ?_)
          refine K.succ ?_
          simp only [spec_l15Node.j0, e1]
          repeat (first | refine K.pos (by first | assumption | exact True.intro | with_reducible rfl | omega) ?_ | refine K.neg (by first | assumption | omega | exact Bool.false_ne_true | exact K.nbne _) ?_)
          exact Ev.now _
        · simp only [impl_IsTable.l0, w2]
          repeat (first | rw [if_pos (by first | assumption | exact True.intro | with_reducible rfl | omega)] | rw [if_neg (by first | assumption | omega | exact Bool.false_ne_true | exact K.nbne _)])
    · have e1 : (rd D i == -1) = false := by simp [c2]
      by_cases c3 : 1 ≤ rd D i ∧ rd D i ≤ n - 1
      · by_cases c4 : 0 ≤ rd X i ∧ rd X i < n
        · by_cases c5 : rd D (rd X i) = wrap64 (rd D i - 1)
          · by_cases c6 : rd X i < f
            · refine ⟨true, ?_, fun k => ?_⟩
              · unfold spec_l15Node.f
                repeat (first | refine K.pos (by first | assumption | exact True.intro | with_reducible rfl | omega) ?_ | refine K.neg (by first | assumption | omega | exact Bool.false_ne_true | exact K.nbne _) ?_)
                refine K.succ ?_
                simp only [spec_l15Node.j0, e1, l1In, Option.bind_some, decide_eq_true_eq, w3]
                repeat (first | refine K.pos (by first | assumption | exact True.intro | with_reducible rfl | omega) ?_ | refine K.neg (by first | assumption | omega | exact Bool.false_ne_true | exact K.nbne _) ?_)
                rw [c5, beq_self_eq_true]
                exact Ev.now _
              · simp only [impl_IsTable.l0, isIndex, InRange, Option.bind_some, decide_eq_true_eq, w2, w3]
                repeat (first | rw [if_pos (by first | assumption | exact True.intro | with_reducible rfl | omega)] | rw [if_neg (by first | assumption | omega | exact Bool.false_ne_true | exact K.nbne _)])
            · by_cases c7 : rd X i = dst
              · refine ⟨true, ?_, fun k => ?_⟩
                · unfold spec_l15Node.f
                  repeat (first | refine K.pos (by first | assumption | exact True.intro | with_reducible rfl | omega) ?_ | refine K.neg (by first | assumption | omega | exact Bool.false_ne_true | exact K.nbne _) ?_)
                  refine K.succ ?_
                  simp only [spec_l15Node.j0, e1, l1In, Option.bind_some, decide_eq_true_eq, w3]
                  repeat (first | refine K.pos (by first | assumption | exact True.intro | with_reducible rfl | omega) ?_ | refine K.neg (by first | assumption | omega | exact Bool.false_ne_true | exact K.nbne _) ?_)
                  rw [c5, beq_self_eq_true]
                  exact Ev.now _
                · simp only [impl_IsTable.l0, isIndex, InRange, Option.bind_some, decide_eq_true_eq, w2, w3]
                  repeat (first | rw [if_pos (by first | assumption | exact True.intro | with_reducible rfl | omega)] | rw [if_neg (by first | assumption | omega | exact Bool.false_ne_true | exact K.nbne _)])
              · refine ⟨false, ?_, fun k => ?_⟩
                · unfold spec_l15Node.f
                  repeat (first | refine K.pos (by first | assumption | exact True.intro | with_reducible rfl | omega) ?_ | refine K.neg (by first | assumption | omega | exact Bool.false_ne_true | exact K.nbne _) ?_)
                  refine K.succ ?_
                  simp only [spec_l15Node.j0, e1, l1In, Option.bind_some, decide_eq_true_eq, w3]
                  repeat (first | refine K.pos (by first | assumption | exact True.intro | with_reducible rfl | omega) ?_ | refine K.neg (by first | assumption | omega | exact Bool.false_ne_true | exact K.nbne _) ?_)
                  exact Ev.now _
                · simp only [impl_IsTable.l0, isIndex, InRange, Option.bind_some, decide_eq_true_eq, w2, w3]
                  repeat (first | rw [if_pos (by first | assumption | exact True.intro | with_reducible rfl | omega)] | rw [if_neg (by first | assumption | omega | exact Bool.false_ne_true | exact K.nbne _)])
          · have e5 : (rd D (rd X i) == wrap64 (rd D i - 1)) = false := by simp [c5]
            refine ⟨false, ?_, fun k => ?_⟩
            · unfold spec_l15Node.f
              repeat (first | refine K.pos (by first | assumption | exact True.intro | with_reducible rfl | omega) ?_ | refine K.neg (by first | assumption | omega | exact Bool.false_ne_true | exact K.nbne _) ?_)
              refine K.succ ?_
              simp only [spec_l15Node.j0, e1, l1In, Option.bind_some, decide_eq_true_eq, w3, e5]
              repeat (first | refine K.pos (by first | assumption | exact True.intro | with_reducible rfl | omega) ?_ | refine K.neg (by first | assumption | omega | exact Bool.false_ne_true | exact K.nbne _) ?_)
              by_cases c6 : rd X i < f
              · repeat (first | refine K.pos (by first | assumption | exact True.intro | with_reducible rfl | omega) ?_ | refine K.neg (by first | assumption | omega | exact Bool.false_ne_true | exact K.nbne _) ?_)
                exact Ev.now _
              · by_cases c7 : rd X i = dst
                · repeat (first | refine K.pos (by first | assumption | exact True.intro | with_reducible rfl | omega) ?_ | refine K.neg (by first | assumption | omega | exact Bool.false_ne_true | exact K.nbne _) ?_)
                  exact Ev.now _
                · repeat (first | refine K.pos (by first | assumption | exact True.intro | with_reducible rfl | omega) ?_ | refine K.neg (by first | assumption | omega | exact Bool.false_ne_true | exact K.nbne _) ?_)
                  exact Ev.now _
            · simp only [impl_IsTable.l0, isIndex, InRange, Option.bind_some, decide_eq_true_eq, w2, w3]
              by_cases c6 : rd X i < f
              · repeat (first | rw [if_pos (by first | assumption | exact True.intro | with_reducible rfl | omega)] | rw [if_neg (by first | assumption | omega | exact Bool.false_ne_true | exact K.nbne _)])
              · by_cases c7 : rd X i = dst
                · repeat (first | rw [if_pos (by first | assumption | exact True.intro | with_reducible rfl | omega)] | rw [if_neg (by first | assumption | omega | exact Bool.false_ne_true | exact K.nbne _)])
                · repeat (first | rw [if_pos (by first | assumption | exact True.intro | with_reducible rfl | omega)] | rw [if_neg (by first | assumption | omega | exact Bool.false_ne_true | exact K.nbne _)])
        · refine ⟨false, ?_, fun k => ?_⟩
          · unfold spec_l15Node.f
            repeat (first | refine K.pos (by first | assumption | exact True.intro | with_reducible rfl | omega) ?_ | refine K.neg (by first | assumption | omega | exact Bool.false_ne_true | exact K.nbne _) ?_)
            refine K.succ ?_
            simp only [spec_l15Node.j0, e1, l1In, Option.bind_some, decide_eq_true_eq, w3]
            repeat (first | refine K.pos (by first | assumption | exact True.intro | with_reducible rfl | omega) ?_ | refine K.neg (by first | assumption | omega | exact Bool.false_ne_true | exact K.nbne _) ?_)
            exact Ev.now _
          · simp only [impl_IsTable.l0, isIndex, InRange, Option.bind_some, decide_eq_true_eq, w2, w3]
            repeat (first | rw [if_pos (by first | assumption | exact True.intro | with_reducible rfl | omega)] | rw [if_neg (by first | assumption | omega | exact Bool.false_ne_true | exact K.nbne _)])
      · refine ⟨false, ?_, fun k => ?_⟩
        · unfold spec_l15Node.f
          repeat (first | refine K.pos (by first | assumption | exact True.intro | with_reducible rfl | omega) ?_ | refine K.neg (by first | assumption | omega | exact Bool.false_ne_true | exact K.nbne _) ?_)
          refine K.succ ?_
          simp only [spec_l15Node.j0, e1, l1In, Option.bind_some, decide_eq_true_eq, w3]
          repeat (first | refine K.pos (by first | assumption | exact True.intro | with_reducible rfl | omega) ?_ | refine K.neg (by first | assumption | omega | exact Bool.false_ne_true | exact K.nbne _) ?_)
          exact Ev.now _
        · simp only [impl_IsTable.l0, isIndex, InRange, Option.bind_some, decide_eq_true_eq, w2, w3]
          repeat (first | rw [if_pos (by first | assumption | exact True.intro | with_reducible rfl | omega)] | rw [if_neg (by first | assumption | omega | exact Bool.false_ne_true | exact K.nbne _)])
theorem nodes (dst n f : Int) (D X : List Int) (hD : (D.length : Int) = n) (hX : (X.length : Int) = n) (h1 : 1 ≤ n) (h12 : n ≤ 12) (hw : ∀ x ∈ D, (Lit.int .i64 x).wf = true) : ∀ (d : Nat) (i : Int), 0 ≤ i → n - i = d →
    ∃ v, Ev (fun k => spec_IsTable.l0 k n f i dst D X) v ∧ Ev (fun k => impl_IsTable.l0 k n f D (D.length : Int) i dst D X) v := by
  intro d
  induction d with
  | zero =>
    intro i h0 hd
    refine ⟨true, K.succ ?_, K.succ ?_⟩
    · simp only [spec_IsTable.l0]
      repeat (first | refine K.pos (by first | assumption | exact True.intro | with_reducible rfl | omega) ?_ | refine K.neg (by first | assumption | omega | exact Bool.false_ne_true | exact K.nbne _) ?_)
      exact Ev.now _
    · simp only [impl_IsTable.l0]
      repeat (first | refine K.pos (by first | assumption | exact True.intro | with_reducible rfl | omega) ?_ | refine K.neg (by first | assumption | omega | exact Bool.false_ne_true | exact K.nbne _) ?_)
      exact Ev.now _
  | succ d ih =>
    intro i h0 hd
    have w2 : wrap64 (i + 1) = i + 1 := K.wr (by omega) (by omega)
    have hb := K.wf64 (hw _ (rd_mem (l := D) h0 (by omega)))
    obtain ⟨b, hs, him⟩ := node dst n f D X hD hX h1 h12 i h0 (by omega) hb.1
    obtain ⟨v, g1, g2⟩ := ih (i + 1) (by omega) (by omega)
    cases b with
    | true =>
      refine ⟨v, K.succ ?_, K.succ ?_⟩
      · simp only [spec_IsTable.l0, w2]
        refine K.pos (by omega) (Ev.bind hs (K.pos (by trivial) g1))
      · simp only [him]
        exact K.pos (by trivial) g2
    | false =>
      refine ⟨false, K.succ ?_, K.succ ?_⟩
      · simp only [spec_IsTable.l0, w2]
        refine K.pos (by omega) (Ev.bind hs (K.neg (by simp) (Ev.now _)))
      · simp only [him]
        exact K.neg (by simp) (Ev.now _)
theorem both (dst n f : Int) (D X : List Int) (hw : ∀ x ∈ D, (Lit.int .i64 x).wf = true) : ∃ v, Ev (fun k => spec_IsTable.f k dst D X n f) v ∧ Ev (fun k => impl_IsTable.f k dst D X n f) v := by
  unfold spec_IsTable.f impl_IsTable.f spec_l14Ok.f impl_isNumber.f
  simp only [l1In, isIndex, InRange, Option.bind_some, decide_eq_true_eq]
  by_cases c : 1 ≤ n ∧ n ≤ 12
  · have w3 : wrap64 (n - 1) = n - 1 := K.wr (by omega) (by omega)
    by_cases c2 : 0 ≤ dst ∧ dst < n
    · by_cases c3 : (D.length : Int) = n
      · by_cases c4 : (X.length : Int) = n
        · obtain ⟨v, h1, h2⟩ := nodes dst n f D X c3 c4 c.1 c.2 hw n.toNat 0 (by omega) (by omega)
          have e4 : ((X.length : Int) != n) = false := by simp [c4]
          refine ⟨v, ?_, ?_⟩
          · refine K.known (b := true) (by rw [if_pos c, w3]; simp; omega) (K.pos (by trivial) (K.pos c3 (K.succ ?_)))
            simp only [spec_IsTable.j0, e4]
            exact K.neg (by simp) h1
          · refine K.pos c (K.pos c2 (K.pos c3 (K.succ ?_)))
            simp only [impl_IsTable.j0, e4]
            exact K.neg (by simp) h2
        · have e4 : ((X.length : Int) != n) = true := by simp [c4]
          refine ⟨false, ?_, ?_⟩
          · refine K.known (b := true) (by rw [if_pos c, w3]; simp; omega) (K.pos (by trivial) (K.pos c3 (K.succ ?_)))
            simp only [spec_IsTable.j0, e4]
            exact K.pos (by trivial) (Ev.now _)
          · refine K.pos c (K.pos c2 (K.pos c3 (K.succ ?_)))
            simp only [impl_IsTable.j0, e4]
            exact K.pos (by trivial) (Ev.now _)
      · refine ⟨false, ?_, ?_⟩
        · refine K.known (b := true) (by rw [if_pos c, w3]; simp; omega) (K.pos (by trivial) (K.neg c3 (K.succ ?_)))
          simp only [spec_IsTable.j0]
          exact K.pos (by trivial) (Ev.now _)
        · refine K.pos c (K.pos c2 (K.neg c3 (K.succ ?_)))
          simp only [impl_IsTable.j0]
          exact K.pos (by trivial) (Ev.now _)
    · refine ⟨false, ?_, ?_⟩
      · refine K.known (b := false) (by rw [if_pos c, w3]; simp; omega) (K.neg (by simp) (K.succ ?_))
        simp only [spec_IsTable.j0]
        exact K.pos (by trivial) (Ev.now _)
      · refine K.pos c (K.neg c2 (K.succ ?_))
        simp only [impl_IsTable.j0]
        exact K.pos (by trivial) (Ev.now _)
  · refine ⟨false, ?_, ?_⟩
    · refine K.known (b := false) (by rw [if_neg c]) (K.neg (by simp) (K.succ ?_))
      simp only [spec_IsTable.j0]
      exact K.pos (by trivial) (Ev.now _)
    · refine K.neg c (K.succ ?_)
      simp only [impl_IsTable.j0]
      exact K.pos (by trivial) (Ev.now _)
end LFnExactIsTable
theorem FnExactIsTable (dst : Int) (a b : List Int) (n f : Int) (ha : a.length ≤ 9223372036854775807) (hb : b.length ≤ 9223372036854775807) (hw : ∀ x ∈ a, (Lit.int .i64 x).wf = true) : ∃ k, laws_FnExactIsTable.f k dst a b n f = some true := by
  refine Ev.rounds (g := fun k => laws_FnExactIsTable.f k dst a b n f) ?_
  unfold laws_FnExactIsTable.f
  refine K.known (LFnExactIsTable.szTable dst a b 1048576 (by omega) (by omega) ha hb) ?_
  by_cases c : (a.length : Int) + b.length ≤ 1048576
  · rw [if_pos c]
    obtain ⟨v, h1, h2⟩ := LFnExactIsTable.both dst n f a b hw
    repeat (first | exact Ev.now _ | refine K.pos (by first | exact True.intro | with_reducible rfl | omega) ?_ | refine K.neg (by first | omega | exact Bool.false_ne_true | exact K.nbne _) ?_ | refine Ev.bind (LFnExactIsTable.toTable dst a b (by omega) (by omega)) ?_ | refine Ev.bind (h1) ?_ | refine Ev.bind (h2) ?_ | refine Ev.bind (LFnExactIsTable.eqTable dst a b (by omega) (by omega)) ?_)
  · rw [if_neg c]
    exact K.pos (by omega) (Ev.now _)

end Go.Proofs.Ytcmjdiceljbboaa.Pure
