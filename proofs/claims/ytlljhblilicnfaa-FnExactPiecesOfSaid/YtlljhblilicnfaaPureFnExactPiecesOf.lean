/- The pieces of time are one list in the program and in the reference, for every list of at most 2^20 contacts and any two ticks. -/
import Derived.Test.YtlljhblilicnfaaPFnExactPiecesOfx
import Derived.Test.YtlljhblilicnfaaKKit
namespace Go.Proofs.Ytlljhblilicnfaa.Pure
open Go.RowKit Go.Proofs.Ytlljhblilicnfaa.PFnExactPiecesOf Go.Proofs.YtlljhblilicnfaaW.PrintWords Go.Proofs.YtlljhblilicnfaaW.PrintLast Go.Proofs.YtlljhblilicnfaaW.PrintMore Go.Proofs.Ytlljhblilicnfaa
set_option linter.unusedSimpArgs false
set_option linter.unusedVariables false
namespace LFnExactPiecesOf

def cvContact (x : S99) : S96 := ⟨x.f0, x.f1, x.f2, x.f3⟩
theorem toContactS (l : List S99) (hl : l.length ≤ 1048576) : Ev (fun k => laws_toContactS.f k l) (l.map cvContact) := by
  unfold laws_toContactS.f
  refine K.pos (by omega) (K.pos (by omega) ?_)
  refine K.fill (fun k xs i => laws_toContactS.l0 k l xs i) (l.map cvContact) (by simpa using hl) ?_ ?_ l.length _ 0 (by omega) (by simp) (by simp) (by intro j hj; omega)
  · intro k xs i hi
    simp only [List.length_map] at hi
    simp only [laws_toContactS.l0]
    rw [if_neg hi]
  · intro k xs i y h0 hi hx hy
    simp only [List.length_map] at hi hx
    simp only [laws_toContactS.l0, laws_toContact.f, Option.bind_some]
    rw [if_pos hi, if_pos h0, if_pos (by omega), K.wr (x := i + 1) (by omega) (by omega)]
    have hg : l[i.toNat]? = some (l[i.toNat]'(by omega)) := List.getElem?_eq_getElem (by omega)
    rw [List.getElem?_map, hg, Option.map_some] at hy
    obtain rfl := Option.some.inj hy
    have hr : rd_T99 l i = l[i.toNat]'(by omega) := by
      simp only [rd_T99, List.getD_eq_getElem?_getD, hg, Option.getD_some]
    rw [hr]
    rfl
theorem szContactS (l : List S99) (left : Int) (h0 : 0 ≤ left) (h1 : left ≤ 1048576) (hm : l.length ≤ 9223372036854775807) : laws_szContactS.f l left = some (if (l.length : Int) ≤ left then left - l.length else -1) := by
  unfold laws_szContactS.f
  rw [K.wr (by omega) (by omega)]
  split <;> split <;> first | rfl | omega


theorem eqContactS (l : List S96) (hl : l.length ≤ 67108864) : Ev (fun k => laws_eqContactS.f k l l) true := by
  unfold laws_eqContactS.f
  refine K.pos rfl ?_
  refine K.all (n := l.length) (fun k i => laws_eqContactS.l0 k l l i) ?_ ?_ l.length 0 (by omega) (by omega)
  · intro k i hi
    simp only [laws_eqContactS.l0]
    rw [if_neg hi]
  · intro k i h0 hi
    simp only [laws_eqContactS.l0, laws_eqContact.f, ↓reduceIte, Option.bind_some]
    rw [if_pos hi, if_pos h0, if_pos hi, K.wr (x := i + 1) (by omega) (by omega)]


theorem rd_Contact_of {l : List S96} {i : Int} {x : S96} (h : l[i.toNat]? = some x) : rd_T96 l i = x := by
  simp only [rd_T96, List.getD_eq_getElem?_getD, h, Option.getD_some]
theorem rd_Contact_set {l : List S96} {i : Int} {x : S96} (h : i.toNat < l.length) : rd_T96 (l.set i.toNat x) i = x :=
  rd_Contact_of (List.getElem?_set_self h)


theorem layContactS (l : List S96) (c : Int) (hl : l.length ≤ 67108864) (hc0 : 0 ≤ c) (hc1 : c ≤ 1099511627776) : ∃ m ys, c ≤ m ∧ m ≤ c + 16 * l.length ∧ Ev (fun k => laws_markContactS.f k l c) (m, ys) := by
  unfold laws_markContactS.f
  refine Exists.elim (K.lay (fun k xs c i => laws_markContactS.l0 k xs c i) l.length 4 (fun c _ => (⟨c, c + 1, c + 2, c + 3⟩ : S96)) (by omega) (by omega)
    ?_ ?_ l.length l c 0 (by omega) (by omega) rfl (by omega) (by omega)) (fun m h => h.elim fun ys h => ⟨m, ys, h.1, h.2.1, h.2.2.2⟩)
  · intro k xs c i hi hx
    simp only [laws_markContactS.l0]
    rw [if_neg (by omega)]
  · intro k xs c i x h0 hi hx hc0 hc1 hxi
    have hlt : i.toNat < xs.length := by omega
    simp only [laws_markContactS.l0, Option.bind_some]
    rw [if_pos (by omega), if_pos h0]
    rw [K.wr (x := c + 1) (by omega) (by omega)]
    rw [K.wr (x := c + 1 + 1) (by omega) (by omega), show c + 1 + 1 = c + 2 by omega]
    rw [K.wr (x := c + 2 + 1) (by omega) (by omega), show c + 2 + 1 = c + 3 by omega]
    rw [K.wr (x := c + 3 + 1) (by omega) (by omega), show c + 3 + 1 = c + 4 by omega]
    simp only [rd_Contact_set, List.length_set, hlt, List.set_set]
    rw [K.wr (x := i + 1) (by omega) (by omega)]


theorem eqSpanS (l : List S78) (hl : l.length ≤ 67108864) : Ev (fun k => laws_eqSpanS.f k l l) true := by
  unfold laws_eqSpanS.f
  refine K.pos rfl ?_
  refine K.all (n := l.length) (fun k i => laws_eqSpanS.l0 k l l i) ?_ ?_ l.length 0 (by omega) (by omega)
  · intro k i hi
    simp only [laws_eqSpanS.l0]
    rw [if_neg hi]
  · intro k i h0 hi
    simp only [laws_eqSpanS.l0, laws_eqSpan.f, ↓reduceIte, Option.bind_some]
    rw [if_pos hi, if_pos h0, if_pos hi, K.wr (x := i + 1) (by omega) (by omega)]


theorem rd_Span_of {l : List S78} {i : Int} {x : S78} (h : l[i.toNat]? = some x) : rd_T78 l i = x := by
  simp only [rd_T78, List.getD_eq_getElem?_getD, h, Option.getD_some]
theorem rd_Span_set {l : List S78} {i : Int} {x : S78} (h : i.toNat < l.length) : rd_T78 (l.set i.toNat x) i = x :=
  rd_Span_of (List.getElem?_set_self h)


theorem markSpanS (l : List S78) (hl : l.length ≤ 67108864) : ∃ m ys, 1 ≤ m ∧ Ev (fun k => laws_markSpanS.f k l 1) (m, ys) ∧ Ev (fun k => laws_heldSpanS.f k ys 1) m := by
  unfold laws_markSpanS.f laws_heldSpanS.f
  refine Exists.elim (K.marks (fun k xs c i => laws_markSpanS.l0 k xs c i) (fun k xs c i => laws_heldSpanS.l0 k xs c i) l.length 2 (fun c _ => (⟨c, c + 1⟩ : S78)) (by omega) (by omega) hl
    ?_ ?_ ?_ ?_ l.length l 1 0 (by omega) (by omega) rfl (by omega) (by omega)) (fun m h => h.elim fun ys h => ⟨m, ys, h.1, h.2.2.2.2.1, h.2.2.2.2.2⟩)
  · intro k xs c i hi hx
    simp only [laws_markSpanS.l0]
    rw [if_neg (by omega)]
  · intro k xs c i x h0 hi hx hc0 hc1 hxi
    have hlt : i.toNat < xs.length := by omega
    simp only [laws_markSpanS.l0, Option.bind_some]
    rw [if_pos (by omega), if_pos h0]
    rw [K.wr (x := c + 1) (by omega) (by omega)]
    rw [K.wr (x := c + 1 + 1) (by omega) (by omega), show c + 1 + 1 = c + 2 by omega]
    simp only [rd_Span_set, List.length_set, hlt, List.set_set]
    rw [K.wr (x := i + 1) (by omega) (by omega)]
  · intro k xs c i hi hx
    simp only [laws_heldSpanS.l0]
    rw [if_neg (by omega)]
  · intro k xs c i x h0 hi hx hc0 hc1 hxi
    simp only [laws_heldSpanS.l0]
    rw [if_pos (by omega), if_pos h0, rd_Span_of hxi]
    rw [K.wr (x := c + 1) (by omega) (by omega)]
    rw [K.wr (x := c + 1 + 1) (by omega) (by omega), show c + 1 + 1 = c + 2 by omega]
    simp only [↓reduceIte]
    rw [K.wr (x := i + 1) (by omega) (by omega)]

theorem sIsSpan (a b : Int) : spec_IsSpan.f a b = some (decide (0 ≤ a ∧ b ≤ 1000 ∧ a < b)) := by
  unfold spec_IsSpan.f
  split <;> (try split) <;> first | rfl | (congr 1; exact decide_eq_decide.2 (by omega)) | (congr 1; exact (decide_eq_false (by omega)).symm)
theorem iIsSpan (a b : Int) : impl_IsSpan.f a b = some (decide (0 ≤ a ∧ b ≤ 1000 ∧ a < b)) := by
  unfold impl_IsSpan.f
  split <;> (try split) <;> first | rfl | (congr 1; exact decide_eq_decide.2 (by omega)) | (congr 1; exact (decide_eq_false (by omega)).symm)
theorem sInSpan (a b t : Int) : spec_InSpan.f a b t = some (decide (0 ≤ a ∧ b ≤ 1000 ∧ a ≤ t ∧ t < b)) := by
  unfold spec_InSpan.f
  simp only [sIsSpan, Option.bind_some, decide_eq_true_eq]
  split <;> (try split) <;> first | rfl | (congr 1; exact decide_eq_decide.2 (by omega)) | (congr 1; exact (decide_eq_false (by omega)).symm)
theorem iInSpan (a b t : Int) : impl_InSpan.f a b t = some (decide (0 ≤ a ∧ b ≤ 1000 ∧ a ≤ t ∧ t < b)) := by
  unfold impl_InSpan.f
  simp only [iIsSpan, Option.bind_some, decide_eq_true_eq]
  split <;> (try split) <;> first | rfl | (congr 1; exact decide_eq_decide.2 (by omega)) | (congr 1; exact (decide_eq_false (by omega)).symm)
/-- Is a link in a list, at place i or behind? -/
def inL (l : List S103) (i a b : Int) : Prop := ∃ j : Int, i ≤ j ∧ 0 ≤ j ∧ j < (l.length : Int) ∧ (rd_T103 l j).f0 = a ∧ (rd_T103 l j).f1 = b
theorem index_yes (l : List S103) (hl : l.length ≤ 1048576) (a b : Int) : ∀ (d : Nat) (i : Int), 0 ≤ i → (l.length : Int) - i = d →
    ∃ v, Ev (fun k => impl_Link_122.l0 k l (l.length : Int) i a b) v ∧ (inL l i a b ↔ 0 ≤ v) := by
  intro d
  induction d with
  | zero =>
    intro i h0 hd
    refine ⟨-1, K.succ ?_, fun h => ?_, fun h => by omega⟩
    · simp only [impl_Link_122.l0]
      repeat (first | refine K.pos (by first | assumption | exact True.intro | with_reducible rfl | omega) ?_ | refine K.neg (by first | assumption | omega | exact Bool.false_ne_true | exact K.nbne _) ?_)
      exact Ev.now _
    · obtain ⟨j, h1, h2, h3, _⟩ := h
      omega
  | succ d ih =>
    intro i h0 hd
    have w2 : wrap64 (i + 1) = i + 1 := K.wr (by omega) (by omega)
    by_cases c : (rd_T103 l i).f0 = a ∧ (rd_T103 l i).f1 = b
    · have e : (a == (rd_T103 l i).f0 && b == (rd_T103 l i).f1) = true := by simp [c.1, c.2]
      refine ⟨i, K.succ ?_, fun _ => h0, fun _ => ⟨i, by omega, h0, by omega, c.1, c.2⟩⟩
      simp only [impl_Link_122.l0, e]
      repeat (first | refine K.pos (by first | assumption | exact True.intro | with_reducible rfl | omega) ?_ | refine K.neg (by first | assumption | omega | exact Bool.false_ne_true | exact K.nbne _) ?_)
      exact Ev.now _
    · have e : (a == (rd_T103 l i).f0 && b == (rd_T103 l i).f1) = false := by
        rw [Bool.and_eq_false_iff, beq_eq_false_iff_ne, beq_eq_false_iff_ne]
        by_cases c1 : a = (rd_T103 l i).f0
        · exact Or.inr (fun h => c ⟨c1.symm, h.symm⟩)
        · exact Or.inl c1
      obtain ⟨v, h1, h2⟩ := ih (i + 1) (by omega) (by omega)
      refine ⟨v, K.succ ?_, ?_⟩
      · simp only [impl_Link_122.l0, e, w2]
        repeat (first | refine K.pos (by first | assumption | exact True.intro | with_reducible rfl | omega) ?_ | refine K.neg (by first | assumption | omega | exact Bool.false_ne_true | exact K.nbne _) ?_)
        exact h1
      · rw [← h2]
        constructor
        · rintro ⟨j, g1, g2, g3, g4, g5⟩
          by_cases ej : j = i
          · subst ej
            exact absurd ⟨g4, g5⟩ c
          · exact ⟨j, by omega, g2, g3, g4, g5⟩
        · rintro ⟨j, g1, g2, g3, g4, g5⟩
          exact ⟨j, by omega, g2, g3, g4, g5⟩
theorem contains_yes (l : List S103) (hl : l.length ≤ 1048576) (a b : Int) : ∃ v : Bool, Ev (fun k => impl_Link_93.f k l a b) v ∧ (inL l 0 a b ↔ v = true) := by
  obtain ⟨v, h1, h2⟩ := index_yes l hl a b l.length 0 (by omega) (by omega)
  refine ⟨decide (v ≥ 0), ?_, by rw [h2]; simp⟩
  unfold impl_Link_93.f impl_Link_122.f
  exact Ev.bind h1 (Ev.now _)
/-- The reference's search of the link: it goes on to l0 with what it has found. -/
theorem there (L : List S96) (t : Int) (out : List S103) (ho : out.length ≤ 1048576) (i a b : Int) (v : List S103)
    (hy : ∀ b' : Bool, (b' = true ↔ inL out 0 a b) → Ev (fun k => spec_LinksAt.l1 k L t out i b' (out.length : Int) a b) v) : ∀ (d : Nat) (j : Int) (x : Bool), 0 ≤ j → (out.length : Int) - j = d →
      (x = true ∨ inL out j a b ↔ inL out 0 a b) → Ev (fun k => spec_LinksAt.l1 k L t out i x j a b) v := by
  intro d
  induction d with
  | zero =>
    intro j x hj hd hx
    have : j = out.length := by omega
    subst this
    refine hy x ⟨fun h => hx.1 (Or.inl h), fun h => ?_⟩
    rcases hx.2 h with h | ⟨q, h1, h2, h3, _⟩
    · exact h
    · omega
  | succ d ih =>
    intro j x hj hd hx
    have w2 : wrap64 (j + 1) = j + 1 := K.wr (by omega) (by omega)
    refine K.succ ?_
    simp only [spec_LinksAt.l1, w2]
    refine K.pos (by omega) ?_
    cases x with
    | true =>
      refine K.pos rfl (ih _ _ (by omega) (by omega) ⟨fun _ => hx.1 (Or.inl rfl), fun _ => Or.inl rfl⟩)
    | false =>
      refine K.neg Bool.false_ne_true (K.pos hj (ih _ _ (by omega) (by omega) ?_))
      rw [← hx]
      constructor
      · rintro (h | ⟨q, h1, h2, h3, h4⟩)
        · rw [Bool.and_eq_true, beq_iff_eq, beq_iff_eq] at h
          exact Or.inr ⟨j, by omega, hj, by omega, h.1, h.2⟩
        · exact Or.inr ⟨q, by omega, h2, h3, h4⟩
      · rintro (h | ⟨q, h1, h2, h3, h4⟩)
        · cases h
        · by_cases e : q = j
          · subst e
            refine Or.inl ?_
            rw [Bool.and_eq_true, beq_iff_eq, beq_iff_eq]
            exact h4
          · exact Or.inr ⟨q, by omega, h2, h3, h4⟩
theorem links (L : List S96) (hL : L.length ≤ 1048576) (t : Int) : ∀ (d : Nat) (out : List S103) (i : Int), 0 ≤ i → (L.length : Int) - i = d → (out.length : Int) ≤ i →
    ∃ v : List S103, v.length ≤ 1048576 ∧ Ev (fun k => spec_LinksAt.l0 k L t out i) v ∧ Ev (fun k => impl_LinksAt.l0 k t out L (L.length : Int) i) v := by
  intro d
  induction d with
  | zero =>
    intro out i h0 hd ho
    refine ⟨out, by omega, K.succ ?_, K.succ ?_⟩
    · simp only [spec_LinksAt.l0]
      repeat (first | refine K.pos (by first | assumption | exact True.intro | with_reducible rfl | omega) ?_ | refine K.neg (by first | assumption | omega | exact Bool.false_ne_true | exact K.nbne _) ?_)
      exact Ev.now _
    · simp only [impl_LinksAt.l0]
      repeat (first | refine K.pos (by first | assumption | exact True.intro | with_reducible rfl | omega) ?_ | refine K.neg (by first | assumption | omega | exact Bool.false_ne_true | exact K.nbne _) ?_)
      exact Ev.now _
  | succ d ih =>
    intro out i h0 hd ho
    have w2 : wrap64 (i + 1) = i + 1 := K.wr (by omega) (by omega)
    obtain ⟨b, hc, hb⟩ := contains_yes out (by omega) (rd_T96 L i).f0 (rd_T96 L i).f1
    have hin : ∀ v, (∀ b' : Bool, (b' = true ↔ inL out 0 (rd_T96 L i).f0 (rd_T96 L i).f1) → Ev (fun k => spec_LinksAt.l1 k L t out i b' (out.length : Int) (rd_T96 L i).f0 (rd_T96 L i).f1) v) → Ev (fun k => spec_LinksAt.l0 k L t out i) v := by
      intro v hv
      refine K.succ ?_
      simp only [spec_LinksAt.l0]
      refine K.pos (by omega) (K.pos h0 ?_)
      exact there L t out (by omega) i _ _ v hv out.length 0 false (by omega) (by omega) ⟨fun h => h.elim (fun h => by cases h) id, Or.inr⟩
    by_cases c : 0 ≤ (rd_T96 L i).f2 ∧ (rd_T96 L i).f3 ≤ 1000 ∧ (rd_T96 L i).f2 ≤ t ∧ t < (rd_T96 L i).f3
    · cases b with
      | true =>
        obtain ⟨v, hv, h1, h2⟩ := ih out (i + 1) (by omega) (by omega) (by omega)
        refine ⟨v, hv, hin v (fun b' hb' => K.succ ?_), K.succ ?_⟩
        · have : b' = true := hb'.2 (hb.2 rfl)
          subst this
          simp only [spec_LinksAt.l1, w2]
          exact K.neg (by omega) (K.pos (by trivial) h1)
        · simp only [impl_LinksAt.l0, impl_spanOf.f, iInSpan, Option.bind_some, decide_eq_true_eq, w2]
          exact K.pos (by omega) (K.pos h0 (K.pos (by omega) (K.pos c (Ev.bind hc (K.pos rfl h2)))))
      | false =>
        obtain ⟨v, hv, h1, h2⟩ := ih (out ++ [(⟨(rd_T96 L i).f0, (rd_T96 L i).f1⟩ : S103)]) (i + 1) (by omega) (by omega) (by simp; omega)
        refine ⟨v, hv, hin v (fun b' hb' => K.succ ?_), K.succ ?_⟩
        · have : b' = false := Bool.eq_false_iff.2 (fun h => Bool.false_ne_true (hb.1 (hb'.1 h)))
          subst this
          simp only [spec_LinksAt.l1, sInSpan, Option.bind_some, decide_eq_true_eq, w2]
          exact K.neg (by omega) (K.neg Bool.false_ne_true (K.pos h0 (K.pos (by omega) (K.pos c (K.pos (by omega) h1)))))
        · simp only [impl_LinksAt.l0, impl_spanOf.f, iInSpan, Option.bind_some, decide_eq_true_eq, w2]
          exact K.pos (by omega) (K.pos h0 (K.pos (by omega) (K.pos c (Ev.bind hc (K.neg Bool.false_ne_true (K.pos (by omega) h2))))))
    · obtain ⟨v, hv, h1, h2⟩ := ih out (i + 1) (by omega) (by omega) (by omega)
      refine ⟨v, hv, hin v (fun b' hb' => K.succ ?_), K.succ ?_⟩
      · cases b' with
        | true =>
          simp only [spec_LinksAt.l1, w2]
          exact K.neg (by omega) (K.pos (by trivial) h1)
        | false =>
          simp only [spec_LinksAt.l1, sInSpan, Option.bind_some, decide_eq_true_eq, w2]
          exact K.neg (by omega) (K.neg Bool.false_ne_true (K.pos h0 (K.pos (by omega) (K.neg c h1))))
      · simp only [impl_LinksAt.l0, impl_spanOf.f, iInSpan, Option.bind_some, decide_eq_true_eq, w2]
        exact K.pos (by omega) (K.pos h0 (K.pos (by omega) (K.neg c h2)))
theorem linksAt (L : List S96) (hL : L.length ≤ 1048576) (t : Int) : ∃ v : List S103, v.length ≤ 1048576 ∧ Ev (fun k => spec_LinksAt.f k L t) v ∧ Ev (fun k => impl_LinksAt.f k L t) v :=
  links L hL t L.length [] 0 (by omega) (by omega) (by simp)
theorem same (a b : List S103) (hl : a.length = b.length) (hn : a.length ≤ 1048576) : ∀ (d : Nat) (i : Int), 0 ≤ i → (a.length : Int) - i = d →
    ∃ v, Ev (fun k => spec_SameLinks.l0 k a b i) v ∧ Ev (fun k => impl_Link_113.l0 k a b (a.length : Int) i) v ∧ Ev (fun k => impl_Link_113.l0 k b a (b.length : Int) i) v := by
  intro d
  induction d with
  | zero =>
    intro i h0 hd
    refine ⟨true, K.succ ?_, K.succ ?_, K.succ ?_⟩
    · simp only [spec_SameLinks.l0]
      repeat (first | refine K.pos (by first | assumption | exact True.intro | with_reducible rfl | omega) ?_ | refine K.neg (by first | assumption | omega | exact Bool.false_ne_true | exact K.nbne _) ?_)
      exact Ev.now _
    · simp only [impl_Link_113.l0]
      repeat (first | refine K.pos (by first | assumption | exact True.intro | with_reducible rfl | omega) ?_ | refine K.neg (by first | assumption | omega | exact Bool.false_ne_true | exact K.nbne _) ?_)
      exact Ev.now _
    · simp only [impl_Link_113.l0]
      repeat (first | refine K.pos (by first | assumption | exact True.intro | with_reducible rfl | omega) ?_ | refine K.neg (by first | assumption | omega | exact Bool.false_ne_true | exact K.nbne _) ?_)
      exact Ev.now _
  | succ d ih =>
    intro i h0 hd
    have w2 : wrap64 (i + 1) = i + 1 := K.wr (by omega) (by omega)
    have hsym : (!(((rd_T103 b i).f0) == ((rd_T103 a i).f0)) || (!(((rd_T103 b i).f1) == ((rd_T103 a i).f1)))) = (!(((rd_T103 a i).f0) == ((rd_T103 b i).f0)) || (!(((rd_T103 a i).f1) == ((rd_T103 b i).f1)))) := by
      rw [Bool.beq_comm (a := (rd_T103 b i).f0), Bool.beq_comm (a := (rd_T103 b i).f1)]
    by_cases c : (!(((rd_T103 a i).f0) == ((rd_T103 b i).f0)) || (!(((rd_T103 a i).f1) == ((rd_T103 b i).f1)))) = true
    · refine ⟨false, K.succ ?_, K.succ ?_, K.succ ?_⟩
      · simp only [spec_SameLinks.l0, w2]
        repeat (first | refine K.pos (by first | assumption | exact True.intro | with_reducible rfl | omega) ?_ | refine K.neg (by first | assumption | omega | exact Bool.false_ne_true | exact K.nbne _) ?_)
        exact Ev.now _
      · simp only [impl_Link_113.l0, w2]
        repeat (first | refine K.pos (by first | assumption | exact True.intro | with_reducible rfl | omega) ?_ | refine K.neg (by first | assumption | omega | exact Bool.false_ne_true | exact K.nbne _) ?_)
        exact Ev.now _
      · simp only [impl_Link_113.l0, w2, hsym]
        repeat (first | refine K.pos (by first | assumption | exact True.intro | with_reducible rfl | omega) ?_ | refine K.neg (by first | assumption | omega | exact Bool.false_ne_true | exact K.nbne _) ?_)
        exact Ev.now _
    · obtain ⟨v, h1, h2, h3⟩ := ih (i + 1) (by omega) (by omega)
      refine ⟨v, K.succ ?_, K.succ ?_, K.succ ?_⟩
      · simp only [spec_SameLinks.l0, w2]
        repeat (first | refine K.pos (by first | assumption | exact True.intro | with_reducible rfl | omega) ?_ | refine K.neg (by first | assumption | omega | exact Bool.false_ne_true | exact K.nbne _) ?_)
        exact h1
      · simp only [impl_Link_113.l0, w2]
        repeat (first | refine K.pos (by first | assumption | exact True.intro | with_reducible rfl | omega) ?_ | refine K.neg (by first | assumption | omega | exact Bool.false_ne_true | exact K.nbne _) ?_)
        exact h2
      · simp only [impl_Link_113.l0, w2, hsym]
        repeat (first | refine K.pos (by first | assumption | exact True.intro | with_reducible rfl | omega) ?_ | refine K.neg (by first | assumption | omega | exact Bool.false_ne_true | exact K.nbne _) ?_)
        exact h3
/-- The reference at (a, b), the program at (a, b) and at (b, a). -/
theorem sameLinks (a b : List S103) (hn : a.length ≤ 1048576) : ∃ v, Ev (fun k => spec_SameLinks.f k a b) v ∧ Ev (fun k => impl_SameLinks.f k a b) v ∧ Ev (fun k => impl_SameLinks.f k b a) v := by
  unfold spec_SameLinks.f impl_SameLinks.f impl_Link_113.f
  by_cases c : (a.length : Int) = (b.length : Int)
  · obtain ⟨v, h1, h2, h3⟩ := same a b (by omega) hn a.length 0 (by omega) (by omega)
    exact ⟨v, K.pos c h1, Ev.bind (K.pos c h2) (Ev.now _), Ev.bind (K.pos c.symm h3) (Ev.now _)⟩
  · exact ⟨false, K.neg c (Ev.now _), Ev.bind (K.neg c (Ev.now _)) (Ev.now _), Ev.bind (K.neg (fun h => c h.symm) (Ev.now _)) (Ev.now _)⟩
theorem sMin (a b : Int) : spec_Min.f a b = some (mn a b) := by
  unfold spec_Min.f mn
  split <;> rfl
theorem sMax (a b : Int) : spec_Max.f a b = some (mx a b) := by
  unfold spec_Max.f mx
  split <;> first | rfl | (split <;> first | rfl | (exfalso; omega))
/-- From one tick on, both loops at the same list. -/
theorem changes (L : List S96) (hL : L.length ≤ 1048576) (lo from_ tt : Int) (hi : Int) (hhi : hi ≤ 1000) (hm : mn tt 1000 = hi) : ∀ (d : Nat) (out : List Int) (t : Int), 1 ≤ t → hi - t ≤ d → from_ < t → (out.length : Int) ≤ t → out.length + d ≤ 2000 →
    ∃ v : List Int, v.length ≤ 2000 ∧ Ev (fun k => spec_ChangesOf.l0 k L out hi t) v ∧ Ev (fun k => impl_ChangesOf.l0 k L from_ tt out t) v := by
  intro d
  induction d with
  | zero =>
    intro out t h0 hd hf ho hod
    refine ⟨out, by omega, K.succ ?_, K.succ ?_⟩
    · simp only [spec_ChangesOf.l0]
      exact K.neg (by omega) (Ev.now _)
    · simp only [impl_ChangesOf.l0, hm]
      exact K.neg (by omega) (Ev.now _)
  | succ d ih =>
    intro out t h0 hd hf ho hod
    by_cases c : t < hi
    · have w1 : wrap64 (t + 1) = t + 1 := K.wr (by omega) (by omega)
      have w2 : wrap64 (t - 1) = t - 1 := K.wr (by omega) (by omega)
      obtain ⟨x, hx, x1, x2⟩ := linksAt L hL (t - 1)
      obtain ⟨y, hy, y1, y2⟩ := linksAt L hL t
      obtain ⟨b, b1, _, b2⟩ := sameLinks x y hx
      cases b with
      | true =>
        obtain ⟨v, hv, h1, h2⟩ := ih out (t + 1) (by omega) (by omega) (by omega) (by omega) (by omega)
        refine ⟨v, hv, K.succ ?_, K.succ ?_⟩
        · simp only [spec_ChangesOf.l0, w1, w2]
          exact K.pos c (Ev.bind x1 (Ev.bind y1 (Ev.bind b1 (K.pos rfl h1))))
        · simp only [impl_ChangesOf.l0, w1, w2, hm]
          exact K.pos c (K.pos (by omega) (Ev.bind y2 (Ev.bind x2 (Ev.bind b2 (K.pos rfl h2)))))
      | false =>
        obtain ⟨v, hv, h1, h2⟩ := ih (out ++ [t]) (t + 1) (by omega) (by omega) (by omega) (by simp; omega) (by simp; omega)
        refine ⟨v, hv, K.succ ?_, K.succ ?_⟩
        · simp only [spec_ChangesOf.l0, w1, w2]
          exact K.pos c (Ev.bind x1 (Ev.bind y1 (Ev.bind b1 (K.neg Bool.false_ne_true (K.pos (by omega) h1)))))
        · simp only [impl_ChangesOf.l0, w1, w2, hm]
          exact K.pos c (K.pos (by omega) (Ev.bind y2 (Ev.bind x2 (Ev.bind b2 (K.neg Bool.false_ne_true (K.pos (by omega) h2))))))
    · refine ⟨out, by omega, K.succ ?_, K.succ ?_⟩
      · simp only [spec_ChangesOf.l0]
        exact K.neg c (Ev.now _)
      · simp only [impl_ChangesOf.l0, hm]
        exact K.neg c (Ev.now _)
/-- The program's ticks before the first that counts. -/
theorem skip (L : List S96) (from_ tt : Int) (hi : Int) (hhi : hi ≤ 1000) (hm : mn tt 1000 = hi) (v : List Int) (s : Int) (hs : s ≤ from_ + 1 ∨ hi ≤ s) (h : Ev (fun k => impl_ChangesOf.l0 k L from_ tt [] s) v) : ∀ (d : Nat) (t : Int), 1 ≤ t → s - t = d → s ≤ from_ + 1 → Ev (fun k => impl_ChangesOf.l0 k L from_ tt [] t) v := by
  intro d
  induction d with
  | zero =>
    intro t h0 hd hf
    have : t = s := by omega
    subst this
    exact h
  | succ d ih =>
    intro t h0 hd hf
    have ih' := ih (t + 1) (by omega) (by omega) hf
    by_cases c : t < hi
    · have w1 : wrap64 (t + 1) = t + 1 := K.wr (by omega) (by omega)
      refine K.succ ?_
      simp only [impl_ChangesOf.l0, w1, hm]
      exact K.pos c (K.neg (by omega) ih')
    · have hend : ∀ (x : Int), hi ≤ x → ∀ u, Ev (fun k => impl_ChangesOf.l0 k L from_ tt [] x) u → u = [] := by
        intro x hx u hu
        obtain ⟨K', hk⟩ := hu
        have := hk (K' + 1) (by omega)
        simp only [impl_ChangesOf.l0, hm] at this
        rw [if_neg (by omega)] at this
        exact (Option.some.inj this).symm
      have : v = [] := hend s (by omega) v h
      subst this
      refine K.succ ?_
      simp only [impl_ChangesOf.l0, hm]
      exact K.neg c (Ev.now _)
theorem changesOf (L : List S96) (hL : L.length ≤ 1048576) (from_ tt : Int) (hf0 : -9223372036854775808 ≤ from_) (hf1 : from_ ≤ 9223372036854775807) :
    ∃ v : List Int, v.length ≤ 2000 ∧ Ev (fun k => spec_ChangesOf.f k L from_ tt) v ∧ Ev (fun k => impl_ChangesOf.f k L from_ tt) v := by
  have hm : mn tt 1000 = mn 1000 tt := by unfold mn; split <;> split <;> omega
  have hhi : mn tt 1000 ≤ 1000 := by unfold mn; split <;> omega
  unfold spec_ChangesOf.f impl_ChangesOf.f
  simp only [sMin, sMax, Option.bind_some]
  have hlo : 0 ≤ mn 1000 (mx 0 from_) ∧ mn 1000 (mx 0 from_) ≤ 1000 ∧ (from_ < 0 → mn 1000 (mx 0 from_) = 0) ∧ (0 ≤ from_ → from_ ≤ 1000 → mn 1000 (mx 0 from_) = from_) ∧ (1000 < from_ → mn 1000 (mx 0 from_) = 1000) := by
    unfold mn mx
    split <;> split <;> omega
  rw [K.wr (x := mn 1000 (mx 0 from_) + 1) (by omega) (by omega), ← hm]
  by_cases c : 1000 < from_
  · -- nothing counts
    refine ⟨[], by simp, K.succ ?_, ?_⟩
    · simp only [spec_ChangesOf.l0]
      exact K.neg (by omega) (Ev.now _)
    · refine skip L from_ tt _ hhi rfl [] 1000 (by omega) (K.succ ?_) 999 1 (by omega) (by omega) (by omega)
      simp only [impl_ChangesOf.l0]
      exact K.neg (by omega) (Ev.now _)
  · obtain ⟨v, hv, h1, h2⟩ := changes L hL 0 from_ tt _ hhi rfl 1000 [] (mn 1000 (mx 0 from_) + 1) (by omega) (by omega) (by omega) (by simp; omega) (by simp)
    refine ⟨v, hv, h1, ?_⟩
    by_cases c2 : 0 ≤ from_
    · exact skip L from_ tt _ hhi rfl v _ (by omega) h2 (mn 1000 (mx 0 from_)).toNat 1 (by omega) (by omega) (by omega)
    · have : mn 1000 (mx 0 from_) + 1 = 1 := by omega
      rw [this] at h2
      exact h2


theorem pieces (c : List Int) (hc : c.length ≤ 10000) : ∀ (d : Nat) (out : List S78) (s i : Int), 0 ≤ i → (c.length : Int) - i = d → (out.length : Int) ≤ i →
    ∃ v : List S78, v.length ≤ 10000 ∧ Ev (fun k => spec_PiecesOf.l0 k out s c i) v ∧ Ev (fun k => impl_PiecesOf.l0 k s out c (c.length : Int) i) v := by
  intro d
  induction d with
  | zero =>
    intro out s i h0 hd ho
    refine ⟨out, by omega, K.succ ?_, K.succ ?_⟩
    · simp only [spec_PiecesOf.l0]
      repeat (first | refine K.pos (by first | assumption | exact True.intro | with_reducible rfl | omega) ?_ | refine K.neg (by first | assumption | omega | exact Bool.false_ne_true | exact K.nbne _) ?_)
      exact Ev.now _
    · simp only [impl_PiecesOf.l0]
      repeat (first | refine K.pos (by first | assumption | exact True.intro | with_reducible rfl | omega) ?_ | refine K.neg (by first | assumption | omega | exact Bool.false_ne_true | exact K.nbne _) ?_)
      exact Ev.now _
  | succ d ih =>
    intro out s i h0 hd ho
    have w1 : wrap64 (i + 1) = i + 1 := K.wr (by omega) (by omega)
    obtain ⟨v, hv, h1, h2⟩ := ih (out ++ [(⟨s, rd c i⟩ : S78)]) (rd c i) (i + 1) (by omega) (by omega) (by simp; omega)
    refine ⟨v, hv, K.succ ?_, K.succ ?_⟩
    · simp only [spec_PiecesOf.l0, w1]
      repeat (first | refine K.pos (by first | assumption | exact True.intro | with_reducible rfl | omega) ?_ | refine K.neg (by first | assumption | omega | exact Bool.false_ne_true | exact K.nbne _) ?_)
      exact h1
    · simp only [impl_PiecesOf.l0, w1]
      repeat (first | refine K.pos (by first | assumption | exact True.intro | with_reducible rfl | omega) ?_ | refine K.neg (by first | assumption | omega | exact Bool.false_ne_true | exact K.nbne _) ?_)
      exact h2
theorem both (L : List S96) (hL : L.length ≤ 1048576) (s t : Int) (hs0 : -9223372036854775808 ≤ s) (hs1 : s ≤ 9223372036854775807) :
    ∃ v : List S78, v.length ≤ 10000 ∧ Ev (fun k => spec_PiecesOf.f k L s t) v ∧ Ev (fun k => impl_PiecesOf.f k L s t) v := by
  unfold spec_PiecesOf.f impl_PiecesOf.f
  simp only [Option.bind_some, sIsSpan, iIsSpan, decide_eq_true_eq]
  by_cases c : 0 ≤ s ∧ t ≤ 1000 ∧ s < t
  · obtain ⟨v, hv, h1, h2⟩ := changesOf L hL s t hs0 hs1
    obtain ⟨u, hu, g1, g2⟩ := pieces (v ++ [t]) (by simp; omega) (v ++ [t]).length [] s 0 (by omega) (by omega) (by simp)
    exact ⟨u, hu, K.pos c (Ev.bind h1 (K.pos (by omega) g1)), K.pos c (Ev.bind h2 (K.pos (by omega) g2))⟩
  · exact ⟨[], by simp, K.neg c (Ev.now _), K.neg c (Ev.now _)⟩
end LFnExactPiecesOf
theorem FnExactPiecesOf (a : List S99) (s t : Int) (ha : a.length ≤ 9223372036854775807) (hs : (Lit.int .i64 s).wf = true) : ∃ k, laws_FnExactPiecesOf.f k a s t = some true := by
  refine Ev.rounds (g := fun k => laws_FnExactPiecesOf.f k a s t) ?_
  unfold laws_FnExactPiecesOf.f
  refine K.known (LFnExactPiecesOf.szContactS a 1048576 (by omega) (by omega) ha) ?_
  by_cases c : (a.length : Int) ≤ 1048576
  · rw [if_pos c]
    obtain ⟨v, hv, h1, h2⟩ := LFnExactPiecesOf.both (a.map LFnExactPiecesOf.cvContact) (by simp; omega) s t (K.wf64 hs).1 (K.wf64 hs).2
    obtain ⟨m0, y0, hm0, _, g0⟩ := LFnExactPiecesOf.layContactS (a.map LFnExactPiecesOf.cvContact) 1 (by simp; omega) (by omega) (by omega)
    obtain ⟨m1, y1, hm1, g1, g2⟩ := LFnExactPiecesOf.markSpanS v (by omega)
    repeat (first | exact Ev.now _ | refine K.pos (by first | exact True.intro | with_reducible rfl | omega) ?_ | refine K.neg (by first | omega | exact Bool.false_ne_true | exact K.nbne _) ?_ | refine Ev.bind (LFnExactPiecesOf.toContactS a (by omega)) ?_ | refine Ev.bind (h1) ?_ | refine Ev.bind (h2) ?_ | refine Ev.bind (LFnExactPiecesOf.eqContactS (a.map LFnExactPiecesOf.cvContact) (by simp; omega)) ?_ | refine Ev.bind (LFnExactPiecesOf.eqSpanS v (by omega)) ?_ | refine Ev.bind (g0) ?_ | refine Ev.bind (g1) ?_ | refine Ev.bind (g2) ?_ | (refine K.succ ?_; simp only [laws_FnExactPiecesOf.j0]))
  · rw [if_neg c]
    exact K.pos (by omega) (Ev.now _)

end Go.Proofs.Ytlljhblilicnfaa.Pure
