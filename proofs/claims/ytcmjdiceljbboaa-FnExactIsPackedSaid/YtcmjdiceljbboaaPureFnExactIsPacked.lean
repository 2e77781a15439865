/- Whether a list of runs is packed is told alike by the program and the reference, for every list of at most 2^20 runs. -/
import Derived.Test.YtcmjdiceljbboaaQFnExactIsPackedx
import Derived.Test.YtcmjdiceljbboaaKKit
namespace Go.Proofs.Ytcmjdiceljbboaa.Pure
open Go.RowKit Go.Proofs.Ytcmjdiceljbboaa.PFnExactIsPacked Go.Proofs.YtcmjdiceljbboaaW.PrintWords Go.Proofs.YtcmjdiceljbboaaW.PrintLast Go.Proofs.YtcmjdiceljbboaaW.PrintMore Go.Proofs.Ytcmjdiceljbboaa
set_option linter.unusedSimpArgs false
set_option linter.unusedVariables false
namespace LFnExactIsPacked

def cvRun (x : S87) : S85 := ⟨x.f0, x.f1⟩
theorem toRunS (l : List S87) (hl : l.length ≤ 1048576) : Ev (fun k => laws_toRunS.f k l) (l.map cvRun) := by
  unfold laws_toRunS.f
  refine K.pos (by omega) (K.pos (by omega) ?_)
  refine K.fill (fun k xs i => laws_toRunS.l0 k l xs i) (l.map cvRun) (by simpa using hl) ?_ ?_ l.length _ 0 (by omega) (by simp) (by simp) (by intro j hj; omega)
  · intro k xs i hi
    simp only [List.length_map] at hi
    simp only [laws_toRunS.l0]
    rw [if_neg hi]
  · intro k xs i y h0 hi hx hy
    simp only [List.length_map] at hi hx
    simp only [laws_toRunS.l0, laws_toRun.f, Option.bind_some]
    rw [if_pos hi, if_pos h0, if_pos (by omega), K.wr (x := i + 1) (by omega) (by omega)]
    have hg : l[i.toNat]? = some (l[i.toNat]'(by omega)) := List.getElem?_eq_getElem (by omega)
    rw [List.getElem?_map, hg, Option.map_some] at hy
    obtain rfl := Option.some.inj hy
    have hr : rd_T87 l i = l[i.toNat]'(by omega) := by
      simp only [rd_T87, List.getD_eq_getElem?_getD, hg, Option.getD_some]
    rw [hr]
    rfl
theorem szRunS (l : List S87) (left : Int) (h0 : 0 ≤ left) (h1 : left ≤ 1048576) (hm : l.length ≤ 9223372036854775807) : laws_szRunS.f l left = some (if (l.length : Int) ≤ left then left - l.length else -1) := by
  unfold laws_szRunS.f
  rw [K.wr (by omega) (by omega)]
  split <;> split <;> first | rfl | omega


theorem eqRunS (l : List S85) (hl : l.length ≤ 67108864) : Ev (fun k => laws_eqRunS.f k l l) true := by
  unfold laws_eqRunS.f
  refine K.pos rfl ?_
  refine K.all (n := l.length) (fun k i => laws_eqRunS.l0 k l l i) ?_ ?_ l.length 0 (by omega) (by omega)
  · intro k i hi
    simp only [laws_eqRunS.l0]
    rw [if_neg hi]
  · intro k i h0 hi
    simp only [laws_eqRunS.l0, laws_eqRun.f, ↓reduceIte, Option.bind_some]
    rw [if_pos hi, if_pos h0, if_pos hi, K.wr (x := i + 1) (by omega) (by omega)]

theorem l1In (a b c : Int) : spec_l1In.f a b c = some (decide (b ≤ a ∧ a ≤ c)) := by
  unfold spec_l1In.f
  split <;> (try split) <;> first | rfl | (congr 1; exact decide_eq_decide.2 (by omega)) | (congr 1; exact (decide_eq_false (by omega)).symm)
theorem InRange (a b c : Int) : impl_InRange.f a b c = some (decide (b ≤ a ∧ a ≤ c)) := by
  unfold impl_InRange.f
  split <;> (try split) <;> first | rfl | (congr 1; exact decide_eq_decide.2 (by omega)) | (congr 1; exact (decide_eq_false (by omega)).symm)

theorem counts_over (l : List S85) (n i : Int) (hn : 100 < n) (h0 : 0 ≤ i) : Ev (fun k => spec_l16Counts.l0 k l n i) false := by
  refine K.succ ?_
  by_cases c : i < (l.length : Int)
  · by_cases c2 : 1 ≤ (rd_T85 l i).f0 ∧ (rd_T85 l i).f0 ≤ 100
    · simp only [spec_l16Counts.l0, l1In, Option.bind_some, decide_eq_true_eq]
      repeat (first | refine K.pos (by first | assumption | exact True.intro | with_reducible rfl | omega) ?_ | refine K.neg (by first | assumption | omega | exact Bool.false_ne_true | exact K.nbne _) ?_)
      exact Ev.now _
    · simp only [spec_l16Counts.l0, l1In, Option.bind_some, decide_eq_true_eq]
      repeat (first | refine K.pos (by first | assumption | exact True.intro | with_reducible rfl | omega) ?_ | refine K.neg (by first | assumption | omega | exact Bool.false_ne_true | exact K.nbne _) ?_)
      exact Ev.now _
  · have hd : decide (n ≤ 100) = false := decide_eq_false (by omega)
    simp only [spec_l16Counts.l0, hd]
    repeat (first | refine K.pos (by first | assumption | exact True.intro | with_reducible rfl | omega) ?_ | refine K.neg (by first | assumption | omega | exact Bool.false_ne_true | exact K.nbne _) ?_)
    exact Ev.now _
/-- Are two neighbors from place i on alike? -/
def alike (l : List S85) (i : Int) : Prop := ∃ j : Int, i ≤ j ∧ 1 ≤ j ∧ j < (l.length : Int) ∧ (rd_T85 l (j - 1)).f1 = (rd_T85 l j).f1
/-- The program's loop: false if the counts from i on are wrong or two neighbors are alike, else true. -/
theorem loop (l : List S85) (hl : l.length ≤ 1048576) : ∀ (d : Nat) (n i : Int), 0 ≤ i → (l.length : Int) - i = d → 0 ≤ n → n ≤ 100 →
    ∃ b : Bool, Ev (fun k => spec_l16Counts.l0 k l n i) b ∧ (alike l i → Ev (fun k => impl_IsPacked.l0 k l n l (l.length : Int) i) false) ∧ (¬ alike l i → Ev (fun k => impl_IsPacked.l0 k l n l (l.length : Int) i) b) := by
  intro d
  induction d with
  | zero =>
    intro n i h0 hd hn hn2
    have hdc : decide (n ≤ 100) = true := decide_eq_true hn2
    refine ⟨true, K.succ ?_, fun h => ?_, fun h => K.succ ?_⟩
    · simp only [spec_l16Counts.l0, hdc]
      refine K.neg (by omega) (Ev.now _)
    · obtain ⟨j, h1, h2, h3, _⟩ := h
      omega
    · simp only [impl_IsPacked.l0]
      refine K.neg (by omega) (Ev.now _)
  | succ d ih =>
    intro n i h0 hd hn hn2
    have w1 : wrap64 (i + 1) = i + 1 := K.wr (by omega) (by omega)
    have w2 : wrap64 (100 - n) = 100 - n := K.wr (by omega) (by omega)
    have w4 : wrap64 (i - 1) = i - 1 := K.wr (by omega) (by omega)
    by_cases c : 1 ≤ (rd_T85 l i).f0 ∧ (rd_T85 l i).f0 ≤ 100
    · have w3 : wrap64 (n + (rd_T85 l i).f0) = n + (rd_T85 l i).f0 := K.wr (by omega) (by omega)
      by_cases c2 : (rd_T85 l i).f0 ≤ 100 - n
      · obtain ⟨b, g1, g2, g3⟩ := ih (n + (rd_T85 l i).f0) (i + 1) (by omega) (by omega) (by omega) (by omega)
        have hs : Ev (fun k => spec_l16Counts.l0 k l n i) b := by
          refine K.succ ?_
          simp only [spec_l16Counts.l0, l1In, Option.bind_some, decide_eq_true_eq, w1, w3]
          repeat (first | refine K.pos (by first | assumption | exact True.intro | with_reducible rfl | omega) ?_ | refine K.neg (by first | assumption | omega | exact Bool.false_ne_true | exact K.nbne _) ?_)
          exact g1
        by_cases c3 : 0 < i
        · by_cases c4 : (rd_T85 l i).f1 = (rd_T85 l (i - 1)).f1
          · refine ⟨b, hs, fun _ => K.succ ?_, fun h => absurd ⟨i, by omega, by omega, by omega, c4.symm⟩ h⟩
            simp only [impl_IsPacked.l0, InRange, Option.bind_some, decide_eq_true_eq, w1, w2, w3, w4]
            repeat (first | refine K.pos (by first | assumption | exact True.intro | with_reducible rfl | omega) ?_ | refine K.neg (by first | assumption | omega | exact Bool.false_ne_true | exact K.nbne _) ?_)
            exact Ev.now _
          · have ha : alike l i ↔ alike l (i + 1) := by
              constructor
              · rintro ⟨j, h1, h2, h3, h4⟩
                by_cases e : j = i
                · subst e
                  exact absurd h4.symm c4
                · exact ⟨j, by omega, h2, h3, h4⟩
              · rintro ⟨j, h1, h2, h3, h4⟩
                exact ⟨j, by omega, h2, h3, h4⟩
            refine ⟨b, hs, fun h => K.succ ?_, fun h => K.succ ?_⟩
            · simp only [impl_IsPacked.l0, InRange, Option.bind_some, decide_eq_true_eq, w1, w2, w3, w4]
              repeat (first | refine K.pos (by first | assumption | exact True.intro | with_reducible rfl | omega) ?_ | refine K.neg (by first | assumption | omega | exact Bool.false_ne_true | exact K.nbne _) ?_)
              exact g2 (ha.1 h)
            · simp only [impl_IsPacked.l0, InRange, Option.bind_some, decide_eq_true_eq, w1, w2, w3, w4]
              repeat (first | refine K.pos (by first | assumption | exact True.intro | with_reducible rfl | omega) ?_ | refine K.neg (by first | assumption | omega | exact Bool.false_ne_true | exact K.nbne _) ?_)
              exact g3 (fun h2 => h (ha.2 h2))
        · have ha : alike l i ↔ alike l (i + 1) := by
            constructor
            · rintro ⟨j, h1, h2, h3, h4⟩
              exact ⟨j, by omega, h2, h3, h4⟩
            · rintro ⟨j, h1, h2, h3, h4⟩
              exact ⟨j, by omega, h2, h3, h4⟩
          refine ⟨b, hs, fun h => K.succ ?_, fun h => K.succ ?_⟩
          · simp only [impl_IsPacked.l0, InRange, Option.bind_some, decide_eq_true_eq, w1, w2, w3, w4]
            repeat (first | refine K.pos (by first | assumption | exact True.intro | with_reducible rfl | omega) ?_ | refine K.neg (by first | assumption | omega | exact Bool.false_ne_true | exact K.nbne _) ?_)
            exact g2 (ha.1 h)
          · simp only [impl_IsPacked.l0, InRange, Option.bind_some, decide_eq_true_eq, w1, w2, w3, w4]
            repeat (first | refine K.pos (by first | assumption | exact True.intro | with_reducible rfl | omega) ?_ | refine K.neg (by first | assumption | omega | exact Bool.false_ne_true | exact K.nbne _) ?_)
            exact g3 (fun h2 => h (ha.2 h2))
      · have hi : Ev (fun k => impl_IsPacked.l0 k l n l (l.length : Int) i) false := by
          refine K.succ ?_
          simp only [impl_IsPacked.l0, InRange, Option.bind_some, decide_eq_true_eq, w1, w2, w3, w4]
          repeat (first | refine K.pos (by first | assumption | exact True.intro | with_reducible rfl | omega) ?_ | refine K.neg (by first | assumption | omega | exact Bool.false_ne_true | exact K.nbne _) ?_)
          exact Ev.now _
        refine ⟨false, K.succ ?_, fun _ => hi, fun _ => hi⟩
        simp only [spec_l16Counts.l0, l1In, Option.bind_some, decide_eq_true_eq, w1, w3]
        repeat (first | refine K.pos (by first | assumption | exact True.intro | with_reducible rfl | omega) ?_ | refine K.neg (by first | assumption | omega | exact Bool.false_ne_true | exact K.nbne _) ?_)
        exact counts_over l _ _ (by omega) (by omega)
    · have hi : Ev (fun k => impl_IsPacked.l0 k l n l (l.length : Int) i) false := by
        refine K.succ ?_
        simp only [impl_IsPacked.l0, InRange, Option.bind_some, decide_eq_true_eq, w1, w2, w4]
        repeat (first | refine K.pos (by first | assumption | exact True.intro | with_reducible rfl | omega) ?_ | refine K.neg (by first | assumption | omega | exact Bool.false_ne_true | exact K.nbne _) ?_)
        exact Ev.now _
      refine ⟨false, K.succ ?_, fun _ => hi, fun _ => hi⟩
      simp only [spec_l16Counts.l0, l1In, Option.bind_some, decide_eq_true_eq, w1]
      repeat (first | refine K.pos (by first | assumption | exact True.intro | with_reducible rfl | omega) ?_ | refine K.neg (by first | assumption | omega | exact Bool.false_ne_true | exact K.nbne _) ?_)
      exact Ev.now _
/-- The reference's loop over neighbors, with the counts behind it. -/
theorem sloop (l : List S85) (hl : l.length ≤ 1048576) (b : Bool) (hb : Ev (fun k => spec_l16Counts.f k l) b) : ∀ (d : Nat) (i : Int), 1 ≤ i → (l.length : Int) - i ≤ d →
    (alike l i → Ev (fun k => spec_IsPacked.l0 k l i) false) ∧ (¬ alike l i → Ev (fun k => spec_IsPacked.l0 k l i) b) := by
  intro d
  induction d with
  | zero =>
    intro i h0 hd
    refine ⟨fun h => ?_, fun h => K.succ ?_⟩
    · obtain ⟨j, h1, h2, h3, _⟩ := h
      omega
    · simp only [spec_IsPacked.l0]
      exact K.neg (by omega) (Ev.bind hb (Ev.now _))
  | succ d ih =>
    intro i h0 hd
    by_cases c : i < (l.length : Int)
    · have w1 : wrap64 (i + 1) = i + 1 := K.wr (by omega) (by omega)
      have w4 : wrap64 (i - 1) = i - 1 := K.wr (by omega) (by omega)
      obtain ⟨g1, g2⟩ := ih (i + 1) (by omega) (by omega)
      by_cases c4 : (rd_T85 l (i - 1)).f1 = (rd_T85 l i).f1
      · refine ⟨fun h => K.succ ?_, fun h => absurd ⟨i, by omega, by omega, by omega, c4⟩ h⟩
        simp only [spec_IsPacked.l0, w1, w4]
        repeat (first | refine K.pos (by first | assumption | exact True.intro | with_reducible rfl | omega) ?_ | refine K.neg (by first | assumption | omega | exact Bool.false_ne_true | exact K.nbne _) ?_)
        exact Ev.now _
      · have ha : alike l i ↔ alike l (i + 1) := by
          constructor
          · rintro ⟨j, h1, h2, h3, h4⟩
            by_cases e : j = i
            · subst e
              exact absurd h4 c4
            · exact ⟨j, by omega, h2, h3, h4⟩
          · rintro ⟨j, h1, h2, h3, h4⟩
            exact ⟨j, by omega, h2, h3, h4⟩
        refine ⟨fun h => K.succ ?_, fun h => K.succ ?_⟩
        · simp only [spec_IsPacked.l0, w1, w4]
          repeat (first | refine K.pos (by first | assumption | exact True.intro | with_reducible rfl | omega) ?_ | refine K.neg (by first | assumption | omega | exact Bool.false_ne_true | exact K.nbne _) ?_)
          exact g1 (ha.1 h)
        · simp only [spec_IsPacked.l0, w1, w4]
          repeat (first | refine K.pos (by first | assumption | exact True.intro | with_reducible rfl | omega) ?_ | refine K.neg (by first | assumption | omega | exact Bool.false_ne_true | exact K.nbne _) ?_)
          exact g2 (fun h2 => h (ha.2 h2))
    · refine ⟨fun h => ?_, fun h => K.succ ?_⟩
      · obtain ⟨j, h1, h2, h3, _⟩ := h
        omega
      · simp only [spec_IsPacked.l0]
        exact K.neg (by omega) (Ev.bind hb (Ev.now _))
theorem both (l : List S85) (hl : l.length ≤ 1048576) : ∃ v, Ev (fun k => spec_IsPacked.f k l) v ∧ Ev (fun k => impl_IsPacked.f k l) v := by
  obtain ⟨b, g1, g2, g3⟩ := loop l hl l.length 0 0 (by omega) (by omega) (by omega) (by omega)
  obtain ⟨s1, s2⟩ := sloop l hl b g1 l.length 1 (by omega) (by omega)
  have ha : alike l 0 ↔ alike l 1 := by
    constructor
    · rintro ⟨j, h1, h2, h3, h4⟩
      exact ⟨j, by omega, h2, h3, h4⟩
    · rintro ⟨j, h1, h2, h3, h4⟩
      exact ⟨j, by omega, h2, h3, h4⟩
  by_cases h : alike l 0
  · exact ⟨false, s1 (ha.1 h), g2 h⟩
  · exact ⟨b, s2 (fun h2 => h (ha.2 h2)), g3 h⟩
end LFnExactIsPacked
theorem FnExactIsPacked (a : List S87) (ha : a.length ≤ 9223372036854775807) : ∃ k, laws_FnExactIsPacked.f k a = some true := by
  refine Ev.rounds (g := fun k => laws_FnExactIsPacked.f k a) ?_
  unfold laws_FnExactIsPacked.f
  refine K.known (LFnExactIsPacked.szRunS a 1048576 (by omega) (by omega) ha) ?_
  by_cases c : (a.length : Int) ≤ 1048576
  · rw [if_pos c]
    obtain ⟨v, h1, h2⟩ := LFnExactIsPacked.both (a.map LFnExactIsPacked.cvRun) (by simp; omega)
    repeat (first | exact Ev.now _ | refine K.pos (by first | exact True.intro | with_reducible rfl | omega) ?_ | refine K.neg (by first | omega | exact Bool.false_ne_true | exact K.nbne _) ?_ | refine Ev.bind (LFnExactIsPacked.toRunS a (by omega)) ?_ | refine Ev.bind (h1) ?_ | refine Ev.bind (h2) ?_ | refine Ev.bind (LFnExactIsPacked.eqRunS (a.map LFnExactIsPacked.cvRun) (by simp; omega)) ?_)
  · rw [if_neg c]
    exact K.pos (by omega) (Ev.now _)

end Go.Proofs.Ytcmjdiceljbboaa.Pure
