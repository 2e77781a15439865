/- The ticks of all contacts are one number in the program and in the reference, for every list of at most 2^20 contacts. -/
import Derived.Test.YtcmjdiceljbboaaPFnExactContactTicksx
import Derived.Test.YtcmjdiceljbboaaKKit
namespace Go.Proofs.Ytcmjdiceljbboaa.Pure
open Go.RowKit Go.Proofs.Ytcmjdiceljbboaa.PFnExactContactTicks Go.Proofs.YtcmjdiceljbboaaW.PrintWords Go.Proofs.YtcmjdiceljbboaaW.PrintLast Go.Proofs.YtcmjdiceljbboaaW.PrintMore Go.Proofs.Ytcmjdiceljbboaa
namespace LFnExactContactTicks

def cvContact (x : S23) : S25 := ⟨x.f0, x.f1, x.f2, x.f3⟩
theorem toContactS (l : List S23) (hl : l.length ≤ 1048576) : Ev (fun k => laws_toContactS.f k l) (l.map cvContact) := by
  unfold laws_toContactS.f
  refine K.pos (by omega) (K.pos (by omega) ?_)
  refine K.fill (fun k xs i => laws_toContactS.l0 k l xs i) (l.map cvContact) (by simpa using hl) ?_ ?_ l.length _ 0 (by omega) (by simp) (by simp) (by intro j hj; omega)
  · intro k xs i hi
    simp only [List.length_map] at hi
    simp only [laws_toContactS.l0]
    rw [if_neg hi]
  · intro k xs i y h0 hi hx hy
    simp only [List.length_map] at hi hx
    simp only [laws_toContactS.l0, laws_toContact.f, Option.bind_some]
    rw [if_pos hi, if_pos h0, if_pos (by omega), K.wr (x := i + 1) (by omega) (by omega)]
    have hg : l[i.toNat]? = some (l[i.toNat]'(by omega)) := List.getElem?_eq_getElem (by omega)
    rw [List.getElem?_map, hg, Option.map_some] at hy
    obtain rfl := Option.some.inj hy
    have hr : rd_T23 l i = l[i.toNat]'(by omega) := by
      simp only [rd_T23, List.getD_eq_getElem?_getD, hg, Option.getD_some]
    rw [hr]
    rfl
theorem szContactS (l : List S23) (left : Int) (h0 : 0 ≤ left) (h1 : left ≤ 1048576) (hm : l.length ≤ 9223372036854775807) : laws_szContactS.f l left = some (if (l.length : Int) ≤ left then left - l.length else -1) := by
  unfold laws_szContactS.f
  rw [K.wr (by omega) (by omega)]
  split <;> split <;> first | rfl | omega


theorem eqContactS (l : List S25) (hl : l.length ≤ 67108864) : Ev (fun k => laws_eqContactS.f k l l) true := by
  unfold laws_eqContactS.f
  refine K.pos rfl ?_
  refine K.all (n := l.length) (fun k i => laws_eqContactS.l0 k l l i) ?_ ?_ l.length 0 (by omega) (by omega)
  · intro k i hi
    simp only [laws_eqContactS.l0]
    rw [if_neg hi]
  · intro k i h0 hi
    simp only [laws_eqContactS.l0, laws_eqContact.f, ↓reduceIte, Option.bind_some]
    rw [if_pos hi, if_pos h0, if_pos hi, K.wr (x := i + 1) (by omega) (by omega)]

theorem sIsSpan (a b : Int) : spec_IsSpan.f a b = some (decide (0 ≤ a ∧ b ≤ 1000 ∧ a < b)) := by
  unfold spec_IsSpan.f
  split <;> (try split) <;> first | rfl | (congr 1; exact decide_eq_decide.2 (by omega)) | (congr 1; exact (decide_eq_false (by omega)).symm)
theorem iIsSpan (a b : Int) : impl_IsSpan.f a b = some (decide (0 ≤ a ∧ b ≤ 1000 ∧ a < b)) := by
  unfold impl_IsSpan.f
  split <;> (try split) <;> first | rfl | (congr 1; exact decide_eq_decide.2 (by omega)) | (congr 1; exact (decide_eq_false (by omega)).symm)

theorem ticks (l : List S25) (hl : l.length ≤ 1048576) : ∀ (d : Nat) (n i : Int), 0 ≤ i → (l.length : Int) - i = d → 0 ≤ n → n ≤ 1000 * i →
    ∃ v, Ev (fun k => spec_ContactTicks.l0 k l n i) v ∧ Ev (fun k => impl_ContactTicks.l0 k n l (l.length : Int) i) v := by
  intro d
  induction d with
  | zero =>
    intro n i h0 hd hn hi
    refine ⟨n, K.succ ?_, K.succ ?_⟩
    · simp only [spec_ContactTicks.l0]
      repeat (first | refine K.pos (by first | assumption | exact True.intro | with_reducible rfl | omega) ?_ | refine K.neg (by first | assumption | omega | exact Bool.false_ne_true | exact K.nbne _) ?_)
      exact Ev.now _
    · simp only [impl_ContactTicks.l0]
      repeat (first | refine K.pos (by first | assumption | exact True.intro | with_reducible rfl | omega) ?_ | refine K.neg (by first | assumption | omega | exact Bool.false_ne_true | exact K.nbne _) ?_)
      exact Ev.now _
  | succ d ih =>
    intro n i h0 hd hn hi
    have w2 : wrap64 (i + 1) = i + 1 := K.wr (by omega) (by omega)
    by_cases c : 0 ≤ (rd_T25 l i).f2 ∧ (rd_T25 l i).f3 ≤ 1000 ∧ (rd_T25 l i).f2 < (rd_T25 l i).f3
    · have w3 : wrap64 (n + (rd_T25 l i).f3) = n + (rd_T25 l i).f3 := K.wr (by omega) (by omega)
      have w4 : wrap64 (n + (rd_T25 l i).f3 - (rd_T25 l i).f2) = n + ((rd_T25 l i).f3 - (rd_T25 l i).f2) := by
        rw [K.wr (by omega) (by omega)]
        omega
      have w5 : wrap64 ((rd_T25 l i).f3 - (rd_T25 l i).f2) = (rd_T25 l i).f3 - (rd_T25 l i).f2 := K.wr (by omega) (by omega)
      have w6 : wrap64 (n + ((rd_T25 l i).f3 - (rd_T25 l i).f2)) = n + ((rd_T25 l i).f3 - (rd_T25 l i).f2) := K.wr (by omega) (by omega)
      obtain ⟨v, h1, h2⟩ := ih (n + ((rd_T25 l i).f3 - (rd_T25 l i).f2)) (i + 1) (by omega) (by omega) (by omega) (by omega)
      refine ⟨v, K.succ ?_, K.succ ?_⟩
      · simp only [spec_ContactTicks.l0, sIsSpan, Option.bind_some, decide_eq_true_eq, w2, w3, w4]
        repeat (first | refine K.pos (by first | assumption | exact True.intro | with_reducible rfl | omega) ?_ | refine K.neg (by first | assumption | omega | exact Bool.false_ne_true | exact K.nbne _) ?_)
        exact h1
      · simp only [impl_ContactTicks.l0, impl_spanOf.f, iIsSpan, Option.bind_some, decide_eq_true_eq, w2, w5, w6]
        repeat (first | refine K.pos (by first | assumption | exact True.intro | with_reducible rfl | omega) ?_ | refine K.neg (by first | assumption | omega | exact Bool.false_ne_true | exact K.nbne _) ?_)
        exact h2
    · obtain ⟨v, h1, h2⟩ := ih n (i + 1) (by omega) (by omega) (by omega) (by omega)
      refine ⟨v, K.succ ?_, K.succ ?_⟩
      · simp only [spec_ContactTicks.l0, sIsSpan, Option.bind_some, decide_eq_true_eq, w2]
        repeat (first | refine K.pos (by first | assumption | exact True.intro | with_reducible rfl | omega) ?_ | refine K.neg (by first | assumption | omega | exact Bool.false_ne_true | exact K.nbne _) ?_)
        exact h1
      · simp only [impl_ContactTicks.l0, impl_spanOf.f, iIsSpan, Option.bind_some, decide_eq_true_eq, w2]
        repeat (first | refine K.pos (by first | assumption | exact True.intro | with_reducible rfl | omega) ?_ | refine K.neg (by first | assumption | omega | exact Bool.false_ne_true | exact K.nbne _) ?_)
        exact h2
end LFnExactContactTicks
theorem FnExactContactTicks (a : List S23) (ha : a.length ≤ 9223372036854775807) : ∃ k, laws_FnExactContactTicks.f k a = some true := by
  refine Ev.rounds (g := fun k => laws_FnExactContactTicks.f k a) ?_
  unfold laws_FnExactContactTicks.f
  refine K.known (LFnExactContactTicks.szContactS a 1048576 (by omega) (by omega) ha) ?_
  by_cases c : (a.length : Int) ≤ 1048576
  · rw [if_pos c]
    obtain ⟨v, h1, h2⟩ := LFnExactContactTicks.ticks (a.map LFnExactContactTicks.cvContact) (by simp; omega) (a.map LFnExactContactTicks.cvContact).length 0 0 (by omega) (by omega) (by omega) (by omega)
    repeat (first | exact Ev.now _ | refine K.pos (by first | exact True.intro | with_reducible rfl | omega) ?_ | refine K.neg (by first | omega | exact Bool.false_ne_true | exact K.nbne _) ?_ | refine Ev.bind (LFnExactContactTicks.toContactS a (by omega)) ?_ | refine Ev.bind (h1) ?_ | refine Ev.bind (h2) ?_ | refine Ev.bind (LFnExactContactTicks.eqContactS (a.map LFnExactContactTicks.cvContact) (by simp; omega)) ?_)
  · rw [if_neg c]
    exact K.pos (by omega) (Ev.now _)

end Go.Proofs.Ytcmjdiceljbboaa.Pure
