/- Whether a list of contacts is a plan is told alike by the program and the reference, for every list of at most 2^20 contacts and any number of nodes. -/
import Derived.Test.YtlljhblilicnfaaPFnExactIsPlanx
import Derived.Test.YtlljhblilicnfaaKKit
namespace Go.Proofs.Ytlljhblilicnfaa.Pure
open Go.RowKit Go.Proofs.Ytlljhblilicnfaa.PFnExactIsPlan Go.Proofs.YtlljhblilicnfaaW.PrintWords Go.Proofs.YtlljhblilicnfaaW.PrintLast Go.Proofs.YtlljhblilicnfaaW.PrintMore Go.Proofs.Ytlljhblilicnfaa
set_option linter.unusedSimpArgs false
set_option linter.unusedVariables false
namespace LFnExactIsPlan

def cvContact (x : S99) : S96 := ⟨x.f0, x.f1, x.f2, x.f3⟩
theorem toContactS (l : List S99) (hl : l.length ≤ 1048576) : Ev (fun k => laws_toContactS.f k l) (l.map cvContact) := by
  unfold laws_toContactS.f
  refine K.pos (by omega) (K.pos (by omega) ?_)
  refine K.fill (fun k xs i => laws_toContactS.l0 k l xs i) (l.map cvContact) (by simpa using hl) ?_ ?_ l.length _ 0 (by omega) (by simp) (by simp) (by intro j hj; omega)
  · intro k xs i hi
    simp only [List.length_map] at hi
    simp only [laws_toContactS.l0]
    rw [if_neg hi]
  · intro k xs i y h0 hi hx hy
    simp only [List.length_map] at hi hx
    simp only [laws_toContactS.l0, laws_toContact.f, Option.bind_some]
    rw [if_pos hi, if_pos h0, if_pos (by omega), K.wr (x := i + 1) (by omega) (by omega)]
    have hg : l[i.toNat]? = some (l[i.toNat]'(by omega)) := List.getElem?_eq_getElem (by omega)
    rw [List.getElem?_map, hg, Option.map_some] at hy
    obtain rfl := Option.some.inj hy
    have hr : rd_T99 l i = l[i.toNat]'(by omega) := by
      simp only [rd_T99, List.getD_eq_getElem?_getD, hg, Option.getD_some]
    rw [hr]
    rfl
theorem szContactS (l : List S99) (left : Int) (h0 : 0 ≤ left) (h1 : left ≤ 1048576) (hm : l.length ≤ 9223372036854775807) : laws_szContactS.f l left = some (if (l.length : Int) ≤ left then left - l.length else -1) := by
  unfold laws_szContactS.f
  rw [K.wr (by omega) (by omega)]
  split <;> split <;> first | rfl | omega


theorem eqContactS (l : List S96) (hl : l.length ≤ 67108864) : Ev (fun k => laws_eqContactS.f k l l) true := by
  unfold laws_eqContactS.f
  refine K.pos rfl ?_
  refine K.all (n := l.length) (fun k i => laws_eqContactS.l0 k l l i) ?_ ?_ l.length 0 (by omega) (by omega)
  · intro k i hi
    simp only [laws_eqContactS.l0]
    rw [if_neg hi]
  · intro k i h0 hi
    simp only [laws_eqContactS.l0, laws_eqContact.f, ↓reduceIte, Option.bind_some]
    rw [if_pos hi, if_pos h0, if_pos hi, K.wr (x := i + 1) (by omega) (by omega)]

theorem sIsSpan (a b : Int) : spec_IsSpan.f a b = some (decide (0 ≤ a ∧ b ≤ 1000 ∧ a < b)) := by
  unfold spec_IsSpan.f
  split <;> (try split) <;> first | rfl | (congr 1; exact decide_eq_decide.2 (by omega)) | (congr 1; exact (decide_eq_false (by omega)).symm)
theorem iIsSpan (a b : Int) : impl_IsSpan.f a b = some (decide (0 ≤ a ∧ b ≤ 1000 ∧ a < b)) := by
  unfold impl_IsSpan.f
  split <;> (try split) <;> first | rfl | (congr 1; exact decide_eq_decide.2 (by omega)) | (congr 1; exact (decide_eq_false (by omega)).symm)

def isC (x : S96) (n : Int) : Bool := decide (0 ≤ x.f0 ∧ x.f0 < x.f1 ∧ x.f1 < n ∧ 0 ≤ x.f2 ∧ x.f3 ≤ 1000 ∧ x.f2 < x.f3)
theorem sIsC (x : S96) (n : Int) : spec_IsContact.f x.f0 x.f1 x.f2 x.f3 n = some (isC x n) := by
  unfold spec_IsContact.f isC
  simp only [sIsSpan, Option.bind_some]
  split <;> (try split) <;> (try split) <;> first | rfl | (congr 1; exact decide_eq_decide.2 (by omega)) | (congr 1; exact (decide_eq_false (by omega)).symm)
theorem iIsC (x : S96) (n : Int) : impl_IsContact.f x.f0 x.f1 x.f2 x.f3 n = some (isC x n) := by
  unfold impl_IsContact.f isC impl_spanOf.f
  simp only [iIsSpan, Option.bind_some]
  split <;> (try split) <;> (try split) <;> first | rfl | (congr 1; exact decide_eq_decide.2 (by omega)) | (congr 1; exact (decide_eq_false (by omega)).symm)
def cmp (a b : Int) : Int := if a < b then -1 else if b < a then 1 else 0
theorem compare (a b : Int) : cmp_Compare_int.f a b = some (cmp a b) := by
  unfold cmp_Compare_int.f cmp_isNaN_int.f cmp
  have h : ∀ x : Int, (x != x) = false := fun x => by simp
  simp only [h, Option.bind_some]
  rw [if_neg Bool.false_ne_true, if_neg Bool.false_ne_true]
  split
  · rfl
  · split <;> rfl
theorem or2 (a b : Int) : Ev (fun k => cmp_Or_int.f k [a, b]) (if a = 0 then b else a) := by
  unfold cmp_Or_int.f
  have e0 : rd [a, b] 0 = a := rfl
  have e1 : rd [a, b] 1 = b := rfl
  refine K.succ ?_
  simp only [cmp_Or_int.l0]
  refine K.pos (by simp) (K.pos (by omega) (K.pos (by simp) ?_))
  rw [e0]
  by_cases c : a = 0
  · rw [if_pos c]
    refine K.pos c (K.succ ?_)
    have w : wrap64 (0 + 1) = 1 := by unfold wrap64; omega
    simp only [cmp_Or_int.l0, w]
    refine K.pos (by simp) (K.pos (by omega) (K.pos (by simp) ?_))
    rw [e1]
    by_cases c2 : b = 0
    · refine K.pos c2 (K.succ ?_)
      have w2 : wrap64 (1 + 1) = 2 := by unfold wrap64; omega
      simp only [cmp_Or_int.l0, w2]
      rw [c2]
      exact K.neg (by simp) (Ev.now _)
    · exact K.neg c2 (Ev.now _)
  · rw [if_neg c]
    exact K.neg c (Ev.now _)
theorem plan (l : List S96) (hl : l.length ≤ 1048576) (n : Int) : ∀ (d : Nat) (i : Int), 0 ≤ i → (l.length : Int) - i = d →
    ∃ v, Ev (fun k => spec_IsPlan.l0 k l n i) v ∧ Ev (fun k => impl_IsPlan.l0 k l n l (l.length : Int) i) v := by
  intro d
  induction d with
  | zero =>
    intro i h0 hd
    refine ⟨true, K.succ ?_, K.succ ?_⟩
    · simp only [spec_IsPlan.l0]
      repeat (first | refine K.pos (by first | assumption | exact True.intro | with_reducible rfl | omega) ?_ | refine K.neg (by first | assumption | omega | exact Bool.false_ne_true | exact K.nbne _) ?_)
      exact Ev.now _
    · simp only [impl_IsPlan.l0]
      repeat (first | refine K.pos (by first | assumption | exact True.intro | with_reducible rfl | omega) ?_ | refine K.neg (by first | assumption | omega | exact Bool.false_ne_true | exact K.nbne _) ?_)
      exact Ev.now _
  | succ d ih =>
    intro i h0 hd
    have w1 : wrap64 (i + 1) = i + 1 := K.wr (by omega) (by omega)
    have w2 : wrap64 (i - 1) = i - 1 := K.wr (by omega) (by omega)
    cases hc : isC (rd_T96 l i) n with
    | false =>
      refine ⟨false, K.succ ?_, K.succ ?_⟩
      · simp only [spec_IsPlan.l0, sIsC, hc, Option.bind_some]
        repeat (first | refine K.pos (by first | assumption | exact True.intro | with_reducible rfl | omega) ?_ | refine K.neg (by first | assumption | omega | exact Bool.false_ne_true | exact K.nbne _) ?_)
        exact Ev.now _
      · simp only [impl_IsPlan.l0, iIsC, hc, Option.bind_some]
        repeat (first | refine K.pos (by first | assumption | exact True.intro | with_reducible rfl | omega) ?_ | refine K.neg (by first | assumption | omega | exact Bool.false_ne_true | exact K.nbne _) ?_)
        exact Ev.now _
    | true =>
      obtain ⟨v, h1, h2⟩ := ih (i + 1) (by omega) (by omega)
      by_cases c : i = 0
      · refine ⟨v, K.succ ?_, K.succ ?_⟩
        · simp only [spec_IsPlan.l0, sIsC, hc, Option.bind_some, w1]
          repeat (first | refine K.pos (by first | assumption | exact True.intro | with_reducible rfl | omega) ?_ | refine K.neg (by first | assumption | omega | exact Bool.false_ne_true | exact K.nbne _) ?_)
          exact h1
        · simp only [impl_IsPlan.l0, iIsC, hc, Option.bind_some, w1]
          repeat (first | refine K.pos (by first | assumption | exact True.intro | with_reducible rfl | omega) ?_ | refine K.neg (by first | assumption | omega | exact Bool.false_ne_true | exact K.nbne _) ?_)
          exact h2
      · -- the two contacts
        generalize hx : rd_T96 l (i - 1) = x
        generalize hy : rd_T96 l i = y at hc
        have key : ∃ b : Bool, spec_l11Before.f x.f0 x.f1 x.f2 x.f3 y.f0 y.f1 y.f2 y.f3 = some b ∧ Ev (fun k => cmp_Or_int.f k [cmp x.f0 y.f0, cmp x.f1 y.f1]) (if cmp x.f0 y.f0 = 0 then cmp x.f1 y.f1 else cmp x.f0 y.f0) ∧
            (b = true ↔ ((if cmp x.f0 y.f0 = 0 then cmp x.f1 y.f1 else cmp x.f0 y.f0) < 0 ∨ (if cmp x.f0 y.f0 = 0 then cmp x.f1 y.f1 else cmp x.f0 y.f0) = 0 ∧ ¬ x.f3 ≥ y.f2)) := by
          unfold spec_l11Before.f
          by_cases e0 : x.f0 = y.f0
          · have z0 : cmp x.f0 y.f0 = 0 := by unfold cmp; rw [if_neg (by omega), if_neg (by omega)]
            rw [if_pos e0]
            by_cases e1 : x.f1 = y.f1
            · have z1 : cmp x.f1 y.f1 = 0 := by unfold cmp; rw [if_neg (by omega), if_neg (by omega)]
              rw [if_pos e1]
              refine ⟨_, rfl, or2 _ _, ?_⟩
              rw [if_pos z0, z1]
              simp
            · rw [if_neg e1]
              refine ⟨_, rfl, or2 _ _, ?_⟩
              rw [if_pos z0]
              unfold cmp
              rw [decide_eq_true_eq]
              split
              · omega
              · split <;> omega
          · have z0 : cmp x.f0 y.f0 ≠ 0 := by
              unfold cmp
              split
              · omega
              · split <;> omega
            rw [if_neg e0]
            refine ⟨_, rfl, or2 _ _, ?_⟩
            rw [if_neg z0]
            unfold cmp
            rw [decide_eq_true_eq]
            split
            · omega
            · split <;> omega
        obtain ⟨b, k1, k2, k3⟩ := key
        generalize (if cmp x.f0 y.f0 = 0 then cmp x.f1 y.f1 else cmp x.f0 y.f0) = o at k2 k3
        cases b with
        | true =>
          have k4 := k3.1 rfl
          refine ⟨v, K.succ ?_, K.succ ?_⟩
          · simp only [spec_IsPlan.l0, hy, sIsC, hc, Option.bind_some, w1, w2, hx, k1]
            repeat (first | refine K.pos (by first | assumption | exact True.intro | with_reducible rfl | omega) ?_ | refine K.neg (by first | assumption | omega | exact Bool.false_ne_true | exact K.nbne _) ?_)
            exact h1
          · simp only [impl_IsPlan.l0, hy, iIsC, hc, Option.bind_some, w1, w2, hx, compare]
            refine K.pos (by omega) (K.pos (by omega) (K.pos (by omega) (K.pos (by trivial) (K.neg c (K.pos (by omega) (K.pos (by omega) (Ev.bind k2 (K.neg (by omega) ?_))))))))
            rcases k4 with k4 | k4
            · exact K.neg (by omega) h2
            · exact K.pos k4.1 (K.neg k4.2 h2)
        | false =>
          have k4 : ¬ (o < 0 ∨ o = 0 ∧ ¬ x.f3 ≥ y.f2) := fun h => Bool.false_ne_true (k3.2 h)
          refine ⟨false, K.succ ?_, K.succ ?_⟩
          · simp only [spec_IsPlan.l0, hy, sIsC, hc, Option.bind_some, w1, w2, hx, k1]
            repeat (first | refine K.pos (by first | assumption | exact True.intro | with_reducible rfl | omega) ?_ | refine K.neg (by first | assumption | omega | exact Bool.false_ne_true | exact K.nbne _) ?_)
            exact Ev.now _
          · simp only [impl_IsPlan.l0, hy, iIsC, hc, Option.bind_some, w1, w2, hx, compare]
            refine K.pos (by omega) (K.pos (by omega) (K.pos (by omega) (K.pos (by trivial) (K.neg c (K.pos (by omega) (K.pos (by omega) (Ev.bind k2 ?_)))))))
            by_cases c2 : o > 0
            · exact K.pos c2 (Ev.now _)
            · exact K.neg c2 (K.pos (by omega) (K.pos (by omega) (Ev.now _)))
end LFnExactIsPlan
theorem FnExactIsPlan (a : List S99) (n : Int) (ha : a.length ≤ 9223372036854775807) : ∃ k, laws_FnExactIsPlan.f k a n = some true := by
  refine Ev.rounds (g := fun k => laws_FnExactIsPlan.f k a n) ?_
  unfold laws_FnExactIsPlan.f
  refine K.known (LFnExactIsPlan.szContactS a 1048576 (by omega) (by omega) ha) ?_
  by_cases c : (a.length : Int) ≤ 1048576
  · rw [if_pos c]
    obtain ⟨v, h1, h2⟩ := LFnExactIsPlan.plan (a.map LFnExactIsPlan.cvContact) (by simp; omega) n (a.map LFnExactIsPlan.cvContact).length 0 (by omega) (by omega)
    have e1 : Ev (fun k => spec_IsPlan.f k (a.map LFnExactIsPlan.cvContact) n) v := h1
    have e2 : Ev (fun k => impl_IsPlan.f k (a.map LFnExactIsPlan.cvContact) n) v := h2
    repeat (first | exact Ev.now _ | refine K.pos (by first | exact True.intro | with_reducible rfl | omega) ?_ | refine K.neg (by first | omega | exact Bool.false_ne_true | exact K.nbne _) ?_ | refine Ev.bind (LFnExactIsPlan.toContactS a (by omega)) ?_ | refine Ev.bind (e1) ?_ | refine Ev.bind (e2) ?_ | refine Ev.bind (LFnExactIsPlan.eqContactS (a.map LFnExactIsPlan.cvContact) (by simp; omega)) ?_)
  · rw [if_neg c]
    exact K.pos (by omega) (Ev.now _)

end Go.Proofs.Ytlljhblilicnfaa.Pure
