/- Plain lemmas on functions with a bound on rounds: a fill, a test of all elements, marks laid and found again. They hold of every such function; no condition but the ones stated. -/
import Derived.Test.YtopbkdcicidajaaWWords
import Derived.Test.YtopbkdcicidajaaWMore
namespace Go.Proofs.Ytopbkdcicidajaa.K
open Go.RowKit Go.Proofs.YtopbkdcicidajaaW.PrintWords Go.Proofs.YtopbkdcicidajaaW.PrintMore

theorem succ {α : Type} {g : Nat → Option α} {r : α} (h : Ev (fun k => g (k + 1)) r) : Ev g r := Ev.step (fun _ => rfl) h
theorem rounds {α : Type} {g : Nat → Option α} {r : α} (h : Ev g r) : ∃ k, g k = some r := by
  obtain ⟨K, h⟩ := h
  exact ⟨K, h K (Nat.le_refl _)⟩
theorem pos {α : Type} {c : Prop} [Decidable c] {g f : Nat → Option α} {r : α} (hc : c) (h : Ev g r) : Ev (fun k => if c then g k else f k) r := by
  simpa only [if_pos hc] using h
theorem neg {α : Type} {c : Prop} [Decidable c] {g f : Nat → Option α} {r : α} (hc : ¬ c) (h : Ev f r) : Ev (fun k => if c then g k else f k) r := by
  simpa only [if_neg hc] using h
theorem known {α β : Type} {o : Option β} {f : Nat → β → Option α} {b : β} {r : α} (ho : o = some b) (h : Ev (fun k => f k b) r) : Ev (fun k => o.bind (f k)) r := by
  subst ho
  exact h
theorem nbne {α : Type} [BEq α] [ReflBEq α] (v : α) : ¬ (v != v) = true := by simp [bne]
theorem wr {x : Int} (h0 : -9223372036854775808 ≤ x) (h1 : x ≤ 9223372036854775807) : wrap64 x = x := by
  unfold wrap64
  omega
theorem wf64 {n : Int} (h : (Lit.int .i64 n).wf = true) : -9223372036854775808 ≤ n ∧ n ≤ 9223372036854775807 := by
  simp only [Lit.wf, Bool.and_eq_true, decide_eq_true_eq] at h
  exact h

/-- A row is filled, element by element. -/
theorem fill {β : Type} (L : Nat → List β → Int → Option (List β)) (ys : List β) (hb : ys.length ≤ 1048576)
    (stop : ∀ k xs (i : Int), ¬ i < (ys.length : Int) → L (k + 1) xs i = some xs)
    (step : ∀ k xs (i : Int) y, 0 ≤ i → i < (ys.length : Int) → xs.length = ys.length → ys[i.toNat]? = some y → L (k + 1) xs i = L k (xs.set i.toNat y) (i + 1)) :
    ∀ (d : Nat) (xs : List β) (i : Int), 0 ≤ i → (ys.length : Int) - i = d → xs.length = ys.length → (∀ j : Nat, (j : Int) < i → xs[j]? = ys[j]?) → Ev (fun k => L k xs i) ys := by
  intro d
  induction d with
  | zero =>
    intro xs i h0 hd hx he
    refine succ ?_
    simp only [stop _ xs i (by omega)]
    have : xs = ys := List.ext_getElem? (fun j => by
      by_cases hj : j < ys.length
      · exact he j (by omega)
      · rw [List.getElem?_eq_none (by omega), List.getElem?_eq_none (by omega)])
    rw [this]
    exact Ev.now _
  | succ d ih =>
    intro xs i h0 hd hx he
    refine succ ?_
    have hy : ys[i.toNat]? = some (ys[i.toNat]'(by omega)) := List.getElem?_eq_getElem (by omega)
    simp only [step _ xs i _ h0 (by omega) hx hy]
    refine ih _ _ (by omega) (by omega) (by simp [hx]) (fun j hj => ?_)
    by_cases hji : j = i.toNat
    · subst hji
      rw [List.getElem?_set_self (by omega), hy]
    · rw [List.getElem?_set_ne (by omega)]
      exact he j (by omega)

/-- A test of all elements that holds at each. -/
theorem all {n : Nat} (L : Nat → Int → Option Bool) (stop : ∀ k (i : Int), ¬ i < (n : Int) → L (k + 1) i = some true)
    (step : ∀ k (i : Int), 0 ≤ i → i < (n : Int) → L (k + 1) i = L k (i + 1)) : ∀ (d : Nat) (i : Int), 0 ≤ i → (n : Int) - i = d → Ev (fun k => L k i) true := by
  intro d
  induction d with
  | zero =>
    intro i h0 hd
    refine succ ?_
    simp only [stop _ i (by omega)]
    exact Ev.now _
  | succ d ih =>
    intro i h0 hd
    refine succ ?_
    simp only [step _ i h0 (by omega)]
    exact ih _ (by omega) (by omega)

/-- Marks are laid into a row, and found there again. -/
theorem marks {β : Type} (M : Nat → List β → Int → Int → Option (Int × List β)) (H : Nat → List β → Int → Int → Option Int) (n : Nat) (b : Int) (mk : Int → β → β) (hb0 : 0 ≤ b) (hb1 : b ≤ 16) (hn : n ≤ 67108864)
    (Mstop : ∀ k xs c (i : Int), ¬ i < (n : Int) → xs.length = n → M (k + 1) xs c i = some (c, xs))
    (Mstep : ∀ k xs c (i : Int) x, 0 ≤ i → i < (n : Int) → xs.length = n → 0 ≤ c → c ≤ 1099511627776 * 4 → xs[i.toNat]? = some x → M (k + 1) xs c i = M k (xs.set i.toNat (mk c x)) (c + b) (i + 1))
    (Hstop : ∀ k xs c (i : Int), ¬ i < (n : Int) → xs.length = n → H (k + 1) xs c i = some c)
    (Hstep : ∀ k xs c (i : Int) x, 0 ≤ i → i < (n : Int) → xs.length = n → 0 ≤ c → c ≤ 1099511627776 * 4 → xs[i.toNat]? = some (mk c x) → H (k + 1) xs c i = H k xs (c + b) (i + 1)) :
    ∀ (d : Nat) (xs : List β) (c i : Int), 0 ≤ i → (n : Int) - i = d → xs.length = n → 0 ≤ c → c + 16 * d ≤ 1099511627776 * 4 →
      ∃ m ys, c ≤ m ∧ m ≤ c + 16 * d ∧ ys.length = n ∧ (∀ j : Nat, (j : Int) < i → ys[j]? = xs[j]?) ∧ Ev (fun k => M k xs c i) (m, ys) ∧ Ev (fun k => H k ys c i) m := by
  intro d
  induction d with
  | zero =>
    intro xs c i h0 hd hx hc0 hc1
    refine ⟨c, xs, Int.le_refl _, by omega, hx, fun _ _ => rfl, succ ?_, succ ?_⟩
    · simp only [Mstop _ xs c i (by omega) hx]
      exact Ev.now _
    · simp only [Hstop _ xs c i (by omega) hx]
      exact Ev.now _
  | succ d ih =>
    intro xs c i h0 hd hx hc0 hc1
    have hxi : xs[i.toNat]? = some (xs[i.toNat]'(by omega)) := List.getElem?_eq_getElem (by omega)
    obtain ⟨m, ys, hm0, hm1, hyl, hye, hM, hH⟩ := ih (xs.set i.toNat (mk c (xs[i.toNat]'(by omega)))) (c + b) (i + 1) (by omega) (by omega) (by simp [hx]) (by omega) (by omega)
    refine ⟨m, ys, by omega, by omega, hyl, fun j hj => ?_, succ ?_, succ ?_⟩
    · rw [hye j (by omega), List.getElem?_set_ne (by omega)]
    · simp only [Mstep _ xs c i _ h0 (by omega) hx hc0 (by omega) hxi]
      exact hM
    · have hyi := hye i.toNat (by omega)
      rw [List.getElem?_set_self (by omega)] at hyi
      simp only [Hstep _ ys c i _ h0 (by omega) hyl hc0 (by omega) hyi]
      exact hH

/-- A test of all elements, with more behind it. -/
theorem alls {n : Nat} (L : Nat → Int → Option Bool) (g : Nat → Option Bool) (ok : Int → Prop) (stop : ∀ k (i : Int), ¬ i < (n : Int) → L (k + 1) i = g k)
    (yes : ∀ k (i : Int), 0 ≤ i → i < (n : Int) → ok i → L (k + 1) i = L k (i + 1)) (no : ∀ k (i : Int), 0 ≤ i → i < (n : Int) → ¬ ok i → L (k + 1) i = some false) :
    ∀ (d : Nat) (i : Int), 0 ≤ i → (n : Int) - i = d → ((∀ j : Int, i ≤ j → j < (n : Int) → ok j) → ∀ v, Ev g v → Ev (fun k => L k i) v) ∧ ((¬ ∀ j : Int, i ≤ j → j < (n : Int) → ok j) → Ev (fun k => L k i) false) := by
  intro d
  induction d with
  | zero =>
    intro i h0 hd
    refine ⟨fun _ v hv => succ ?_, fun h => absurd (fun j h1 h2 => by omega) h⟩
    simp only [stop _ i (by omega)]
    exact hv
  | succ d ih =>
    intro i h0 hd
    obtain ⟨h1, h2⟩ := ih (i + 1) (by omega) (by omega)
    by_cases c : ok i
    · refine ⟨fun h v hv => succ ?_, fun h => succ ?_⟩
      · simp only [yes _ i h0 (by omega) c]
        exact h1 (fun j g1 g2 => h j (by omega) g2) v hv
      · simp only [yes _ i h0 (by omega) c]
        refine h2 (fun h3 => h (fun j g1 g2 => ?_))
        by_cases e : j = i
        · rw [e]
          exact c
        · exact h3 j (by omega) g2
    · refine ⟨fun h => absurd (h i (Int.le_refl _) (by omega)) c, fun _ => succ ?_⟩
      simp only [no _ i h0 (by omega) c]
      exact Ev.now _

/-- A search, with more behind it. -/
theorem anys {n : Nat} (L : Nat → Int → Option Bool) (g : Nat → Option Bool) (ok : Int → Prop) (stop : ∀ k (i : Int), ¬ i < (n : Int) → L (k + 1) i = g k)
    (yes : ∀ k (i : Int), 0 ≤ i → i < (n : Int) → ok i → L (k + 1) i = some true) (no : ∀ k (i : Int), 0 ≤ i → i < (n : Int) → ¬ ok i → L (k + 1) i = L k (i + 1)) :
    ∀ (d : Nat) (i : Int), 0 ≤ i → (n : Int) - i = d → ((∃ j : Int, i ≤ j ∧ j < (n : Int) ∧ ok j) → Ev (fun k => L k i) true) ∧ ((¬ ∃ j : Int, i ≤ j ∧ j < (n : Int) ∧ ok j) → ∀ v, Ev g v → Ev (fun k => L k i) v) := by
  intro d
  induction d with
  | zero =>
    intro i h0 hd
    refine ⟨fun ⟨j, h1, h2, _⟩ => by omega, fun _ v hv => succ ?_⟩
    simp only [stop _ i (by omega)]
    exact hv
  | succ d ih =>
    intro i h0 hd
    obtain ⟨h1, h2⟩ := ih (i + 1) (by omega) (by omega)
    by_cases c : ok i
    · refine ⟨fun _ => succ ?_, fun h => absurd ⟨i, Int.le_refl _, by omega, c⟩ h⟩
      simp only [yes _ i h0 (by omega) c]
      exact Ev.now _
    · refine ⟨fun h => succ ?_, fun h v hv => succ ?_⟩
      · simp only [no _ i h0 (by omega) c]
        obtain ⟨j, g1, g2, g3⟩ := h
        refine h1 ⟨j, ?_, g2, g3⟩
        by_cases e : j = i
        · rw [e] at g3
          exact absurd g3 c
        · omega
      · simp only [no _ i h0 (by omega) c]
        exact h2 (fun ⟨j, g1, g2, g3⟩ => h ⟨j, by omega, g2, g3⟩) v hv

/-- Marks are laid into a row. -/
theorem lay {β : Type} (M : Nat → List β → Int → Int → Option (Int × List β)) (n : Nat) (b : Int) (mk : Int → β → β) (hb0 : 0 ≤ b) (hb1 : b ≤ 16)
    (Mstop : ∀ k xs c (i : Int), ¬ i < (n : Int) → xs.length = n → M (k + 1) xs c i = some (c, xs))
    (Mstep : ∀ k xs c (i : Int) x, 0 ≤ i → i < (n : Int) → xs.length = n → 0 ≤ c → c ≤ 1099511627776 * 4 → xs[i.toNat]? = some x → M (k + 1) xs c i = M k (xs.set i.toNat (mk c x)) (c + b) (i + 1)) :
    ∀ (d : Nat) (xs : List β) (c i : Int), 0 ≤ i → (n : Int) - i = d → xs.length = n → 0 ≤ c → c + 16 * d ≤ 1099511627776 * 4 →
      ∃ m ys, c ≤ m ∧ m ≤ c + 16 * d ∧ ys.length = n ∧ Ev (fun k => M k xs c i) (m, ys) := by
  intro d
  induction d with
  | zero =>
    intro xs c i h0 hd hx hc0 hc1
    refine ⟨c, xs, Int.le_refl _, by omega, hx, succ ?_⟩
    simp only [Mstop _ xs c i (by omega) hx]
    exact Ev.now _
  | succ d ih =>
    intro xs c i h0 hd hx hc0 hc1
    have hxi : xs[i.toNat]? = some (xs[i.toNat]'(by omega)) := List.getElem?_eq_getElem (by omega)
    obtain ⟨m, ys, hm0, hm1, hyl, hM⟩ := ih (xs.set i.toNat (mk c (xs[i.toNat]'(by omega)))) (c + b) (i + 1) (by omega) (by omega) (by simp [hx]) (by omega) (by omega)
    refine ⟨m, ys, by omega, by omega, hyl, succ ?_⟩
    simp only [Mstep _ xs c i _ h0 (by omega) hx hc0 (by omega) hxi]
    exact hM
end Go.Proofs.Ytopbkdcicidajaa.K
