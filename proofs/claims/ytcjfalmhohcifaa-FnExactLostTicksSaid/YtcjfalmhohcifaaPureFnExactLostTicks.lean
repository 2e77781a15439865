/- The lost ticks are one number in the program and in the reference, for every plan and clouds of at most 2^20 parts together. -/
import Derived.Test.YtcjfalmhohcifaaQFnExactLostTicksx
import Derived.Test.YtcjfalmhohcifaaKKit
namespace Go.Proofs.Ytcjfalmhohcifaa.Pure
open Go.RowKit Go.Proofs.Ytcjfalmhohcifaa.PFnExactLostTicks Go.Proofs.YtcjfalmhohcifaaW.PrintWords Go.Proofs.YtcjfalmhohcifaaW.PrintLast Go.Proofs.YtcjfalmhohcifaaW.PrintMore Go.Proofs.Ytcjfalmhohcifaa
set_option linter.unusedSimpArgs false
set_option linter.unusedVariables false
namespace LFnExactLostTicks

def cvContact (x : S85) : S82 := ⟨x.f0, x.f1, x.f2, x.f3⟩
theorem toContactS (l : List S85) (hl : l.length ≤ 1048576) : Ev (fun k => laws_toContactS.f k l) (l.map cvContact) := by
  unfold laws_toContactS.f
  refine K.pos (by omega) (K.pos (by omega) ?_)
  refine K.fill (fun k xs i => laws_toContactS.l0 k l xs i) (l.map cvContact) (by simpa using hl) ?_ ?_ l.length _ 0 (by omega) (by simp) (by simp) (by intro j hj; omega)
  · intro k xs i hi
    simp only [List.length_map] at hi
    simp only [laws_toContactS.l0]
    rw [if_neg hi]
  · intro k xs i y h0 hi hx hy
    simp only [List.length_map] at hi hx
    simp only [laws_toContactS.l0, laws_toContact.f, Option.bind_some]
    rw [if_pos hi, if_pos h0, if_pos (by omega), K.wr (x := i + 1) (by omega) (by omega)]
    have hg : l[i.toNat]? = some (l[i.toNat]'(by omega)) := List.getElem?_eq_getElem (by omega)
    rw [List.getElem?_map, hg, Option.map_some] at hy
    obtain rfl := Option.some.inj hy
    have hr : rd_T85 l i = l[i.toNat]'(by omega) := by
      simp only [rd_T85, List.getD_eq_getElem?_getD, hg, Option.getD_some]
    rw [hr]
    rfl
theorem szContactS (l : List S85) (left : Int) (h0 : 0 ≤ left) (h1 : left ≤ 1048576) (hm : l.length ≤ 9223372036854775807) : laws_szContactS.f l left = some (if (l.length : Int) ≤ left then left - l.length else -1) := by
  unfold laws_szContactS.f
  rw [K.wr (by omega) (by omega)]
  split <;> split <;> first | rfl | omega


theorem eqContactS (l : List S82) (hl : l.length ≤ 67108864) : Ev (fun k => laws_eqContactS.f k l l) true := by
  unfold laws_eqContactS.f
  refine K.pos rfl ?_
  refine K.all (n := l.length) (fun k i => laws_eqContactS.l0 k l l i) ?_ ?_ l.length 0 (by omega) (by omega)
  · intro k i hi
    simp only [laws_eqContactS.l0]
    rw [if_neg hi]
  · intro k i h0 hi
    simp only [laws_eqContactS.l0, laws_eqContact.f, ↓reduceIte, Option.bind_some]
    rw [if_pos hi, if_pos h0, if_pos hi, K.wr (x := i + 1) (by omega) (by omega)]


def cvCloud (x : S89) : S87 := ⟨x.f0, x.f1, x.f2⟩
theorem toCloudS (l : List S89) (hl : l.length ≤ 1048576) : Ev (fun k => laws_toCloudS.f k l) (l.map cvCloud) := by
  unfold laws_toCloudS.f
  refine K.pos (by omega) (K.pos (by omega) ?_)
  refine K.fill (fun k xs i => laws_toCloudS.l0 k l xs i) (l.map cvCloud) (by simpa using hl) ?_ ?_ l.length _ 0 (by omega) (by simp) (by simp) (by intro j hj; omega)
  · intro k xs i hi
    simp only [List.length_map] at hi
    simp only [laws_toCloudS.l0]
    rw [if_neg hi]
  · intro k xs i y h0 hi hx hy
    simp only [List.length_map] at hi hx
    simp only [laws_toCloudS.l0, laws_toCloud.f, Option.bind_some]
    rw [if_pos hi, if_pos h0, if_pos (by omega), K.wr (x := i + 1) (by omega) (by omega)]
    have hg : l[i.toNat]? = some (l[i.toNat]'(by omega)) := List.getElem?_eq_getElem (by omega)
    rw [List.getElem?_map, hg, Option.map_some] at hy
    obtain rfl := Option.some.inj hy
    have hr : rd_T89 l i = l[i.toNat]'(by omega) := by
      simp only [rd_T89, List.getD_eq_getElem?_getD, hg, Option.getD_some]
    rw [hr]
    rfl
theorem szCloudS (l : List S89) (left : Int) (h0 : 0 ≤ left) (h1 : left ≤ 1048576) (hm : l.length ≤ 9223372036854775807) : laws_szCloudS.f l left = some (if (l.length : Int) ≤ left then left - l.length else -1) := by
  unfold laws_szCloudS.f
  rw [K.wr (by omega) (by omega)]
  split <;> split <;> first | rfl | omega


theorem eqCloudS (l : List S87) (hl : l.length ≤ 67108864) : Ev (fun k => laws_eqCloudS.f k l l) true := by
  unfold laws_eqCloudS.f
  refine K.pos rfl ?_
  refine K.all (n := l.length) (fun k i => laws_eqCloudS.l0 k l l i) ?_ ?_ l.length 0 (by omega) (by omega)
  · intro k i hi
    simp only [laws_eqCloudS.l0]
    rw [if_neg hi]
  · intro k i h0 hi
    simp only [laws_eqCloudS.l0, laws_eqCloud.f, ↓reduceIte, Option.bind_some]
    rw [if_pos hi, if_pos h0, if_pos hi, K.wr (x := i + 1) (by omega) (by omega)]

theorem sIsSpan (a b : Int) : spec_IsSpan.f a b = some (decide (0 ≤ a ∧ b ≤ 1000 ∧ a < b)) := by
  unfold spec_IsSpan.f
  split <;> (try split) <;> first | rfl | (congr 1; exact decide_eq_decide.2 (by omega)) | (congr 1; exact (decide_eq_false (by omega)).symm)
theorem iIsSpan (a b : Int) : impl_IsSpan.f a b = some (decide (0 ≤ a ∧ b ≤ 1000 ∧ a < b)) := by
  unfold impl_IsSpan.f
  split <;> (try split) <;> first | rfl | (congr 1; exact decide_eq_decide.2 (by omega)) | (congr 1; exact (decide_eq_false (by omega)).symm)
theorem conTicks (l : List S82) (hl : l.length ≤ 2000000000) : ∀ (d : Nat) (n i : Int), 0 ≤ i → (l.length : Int) - i = d → 0 ≤ n → n ≤ 1000 * i →
    ∃ v, Ev (fun k => spec_ContactTicks.l0 k l n i) v ∧ Ev (fun k => impl_ContactTicks.l0 k n l (l.length : Int) i) v := by
  intro d
  induction d with
  | zero =>
    intro n i h0 hd hn hi
    refine ⟨n, K.succ ?_, K.succ ?_⟩
    · simp only [spec_ContactTicks.l0]
      repeat (first | refine K.pos (by first | assumption | exact True.intro | with_reducible rfl | omega) ?_ | refine K.neg (by first | assumption | omega | exact Bool.false_ne_true | exact K.nbne _) ?_)
      exact Ev.now _
    · simp only [impl_ContactTicks.l0]
      repeat (first | refine K.pos (by first | assumption | exact True.intro | with_reducible rfl | omega) ?_ | refine K.neg (by first | assumption | omega | exact Bool.false_ne_true | exact K.nbne _) ?_)
      exact Ev.now _
  | succ d ih =>
    intro n i h0 hd hn hi
    have w2 : wrap64 (i + 1) = i + 1 := K.wr (by omega) (by omega)
    by_cases c : 0 ≤ (rd_T82 l i).f2 ∧ (rd_T82 l i).f3 ≤ 1000 ∧ (rd_T82 l i).f2 < (rd_T82 l i).f3
    · have w3 : wrap64 (n + (rd_T82 l i).f3) = n + (rd_T82 l i).f3 := K.wr (by omega) (by omega)
      have w4 : wrap64 (n + (rd_T82 l i).f3 - (rd_T82 l i).f2) = n + ((rd_T82 l i).f3 - (rd_T82 l i).f2) := by
        rw [K.wr (by omega) (by omega)]
        omega
      have w5 : wrap64 ((rd_T82 l i).f3 - (rd_T82 l i).f2) = (rd_T82 l i).f3 - (rd_T82 l i).f2 := K.wr (by omega) (by omega)
      have w6 : wrap64 (n + ((rd_T82 l i).f3 - (rd_T82 l i).f2)) = n + ((rd_T82 l i).f3 - (rd_T82 l i).f2) := K.wr (by omega) (by omega)
      obtain ⟨v, h1, h2⟩ := ih (n + ((rd_T82 l i).f3 - (rd_T82 l i).f2)) (i + 1) (by omega) (by omega) (by omega) (by omega)
      refine ⟨v, K.succ ?_, K.succ ?_⟩
      · simp only [spec_ContactTicks.l0, sIsSpan, Option.bind_some, decide_eq_true_eq, w2, w3, w4]
        repeat (first | refine K.pos (by first | assumption | exact True.intro | with_reducible rfl | omega) ?_ | refine K.neg (by first | assumption | omega | exact Bool.false_ne_true | exact K.nbne _) ?_)
        exact h1
      · simp only [impl_ContactTicks.l0, impl_spanOf.f, iIsSpan, Option.bind_some, decide_eq_true_eq, w2, w5, w6]
        repeat (first | refine K.pos (by first | assumption | exact True.intro | with_reducible rfl | omega) ?_ | refine K.neg (by first | assumption | omega | exact Bool.false_ne_true | exact K.nbne _) ?_)
        exact h2
    · obtain ⟨v, h1, h2⟩ := ih n (i + 1) (by omega) (by omega) (by omega) (by omega)
      refine ⟨v, K.succ ?_, K.succ ?_⟩
      · simp only [spec_ContactTicks.l0, sIsSpan, Option.bind_some, decide_eq_true_eq, w2]
        repeat (first | refine K.pos (by first | assumption | exact True.intro | with_reducible rfl | omega) ?_ | refine K.neg (by first | assumption | omega | exact Bool.false_ne_true | exact K.nbne _) ?_)
        exact h1
      · simp only [impl_ContactTicks.l0, impl_spanOf.f, iIsSpan, Option.bind_some, decide_eq_true_eq, w2]
        repeat (first | refine K.pos (by first | assumption | exact True.intro | with_reducible rfl | omega) ?_ | refine K.neg (by first | assumption | omega | exact Bool.false_ne_true | exact K.nbne _) ?_)
        exact h2

def put (o : List S73) (t : Int) : List S73 :=
  if (o.length : Int) > 0 then (if (rd_T73 o ((o.length : Int) - 1)).f1 = t then o.set ((o.length : Int) - 1).toNat ⟨(rd_T73 o ((o.length : Int) - 1)).f0, t + 1⟩ else o ++ [⟨t, t + 1⟩]) else o ++ [⟨t, t + 1⟩]
theorem put_len (o : List S73) (t : Int) : (put o t).length ≤ o.length + 1 := by
  unfold put
  (repeat' split) <;> simp
def run (p : Int → Bool) (o : List S73) (t : Int) : Nat → List S73
  | 0 => o
  | d + 1 => run p (if p t = true then put o t else o) (t + 1) d
theorem run_add (p : Int → Bool) : ∀ (d e : Nat) (o : List S73) (t : Int), run p o t (d + e) = run p (run p o t d) (t + d) e := by
  intro d
  induction d with
  | zero =>
    intro e o t
    simp [run]
  | succ d ih =>
    intro e o t
    rw [show d + 1 + e = (d + e) + 1 by omega]
    simp only [run]
    rw [ih]
    congr 1
    omega
theorem run_none (p : Int → Bool) : ∀ (d : Nat) (o : List S73) (t : Int), (∀ u, t ≤ u → p u = false) → run p o t d = o := by
  intro d
  induction d with
  | zero =>
    intro o t h
    rfl
  | succ d ih =>
    intro o t h
    simp only [run, h t (by omega), Bool.false_eq_true, if_false]
    exact ih o (t + 1) (fun u hu => h u (by omega))
theorem run_len (p : Int → Bool) : ∀ (d : Nat) (o : List S73) (t : Int), (run p o t d).length ≤ o.length + d := by
  intro d
  induction d with
  | zero =>
    intro o t
    simp [run]
  | succ d ih =>
    intro o t
    simp only [run]
    refine Nat.le_trans (ih _ _) ?_
    have := put_len o t
    split <;> omega
theorem run_eq (p q : Int → Bool) : ∀ (d : Nat) (o : List S73) (t : Int), (∀ u, t ≤ u → u < t + d → p u = q u) → run p o t d = run q o t d := by
  intro d
  induction d with
  | zero =>
    intro o t h
    rfl
  | succ d ih =>
    intro o t h
    simp only [run]
    rw [h t (by omega) (by omega)]
    exact ih _ _ (fun u h1 h2 => h u (by omega) (by omega))
theorem sPut (o : List S73) (t : Int) (h0 : 0 ≤ t) (h1 : t ≤ 1000) (ho : o.length ≤ 8000000000000) : spec_l4Put.f o t = some (put o t) := by
  unfold spec_l4Put.f put
  have w0 : wrap64 (t + 1) = t + 1 := K.wr (by omega) (by omega)
  have w1 : wrap64 ((o.length : Int) - 1) = (o.length : Int) - 1 := K.wr (by omega) (by omega)
  rw [w0, w1]
  have c2 : o.length < 8796093022208 := by omega
  rw [if_pos c2]
  by_cases c : (o.length : Int) > 0
  · rw [if_pos c, if_pos c]
    have c0 : 0 ≤ (o.length : Int) - 1 := by omega
    have c1 : (o.length : Int) - 1 < (o.length : Int) := by omega
    rw [if_pos c0, if_pos c1]
    split <;> rfl
  · rw [if_neg c, if_neg c]
def vs (s : S73) : Bool := decide (s.f0 ≥ 0 ∧ s.f1 ≤ 1000 ∧ s.f0 < s.f1)
def ins (s : S73) (t : Int) : Bool := vs s && (decide (s.f0 ≤ t) && decide (t < s.f1))
def inl (l : List S73) (t : Int) : Bool := l.any (fun s => ins s t)
theorem sVs (s : S73) : spec_IsSpan.f s.f0 s.f1 = some (vs s) := by
  unfold spec_IsSpan.f vs
  by_cases c0 : s.f0 ≥ 0
  · rw [if_pos c0]
    by_cases c1 : s.f1 ≤ 1000
    · rw [if_pos c1]
      simp [c0, c1]
    · rw [if_neg c1]
      simp [c1]
  · rw [if_neg c0]
    simp [c0]
theorem iVs (s : S73) : impl_IsSpan.f s.f0 s.f1 = some (vs s) := by
  unfold impl_IsSpan.f vs
  by_cases c0 : s.f0 ≥ 0
  · rw [if_pos c0]
    by_cases c1 : s.f1 ≤ 1000
    · rw [if_pos c1]
      simp [c0, c1]
    · rw [if_neg c1]
      simp [c1]
  · rw [if_neg c0]
    simp [c0]
theorem sIns (s : S73) (t : Int) : spec_InSpan.f s.f0 s.f1 t = some (ins s t) := by
  unfold spec_InSpan.f ins
  rw [sVs, Option.bind_some]
  cases vs s with
  | true =>
    rw [if_pos rfl]
    by_cases c : s.f0 ≤ t
    · rw [if_pos c]
      simp [c]
    · rw [if_neg c]
      simp [c]
  | false => rfl
theorem rdDrop (l : List S73) (i : Int) (h0 : 0 ≤ i) (h1 : i < (l.length : Int)) : l.drop i.toNat = rd_T73 l i :: l.drop (i + 1).toNat := by
  rw [List.drop_eq_getElem_cons (by omega), show (i + 1).toNat = i.toNat + 1 by omega]
  simp [rd_T73, List.getD_eq_getElem?_getD, List.getElem?_eq_getElem (show i.toNat < l.length by omega)]
theorem sInl (l : List S73) (hl : l.length ≤ 2097152) (t : Int) : ∀ (d : Nat) (i : Int), 0 ≤ i → (l.length : Int) - i = d → Ev (fun k => spec_InSpans.l0 k l t i) (inl (l.drop i.toNat) t) := by
  intro d
  induction d with
  | zero =>
    intro i h0 hd
    refine K.succ ?_
    simp only [spec_InSpans.l0]
    rw [List.drop_eq_nil_of_le (by omega)]
    exact K.neg (by omega) (Ev.now _)
  | succ d ih =>
    intro i h0 hd
    refine K.succ ?_
    simp only [spec_InSpans.l0, sIns]
    rw [K.wr (x := i + 1) (by omega) (by omega), rdDrop l i h0 (by omega)]
    refine K.pos (by omega) (K.pos h0 (K.known rfl ?_))
    unfold inl
    rw [List.any_cons]
    cases ins (rd_T73 l i) t with
    | true => exact K.pos rfl (Ev.now _)
    | false => exact K.neg Bool.false_ne_true (ih (i + 1) (by omega) (by omega))
def last (l : List S73) (n : Int) : Int := l.foldl (fun n s => if vs s = true then (if s.f1 > n then s.f1 else n) else n) n
theorem last_le : ∀ (l : List S73) (n : Int), n ≤ last l n ∧ (n ≤ 1000 → last l n ≤ 1000) ∧ ∀ s ∈ l, vs s = true → s.f1 ≤ last l n := by
  intro l
  induction l with
  | nil =>
    intro n
    exact ⟨Int.le_refl _, fun h => h, fun s hs => absurd hs (by simp)⟩
  | cons a l ih =>
    intro n
    have e : last (a :: l) n = last l (if vs a = true then (if a.f1 > n then a.f1 else n) else n) := rfl
    rw [e]
    obtain ⟨h1, h2, h3⟩ := ih (if vs a = true then (if a.f1 > n then a.f1 else n) else n)
    by_cases c : vs a = true
    · rw [if_pos c] at h1 h2 h3 ⊢
      have hv : a.f1 ≤ 1000 := by
        unfold vs at c
        exact (of_decide_eq_true c).2.1
      have hm : n ≤ (if a.f1 > n then a.f1 else n) ∧ a.f1 ≤ (if a.f1 > n then a.f1 else n) ∧ (n ≤ 1000 → (if a.f1 > n then a.f1 else n) ≤ 1000) := by
        split <;> omega
      generalize (if a.f1 > n then a.f1 else n) = m at hm h1 h2 h3 ⊢
      refine ⟨by omega, fun hn => h2 (hm.2.2 hn), ?_⟩
      intro s hs hvs
      rcases List.mem_cons.1 hs with rfl | hs
      · omega
      · exact h3 s hs hvs
    · rw [if_neg c] at h1 h2 h3 ⊢
      refine ⟨h1, h2, ?_⟩
      intro s hs hvs
      rcases List.mem_cons.1 hs with rfl | hs
      · exact absurd hvs c
      · exact h3 s hs hvs
theorem beyond (l : List S73) (u : Int) (h : last l 0 ≤ u) : inl l u = false := by
  unfold inl
  rw [List.any_eq_false]
  intro s hs hc
  unfold ins at hc
  simp only [Bool.and_eq_true, decide_eq_true_eq] at hc
  have := (last_le l 0).2.2 s hs hc.1
  omega
theorem sLast (l : List S73) (hl : l.length ≤ 2097152) : ∀ (d : Nat) (i n : Int), 0 ≤ i → (l.length : Int) - i = d → Ev (fun k => spec_l4Last.l0 k l n i) (last (l.drop i.toNat) n) := by
  intro d
  induction d with
  | zero =>
    intro i n h0 hd
    refine K.succ ?_
    simp only [spec_l4Last.l0]
    rw [List.drop_eq_nil_of_le (by omega)]
    exact K.neg (by omega) (Ev.now _)
  | succ d ih =>
    intro i n h0 hd
    refine K.succ ?_
    simp only [spec_l4Last.l0, sVs]
    rw [K.wr (x := i + 1) (by omega) (by omega), rdDrop l i h0 (by omega)]
    refine K.pos (by omega) (K.pos h0 (K.known rfl ?_))
    have e : ∀ (a : S73) (r : List S73), last (a :: r) n = last r (if vs a = true then (if a.f1 > n then a.f1 else n) else n) := fun _ _ => rfl
    rw [e]
    by_cases c : vs (rd_T73 l i) = true
    · rw [if_pos c]
      refine K.pos c (K.known (b := if (rd_T73 l i).f1 > n then (rd_T73 l i).f1 else n) (by unfold spec_Max.f; split <;> rfl) (ih (i + 1) _ (by omega) (by omega)))
    · rw [if_neg c]
      exact K.neg c (ih (i + 1) _ (by omega) (by omega))
def mark (x : List Bool) (a : Int) : Nat → List Bool
  | 0 => x
  | d + 1 => mark (x.set a.toNat true) (a + 1) d
theorem mark_len : ∀ (d : Nat) (x : List Bool) (a : Int), (mark x a d).length = x.length := by
  intro d
  induction d with
  | zero => intro x a; rfl
  | succ d ih =>
    intro x a
    simp only [mark, ih, List.length_set]
theorem mark_get (t : Int) (h0 : 0 ≤ t) : ∀ (d : Nat) (x : List Bool) (a : Int), 0 ≤ a → t < (x.length : Int) → rdOf false (mark x a d) t = (rdOf false x t || (decide (a ≤ t) && decide (t < a + d))) := by
  intro d
  induction d with
  | zero =>
    intro x a ha ht
    have : ¬ (a ≤ t ∧ t < a + (0 : Nat)) := by omega
    rw [← Bool.decide_and, decide_eq_false this, Bool.or_false]
    rfl
  | succ d ih =>
    intro x a ha ht
    simp only [mark]
    rw [ih _ _ (by omega) (by simp; omega)]
    by_cases c : a = t
    · subst c
      have e : rdOf false (x.set a.toNat true) a = true := by
        simp only [rdOf, List.getD_eq_getElem?_getD]
        rw [List.getElem?_set_self (by omega)]
        rfl
      have e2 : (decide (a ≤ a) && decide (a < a + ((d + 1 : Nat) : Int))) = true := by
        rw [← Bool.decide_and]
        exact decide_eq_true (by omega)
      rw [e, e2, Bool.true_or, Bool.or_true]
    · have e : rdOf false (x.set a.toNat true) t = rdOf false x t := by
        simp only [rdOf, List.getD_eq_getElem?_getD]
        rw [List.getElem?_set_ne (by omega)]
      have e2 : (decide (a + 1 ≤ t) && decide (t < a + 1 + (d : Int))) = (decide (a ≤ t) && decide (t < a + ((d + 1 : Nat) : Int))) := by
        rw [← Bool.decide_and, ← Bool.decide_and]
        exact decide_eq_decide.2 (by omega)
      rw [e, e2]
def tk : List S73 → List Bool → List Bool
  | [], x => x
  | s :: l, x => tk l (if vs s = true then mark x s.f0 (s.f1 - s.f0).toNat else x)
theorem tk_len : ∀ (l : List S73) (x : List Bool), (tk l x).length = x.length := by
  intro l
  induction l with
  | nil => intro x; rfl
  | cons s l ih =>
    intro x
    simp only [tk, ih]
    split
    · exact mark_len _ _ _
    · rfl
theorem tk_get (t : Int) (h0 : 0 ≤ t) : ∀ (l : List S73) (x : List Bool), t < (x.length : Int) → rdOf false (tk l x) t = (rdOf false x t || inl l t) := by
  intro l
  induction l with
  | nil =>
    intro x ht
    simp [tk, inl]
  | cons s l ih =>
    intro x ht
    have e : inl (s :: l) t = (ins s t || inl l t) := rfl
    simp only [tk]
    by_cases c : vs s = true
    · rw [if_pos c, ih _ (by rw [mark_len]; exact ht)]
      have hv : s.f0 ≥ 0 ∧ s.f1 ≤ 1000 ∧ s.f0 < s.f1 := by
        unfold vs at c
        exact of_decide_eq_true c
      rw [mark_get t h0 _ _ _ (by omega) ht, e, Bool.or_assoc]
      have e2 : (decide (s.f0 ≤ t) && decide (t < s.f0 + ((s.f1 - s.f0).toNat : Int))) = ins s t := by
        unfold ins
        rw [c, Bool.true_and, ← Bool.decide_and, ← Bool.decide_and]
        exact decide_eq_decide.2 (by omega)
      rw [e2]
    · rw [if_neg c, ih _ ht, e]
      have e2 : ins s t = false := by
        unfold ins
        rw [Bool.eq_false_iff.2 c]
        rfl
      rw [e2, Bool.false_or]
theorem iInner (l : List S73) (i f0 b : Int) (r : List Bool) : ∀ (d : Nat) (x : List Bool) (a : Int), 0 ≤ a → b - a = d → b ≤ (x.length : Int) → x.length ≤ 1000 → 0 ≤ i → i < (l.length : Int) → l.length ≤ 2097152 →
    Ev (fun k => impl_ticks.l0 k (mark x a d) l (l.length : Int) (i + 1)) r → Ev (fun k => impl_ticks.l1 k x a l (l.length : Int) i f0 b) r := by
  intro d
  induction d with
  | zero =>
    intro x a h0 hd hb hx hi0 hi1 hl h
    refine K.succ ?_
    simp only [impl_ticks.l1]
    rw [K.wr (x := i + 1) (by omega) (by omega)]
    exact K.neg (by omega) h
  | succ d ih =>
    intro x a h0 hd hb hx hi0 hi1 hl h
    refine K.succ ?_
    simp only [impl_ticks.l1]
    rw [K.wr (x := a + 1) (by omega) (by omega)]
    exact K.pos (by omega) (K.pos h0 (K.pos (by omega) (ih (x.set a.toNat true) (a + 1) (by omega) (by omega) (by simp; omega) (by simp; omega) hi0 hi1 hl h)))
theorem iTicks (l : List S73) (hl : l.length ≤ 2097152) : ∀ (d : Nat) (i : Int) (x : List Bool), 0 ≤ i → (l.length : Int) - i = d → x.length = 1000 → Ev (fun k => impl_ticks.l0 k x l (l.length : Int) i) (tk (l.drop i.toNat) x) := by
  intro d
  induction d with
  | zero =>
    intro i x h0 hd hx
    refine K.succ ?_
    simp only [impl_ticks.l0]
    rw [List.drop_eq_nil_of_le (by omega)]
    exact K.neg (by omega) (Ev.now _)
  | succ d ih =>
    intro i x h0 hd hx
    refine K.succ ?_
    simp only [impl_ticks.l0, iVs]
    rw [K.wr (x := i + 1) (by omega) (by omega), rdDrop l i h0 (by omega)]
    refine K.pos (by omega) (K.pos h0 (K.pos (by omega) (K.known rfl ?_)))
    simp only [tk]
    by_cases c : vs (rd_T73 l i) = true
    · rw [if_pos c]
      have hv : (rd_T73 l i).f0 ≥ 0 ∧ (rd_T73 l i).f1 ≤ 1000 ∧ (rd_T73 l i).f0 < (rd_T73 l i).f1 := by
        unfold vs at c
        exact of_decide_eq_true c
      refine K.pos c (iInner l i _ _ _ ((rd_T73 l i).f1 - (rd_T73 l i).f0).toNat x _ (by omega) (by omega) (by omega) (by omega) h0 (by omega) hl ?_)
      exact ih (i + 1) _ (by omega) (by omega) (by rw [mark_len]; exact hx)
    · rw [if_neg c]
      exact K.neg c (ih (i + 1) _ (by omega) (by omega) hx)
theorem ticksOf (l : List S73) (hl : l.length ≤ 2097152) : ∃ x : List Bool, Ev (fun k => impl_ticks.f k l) x ∧ x.length = 1000 ∧ ∀ t, 0 ≤ t → t < 1000 → rdOf false x t = inl l t := by
  refine ⟨tk l (List.replicate 1000 false), ?_, ?_, ?_⟩
  · unfold impl_ticks.f
    exact K.pos (by omega) (iTicks l hl l.length 0 _ (by omega) (by omega) (List.length_replicate ..))
  · rw [tk_len, List.length_replicate]
  · intro t h0 h1
    rw [tk_get t h0 _ _ (by rw [List.length_replicate]; omega)]
    have e : rdOf false (List.replicate 1000 false) t = false := by
      simp only [rdOf, List.getD_eq_getElem?_getD, List.getElem?_replicate]
      split <;> rfl
    rw [e, Bool.false_or]
theorem whereRun (q : Nat → Int → Option Bool) (p : Int → Bool) (hi : Int) (hq : ∀ t, 0 ≤ t → t < mn hi 1000 → Ev (fun k => q k t) (p t)) : ∀ (d : Nat) (o : List S73) (t : Int), 0 ≤ t → (mn hi 1000 - t).toNat = d → o.length + d ≤ 7000000000000 → Ev (fun k => sw.l0 q k hi o t) (run p o t d) := by
  intro d
  have hm : mn hi 1000 ≤ 1000 := by unfold mn; split <;> omega
  induction d with
  | zero =>
    intro o t h0 hd ho
    refine K.succ ?_
    simp only [sw.l0, run]
    exact K.neg (by omega) (Ev.now _)
  | succ d ih =>
    intro o t h0 hd ho
    refine K.succ ?_
    simp only [sw.l0, run]
    have w0 : wrap64 (t + 1) = t + 1 := K.wr (by omega) (by omega)
    have w1 : wrap64 ((o.length : Int) - 1) = (o.length : Int) - 1 := K.wr (by omega) (by omega)
    rw [w0, w1]
    refine K.pos (by omega) (Ev.bind (hq t h0 (by omega)) ?_)
    by_cases c : p t = true
    · refine K.pos c ?_
      rw [if_pos c]
      have hp := put_len o t
      have ih' := ih (put o t) (t + 1) (by omega) (by omega)
      unfold put at ih' ⊢
      by_cases c1 : (o.length : Int) > 0
      · rw [if_pos c1] at ih' ⊢
        refine K.pos (by omega) (K.pos (by omega) (K.pos (by omega) ?_))
        by_cases c2 : (rd_T73 o ((o.length : Int) - 1)).f1 = t
        · rw [if_pos c2] at ih' ⊢
          refine K.pos c2 ?_
          rw [c2, w0]
          exact ih' (by simp; omega)
        · rw [if_neg c2] at ih' ⊢
          refine K.neg c2 (K.pos (by omega) (ih' (by simp; omega)))
      · rw [if_neg c1] at ih' ⊢
        refine K.neg (by omega) (K.pos (by omega) (ih' (by simp; omega)))
    · refine K.neg c ?_
      rw [if_neg c]
      exact ih o (t + 1) (by omega) (by omega) (by omega)
theorem sJoin (l : List S73) (hl : l.length ≤ 2097152) (n : Int) (hn : n ≤ 1000) : ∀ (d : Nat) (o : List S73) (t : Int), 0 ≤ t → n - t = d → o.length + d ≤ 7000000000000 → Ev (fun k => spec_JoinSpans.l0 k l o n t) (run (inl l) o t d) := by
  intro d
  induction d with
  | zero =>
    intro o t h0 hd ho
    refine K.succ ?_
    simp only [spec_JoinSpans.l0, run]
    exact K.neg (by omega) (Ev.now _)
  | succ d ih =>
    intro o t h0 hd ho
    refine K.succ ?_
    simp only [spec_JoinSpans.l0, run]
    rw [K.wr (x := t + 1) (by omega) (by omega)]
    refine K.pos (by omega) (Ev.bind (sInl l hl t l.length 0 (by omega) (by omega)) ?_)
    rw [show l.drop (0 : Int).toNat = l from rfl]
    have hp := put_len o t
    by_cases c : inl l t = true
    · rw [if_pos c]
      exact K.pos c (K.known (sPut o t h0 (by omega) (by omega)) (ih (put o t) (t + 1) (by omega) (by omega) (by omega)))
    · rw [if_neg c]
      exact K.neg c (ih o (t + 1) (by omega) (by omega) (by omega))
theorem joinBoth (l : List S73) (hl : l.length ≤ 2097152) : Ev (fun k => spec_JoinSpans.f k l) (run (inl l) [] 0 1000) ∧ Ev (fun k => impl_JoinSpans.f k l) (run (inl l) [] 0 1000) := by
  refine ⟨?_, ?_⟩
  · unfold spec_JoinSpans.f spec_l4Last.f
    refine Ev.bind (sLast l hl l.length 0 0 (by omega) (by omega)) ?_
    rw [show l.drop (0 : Int).toNat = l from rfl]
    obtain ⟨h1, h2, _⟩ := last_le l 0
    have h2' := h2 (by omega)
    have e : run (inl l) [] 0 1000 = run (inl l) [] 0 (last l 0).toNat := by
      rw [show (1000 : Nat) = (last l 0).toNat + (1000 - (last l 0).toNat) by omega, run_add]
      refine run_none _ _ _ _ (fun u hu => beyond l u (by omega))
    rw [e]
    exact sJoin l hl (last l 0) h2' _ [] 0 (by omega) (by omega) (by simp; omega)
  · unfold impl_JoinSpans.f
    obtain ⟨x, g1, g2, g3⟩ := ticksOf l hl
    refine Ev.bind g1 (Ev.bind (r := run (inl l) [] 0 1000) ?_ (Ev.now _))
    unfold where_impl_JoinSpans_1.f sw.f
    have hm : mn 1000 1000 = 1000 := by unfold mn; rfl
    have hx : mx 0 0 = 0 := by unfold mx; rfl
    rw [hx]
    refine whereRun (fun _ t => impl_JoinSpans_1.f t x) (inl l) 1000 (fun t h0 h1 => ?_) 1000 [] 0 (by omega) (by rw [hm]; rfl) (by simp)
    rw [hm] at h1
    unfold impl_JoinSpans_1.f
    rw [g2]
    refine K.pos h0 (K.pos (by omega) ?_)
    rw [g3 t h0 h1]
    exact Ev.now _
theorem join (l : List S73) (hl : l.length ≤ 2097152) : ∃ r : List S73, r.length ≤ 1000 ∧ Ev (fun k => spec_JoinSpans.f k l) r ∧ Ev (fun k => impl_JoinSpans.f k l) r :=
  ⟨run (inl l) [] 0 1000, Nat.le_trans (run_len _ 1000 [] 0) (by simp), (joinBoth l hl).1, (joinBoth l hl).2⟩
theorem inl_app (a b : List S73) (t : Int) : inl (a ++ b) t = (inl a t || inl b t) := by
  unfold inl
  rw [List.any_append]
theorem put_snoc (o : List S73) (t : Int) : (∃ q r, o = q ++ [r] ∧ r.f1 = t ∧ put o t = q ++ [⟨r.f0, t + 1⟩]) ∨ put o t = o ++ [⟨t, t + 1⟩] := by
  rcases List.eq_nil_or_concat o with rfl | ⟨q, r, rfl⟩
  · exact .inr rfl
  · have hl : ((q ++ [r]).length : Int) - 1 = (q.length : Int) := by simp
    have hrd : rd_T73 (q ++ [r]) (q.length : Int) = r := by
      simp [rd_T73, List.getD_eq_getElem?_getD]
    simp only [List.concat_eq_append]
    unfold put
    rw [if_pos (by simp), hl, hrd]
    by_cases c : r.f1 = t
    · rw [if_pos c]
      refine .inl ⟨q, r, rfl, c, ?_⟩
      simp
    · rw [if_neg c]
      exact .inr rfl
theorem ins_one (s : S73) (t : Int) : inl [s] t = ins s t := by
  simp [inl]
theorem put_ok (o : List S73) (t u : Int) (h0 : 0 ≤ t) (h1 : t < 1000) (hv : ∀ s ∈ o, vs s = true) : (∀ s ∈ put o t, vs s = true) ∧ inl (put o t) u = (inl o u || decide (u = t)) := by
  rcases put_snoc o t with ⟨q, r, rfl, hr, e⟩ | e
  · have hvr := hv r (by simp)
    unfold vs at hvr
    have hvr := of_decide_eq_true hvr
    have hn : vs (⟨r.f0, t + 1⟩ : S73) = true := by
      unfold vs
      exact decide_eq_true ⟨hvr.1, by show t + 1 ≤ 1000; omega, by show r.f0 < t + 1; omega⟩
    refine ⟨?_, ?_⟩
    · rw [e]
      intro s hs
      rcases List.mem_append.1 hs with hs | hs
      · exact hv s (by simp [hs])
      · rw [List.mem_singleton] at hs
        subst hs
        exact hn
    · rw [e, inl_app, inl_app, ins_one, ins_one, Bool.or_assoc]
      congr 1
      unfold ins
      rw [hn, hv r (by simp), Bool.true_and, Bool.true_and, ← Bool.decide_and, ← Bool.decide_and, ← Bool.decide_or]
      exact decide_eq_decide.2 (by show r.f0 ≤ u ∧ u < t + 1 ↔ (r.f0 ≤ u ∧ u < r.f1) ∨ u = t; omega)
  · have hn : vs (⟨t, t + 1⟩ : S73) = true := by
      unfold vs
      exact decide_eq_true ⟨h0, by show t + 1 ≤ 1000; omega, by show t < t + 1; omega⟩
    refine ⟨?_, ?_⟩
    · rw [e]
      intro s hs
      rcases List.mem_append.1 hs with hs | hs
      · exact hv s hs
      · rw [List.mem_singleton] at hs
        subst hs
        exact hn
    · rw [e, inl_app, ins_one]
      congr 1
      unfold ins
      rw [hn, Bool.true_and, ← Bool.decide_and]
      exact decide_eq_decide.2 (by show t ≤ u ∧ u < t + 1 ↔ u = t; omega)
theorem run_ok (p : Int → Bool) (u : Int) : ∀ (d : Nat) (o : List S73) (t : Int), 0 ≤ t → t + d ≤ 1000 → (∀ s ∈ o, vs s = true) → (∀ s ∈ run p o t d, vs s = true) ∧ inl (run p o t d) u = (inl o u || (decide (t ≤ u ∧ u < t + d) && p u)) := by
  intro d
  induction d with
  | zero =>
    intro o t h0 h1 hv
    refine ⟨hv, ?_⟩
    rw [decide_eq_false (by omega)]
    simp [run]
  | succ d ih =>
    intro o t h0 h1 hv
    simp only [run]
    by_cases c : p t = true
    · rw [if_pos c]
      obtain ⟨v1, e1⟩ := put_ok o t u h0 (by omega) hv
      obtain ⟨v2, e2⟩ := ih (put o t) (t + 1) (by omega) (by omega) v1
      refine ⟨v2, ?_⟩
      rw [e2, e1, Bool.or_assoc]
      congr 1
      by_cases hu : u = t
      · subst hu
        rw [decide_eq_true rfl, decide_eq_true (show u ≤ u ∧ u < u + ((d + 1 : Nat) : Int) by omega), c]
        rfl
      · rw [decide_eq_false hu, Bool.false_or]
        congr 1
        exact decide_eq_decide.2 (by omega)
    · rw [if_neg c]
      obtain ⟨v2, e2⟩ := ih o (t + 1) (by omega) (by omega) hv
      refine ⟨v2, ?_⟩
      rw [e2]
      congr 1
      by_cases hu : u = t
      · subst hu
        rw [Bool.eq_false_iff.2 c, Bool.and_false, Bool.and_false]
      · congr 1
        exact decide_eq_decide.2 (by omega)
theorem inl_all (p : Int → Bool) (u : Int) (h0 : 0 ≤ u) (h1 : u < 1000) : inl (run p [] 0 1000) u = p u := by
  rw [(run_ok p u 1000 [] 0 (by omega) (by omega) (by simp)).2, decide_eq_true (by omega)]
  simp [inl]
def cutP (a b : List S73) (t : Int) : Bool := inl a t && !inl b t
theorem sCut (a b : List S73) (ha : a.length ≤ 2097152) (hb : b.length ≤ 2097152) (n : Int) (hn : n ≤ 1000) : ∀ (d : Nat) (o : List S73) (t : Int), 0 ≤ t → n - t = d → o.length + d ≤ 7000000000000 → Ev (fun k => spec_CutSpans.l0 k a b o n t) (run (cutP a b) o t d) := by
  intro d
  induction d with
  | zero =>
    intro o t h0 hd ho
    refine K.succ ?_
    simp only [spec_CutSpans.l0, run]
    exact K.neg (by omega) (Ev.now _)
  | succ d ih =>
    intro o t h0 hd ho
    refine K.succ ?_
    simp only [spec_CutSpans.l0, run]
    rw [K.wr (x := t + 1) (by omega) (by omega)]
    refine K.pos (by omega) (Ev.bind (sInl a ha t a.length 0 (by omega) (by omega)) ?_)
    rw [show a.drop (0 : Int).toNat = a from rfl]
    have hp := put_len o t
    by_cases c : inl a t = true
    · refine K.pos c (Ev.bind (sInl b hb t b.length 0 (by omega) (by omega)) ?_)
      rw [show b.drop (0 : Int).toNat = b from rfl]
      by_cases c2 : inl b t = true
      · rw [if_neg (by simp [cutP, c2])]
        exact K.pos c2 (ih o (t + 1) (by omega) (by omega) (by omega))
      · rw [if_pos (by simp [cutP, c, c2])]
        exact K.neg c2 (K.known (sPut o t h0 (by omega) (by omega)) (ih (put o t) (t + 1) (by omega) (by omega) (by omega)))
    · rw [if_neg (by simp [cutP, c])]
      exact K.neg c (ih o (t + 1) (by omega) (by omega) (by omega))
theorem cutBoth (a b : List S73) (ha : a.length ≤ 2097152) (hb : b.length ≤ 2097152) : Ev (fun k => spec_CutSpans.f k a b) (run (cutP a b) [] 0 1000) ∧ Ev (fun k => impl_CutSpans.f k a b) (run (cutP a b) [] 0 1000) := by
  refine ⟨?_, ?_⟩
  · unfold spec_CutSpans.f spec_l4Last.f
    refine Ev.bind (sLast a ha a.length 0 0 (by omega) (by omega)) ?_
    rw [show a.drop (0 : Int).toNat = a from rfl]
    obtain ⟨h1, h2, _⟩ := last_le a 0
    have h2' := h2 (by omega)
    have e : run (cutP a b) [] 0 1000 = run (cutP a b) [] 0 (last a 0).toNat := by
      rw [show (1000 : Nat) = (last a 0).toNat + (1000 - (last a 0).toNat) by omega, run_add]
      refine run_none _ _ _ _ (fun u hu => ?_)
      unfold cutP
      rw [beyond a u (by omega)]
      rfl
    rw [e]
    exact sCut a b ha hb (last a 0) h2' _ [] 0 (by omega) (by omega) (by simp; omega)
  · unfold impl_CutSpans.f
    obtain ⟨x, g1, g2, g3⟩ := ticksOf a ha
    obtain ⟨y, i1, i2, i3⟩ := ticksOf b hb
    refine Ev.bind g1 (Ev.bind i1 (Ev.bind (r := run (cutP a b) [] 0 1000) ?_ (Ev.now _)))
    unfold where_impl_CutSpans_1.f sw.f
    have hm : mn 1000 1000 = 1000 := by unfold mn; rfl
    have hx : mx 0 0 = 0 := by unfold mx; rfl
    rw [hx]
    refine whereRun (fun _ t => impl_CutSpans_1.f t x y) (cutP a b) 1000 (fun t h0 h1 => ?_) 1000 [] 0 (by omega) (by rw [hm]; rfl) (by simp)
    rw [hm] at h1
    unfold impl_CutSpans_1.f cutP
    rw [g2, i2, g3 t h0 h1, i3 t h0 h1]
    refine K.pos h0 (K.pos (by omega) ?_)
    by_cases c : inl a t = true
    · rw [c]
      exact K.pos rfl (K.pos (by omega) (Ev.now _))
    · rw [Bool.eq_false_iff.2 c]
      exact K.neg Bool.false_ne_true (Ev.now _)
theorem cut_cut (a b c : List S73) : run (cutP (run (cutP a b) [] 0 1000) c) [] 0 1000 = run (cutP a (b ++ c)) [] 0 1000 := by
  refine run_eq _ _ _ _ _ (fun u h0 h1 => ?_)
  unfold cutP
  rw [inl_all _ u h0 (by omega), inl_app, Bool.not_or, Bool.and_assoc]
theorem concat2 (a b : List S73) (ha : a.length ≤ 2097152) (hb : b.length ≤ 2097152) : Ev (fun k => impl_Span_49.f k [a, b]) (a ++ b) := by
  unfold impl_Span_49.f
  have r0 : rd_L7 [a, b] 0 = a := rfl
  have r1 : rd_L7 [a, b] 1 = b := rfl
  have hl : (([a, b] : List (List S73)).length : Int) = 2 := rfl
  have w0 : wrap64 (0 + (a.length : Int)) = (a.length : Int) := by
    rw [K.wr (by omega) (by omega)]
    omega
  have w1 : wrap64 ((a.length : Int) + (b.length : Int)) = (a.length : Int) + (b.length : Int) := K.wr (by omega) (by omega)
  have w2 : wrap64 (0 + 1) = 1 := K.wr (x := 0 + 1) (by omega) (by omega)
  have w3 : wrap64 (1 + 1) = 2 := K.wr (x := 1 + 1) (by omega) (by omega)
  have hg : grow87.f ((a.length : Int) + (b.length : Int)) = some [] := by
    unfold grow87.f
    rw [if_pos (by omega)]
  rw [hl]
  refine K.succ ?_
  simp only [impl_Span_49.l0, r0, w0, w2]
  refine K.pos (by decide) (K.pos (by decide) (K.pos (by rw [hl]; decide) (K.neg (by omega) (K.succ ?_))))
  simp only [impl_Span_49.l0, r1, w1, w3]
  refine K.pos (by decide) (K.pos (by decide) (K.pos (by rw [hl]; decide) (K.neg (by omega) (K.succ ?_))))
  simp only [impl_Span_49.l0]
  refine K.neg (by decide) (K.known hg ?_)
  rw [hl]
  refine K.succ ?_
  simp only [impl_Span_49.l1, r0, w2, List.nil_append]
  refine K.pos (by decide) (K.pos (by decide) (K.pos (by rw [hl]; decide) (K.pos (by simp; omega) (K.succ ?_))))
  simp only [impl_Span_49.l1, r1, w3]
  refine K.pos (by decide) (K.pos (by decide) (K.pos (by rw [hl]; decide) (K.pos (by omega) (K.succ ?_))))
  simp only [impl_Span_49.l1]
  exact K.neg (by decide) (Ev.now _)
theorem cloudRun (l : List S87) (hl : l.length ≤ 1048576) (n : Int) :
    ∀ (d : Nat) (o : List S73) (i : Int), 0 ≤ i → (l.length : Int) - i = d → o.length + d ≤ 1048576 → ∃ r : List S73, r.length ≤ 1000 ∧ Ev (fun k => spec_CloudSpans.l0 k l n o i) r ∧ Ev (fun k => impl_CloudSpans.l0 k n o l (l.length : Int) i) r := by
  intro d
  induction d with
  | zero =>
    intro o i h0 hd ho
    obtain ⟨r, hr, hs, hi⟩ := join o (by omega)
    refine ⟨r, hr, K.succ ?_, K.succ ?_⟩
    · simp only [spec_CloudSpans.l0]
      exact K.neg (by omega) (Ev.bind hs (Ev.now _))
    · simp only [impl_CloudSpans.l0]
      exact K.neg (by omega) (Ev.bind hi (Ev.now _))
  | succ d ih =>
    intro o i h0 hd ho
    have w1 : wrap64 (i + 1) = i + 1 := K.wr (by omega) (by omega)
    by_cases c : (rd_T87 l i).f0 = n
    · obtain ⟨r, hr, g1, g2⟩ := ih (o ++ [(⟨(rd_T87 l i).f1, (rd_T87 l i).f2⟩ : S73)]) (i + 1) (by omega) (by omega) (by simp; omega)
      refine ⟨r, hr, K.succ ?_, K.succ ?_⟩
      · simp only [spec_CloudSpans.l0, w1]
        exact K.pos (by omega) (K.pos h0 (K.pos c (K.pos (by omega) g1)))
      · simp only [impl_CloudSpans.l0, w1]
        exact K.pos (by omega) (K.pos h0 (K.pos (by omega) (K.pos c (K.pos (by omega) g2))))
    · obtain ⟨r, hr, g1, g2⟩ := ih o (i + 1) (by omega) (by omega) (by omega)
      refine ⟨r, hr, K.succ ?_, K.succ ?_⟩
      · simp only [spec_CloudSpans.l0, w1]
        exact K.pos (by omega) (K.pos h0 (K.neg c g1))
      · simp only [impl_CloudSpans.l0, w1]
        exact K.pos (by omega) (K.pos h0 (K.pos (by omega) (K.neg c g2)))
theorem clouds (l : List S87) (hl : l.length ≤ 1048576) (n : Int) : ∃ r : List S73, r.length ≤ 1000 ∧ Ev (fun k => spec_CloudSpans.f k l n) r ∧ Ev (fun k => impl_CloudSpans.f k l n) r :=
  cloudRun l hl n l.length [] 0 (by omega) (by omega) (by simp; omega)
def ofS (A B : Int) (s : S73) : S82 := ⟨A, B, s.f0, s.f1⟩
theorem sCcIn (pl : List S82) (cl : List S87) (i A B f t : Int) (l : List S73) (hl : l.length ≤ 1000) (hi : 0 ≤ i) (hi2 : i < 1048576) (v : List S82) : ∀ (d : Nat) (o : List S82) (j : Int), 0 ≤ j → (l.length : Int) - j = d → o.length + d ≤ 2000000000 →
    Ev (fun k => spec_CutClouds.l0 k pl cl (o ++ (l.drop j.toNat).map (ofS A B)) (i + 1)) v → Ev (fun k => spec_CutClouds.l1 k pl cl o i l j A B f t) v := by
  intro d
  induction d with
  | zero =>
    intro o j h0 hd ho h
    rw [List.drop_eq_nil_of_le (by omega), List.map_nil, List.append_nil] at h
    refine K.succ ?_
    simp only [spec_CutClouds.l1]
    rw [K.wr (x := i + 1) (by omega) (by omega)]
    exact K.neg (by omega) h
  | succ d ih =>
    intro o j h0 hd ho h
    refine K.succ ?_
    simp only [spec_CutClouds.l1]
    rw [K.wr (x := j + 1) (by omega) (by omega)]
    rw [rdDrop l j h0 (by omega), List.map_cons] at h
    refine K.pos (by omega) (K.pos h0 (K.pos (by omega) (ih _ (j + 1) (by omega) (by omega) (by simp; omega) ?_)))
    simpa [ofS] using h
theorem iCcIn (pl : List S82) (n : Int) (cl : List S87) (i A B f t : Int) (l : List S73) (hl : l.length ≤ 1000) (hi : 0 ≤ i) (hi2 : i < 1048576) (v : List S82) : ∀ (d : Nat) (o : List S82) (j : Int), 0 ≤ j → (l.length : Int) - j = d → o.length + d ≤ 2000000000 →
    Ev (fun k => impl_CutClouds.l0 k cl (o ++ (l.drop j.toNat).map (ofS A B)) pl n (i + 1)) v → Ev (fun k => impl_CutClouds.l1 k cl o pl n i l (l.length : Int) j A B f t) v := by
  intro d
  induction d with
  | zero =>
    intro o j h0 hd ho h
    rw [List.drop_eq_nil_of_le (by omega), List.map_nil, List.append_nil] at h
    refine K.succ ?_
    simp only [impl_CutClouds.l1]
    rw [K.wr (x := i + 1) (by omega) (by omega)]
    exact K.neg (by omega) h
  | succ d ih =>
    intro o j h0 hd ho h
    refine K.succ ?_
    simp only [impl_CutClouds.l1]
    rw [K.wr (x := j + 1) (by omega) (by omega)]
    rw [rdDrop l j h0 (by omega), List.map_cons] at h
    refine K.pos (by omega) (K.pos h0 (K.pos (by omega) (K.pos (by omega) (ih _ (j + 1) (by omega) (by omega) (by simp; omega) ?_))))
    simpa [ofS] using h
theorem cutCloudsL (pl : List S82) (cl : List S87) (hp : pl.length ≤ 1048576) (hc : cl.length ≤ 1048576) : ∀ (d : Nat) (o : List S82) (i : Int), 0 ≤ i → (pl.length : Int) - i = d → (o.length : Int) ≤ 1000 * i →
    ∃ v : List S82, v.length ≤ 1048576000 ∧ Ev (fun k => spec_CutClouds.l0 k pl cl o i) v ∧ Ev (fun k => impl_CutClouds.l0 k cl o pl (pl.length : Int) i) v := by
  intro d
  induction d with
  | zero =>
    intro o i h0 hd ho
    refine ⟨o, by omega, K.succ ?_, K.succ ?_⟩
    · simp only [spec_CutClouds.l0]
      exact K.neg (by omega) (Ev.now _)
    · simp only [impl_CutClouds.l0]
      exact K.neg (by omega) (Ev.now _)
  | succ d ih =>
    intro o i h0 hd ho
    obtain ⟨ra, ha, sa, ia⟩ := clouds cl hc (rd_T82 pl i).f0
    obtain ⟨rb, hb, sb, ib⟩ := clouds cl hc (rd_T82 pl i).f1
    obtain ⟨s1, _⟩ := cutBoth [⟨(rd_T82 pl i).f2, (rd_T82 pl i).f3⟩] ra (by simp) (by omega)
    have hl1 : (run (cutP [⟨(rd_T82 pl i).f2, (rd_T82 pl i).f3⟩] ra) [] 0 1000).length ≤ 1000 := Nat.le_trans (run_len _ 1000 [] 0) (by simp)
    obtain ⟨s2, _⟩ := cutBoth (run (cutP [⟨(rd_T82 pl i).f2, (rd_T82 pl i).f3⟩] ra) [] 0 1000) rb (by omega) (by omega)
    rw [cut_cut] at s2
    obtain ⟨_, i1⟩ := cutBoth [⟨(rd_T82 pl i).f2, (rd_T82 pl i).f3⟩] (ra ++ rb) (by simp) (by simp; omega)
    have hl2 : (run (cutP [⟨(rd_T82 pl i).f2, (rd_T82 pl i).f3⟩] (ra ++ rb)) [] 0 1000).length ≤ 1000 := Nat.le_trans (run_len _ 1000 [] 0) (by simp)
    have hcc := concat2 ra rb (by omega) (by omega)
    generalize run (cutP [⟨(rd_T82 pl i).f2, (rd_T82 pl i).f3⟩] (ra ++ rb)) [] 0 1000 = u at s2 i1 hl2
    obtain ⟨v, hv, g1, g2⟩ := ih (o ++ u.map (ofS (rd_T82 pl i).f0 (rd_T82 pl i).f1)) (i + 1) (by omega) (by omega) (by simp; omega)
    refine ⟨v, hv, K.succ ?_, K.succ ?_⟩
    · simp only [spec_CutClouds.l0]
      exact K.pos (by omega) (K.pos h0 (Ev.bind sa (Ev.bind s1 (Ev.bind sb (Ev.bind s2 (sCcIn pl cl i _ _ _ _ u hl2 h0 (by omega) v u.length o 0 (by omega) (by omega) (by omega) g1))))))
    · simp only [impl_CutClouds.l0]
      exact K.pos (by omega) (K.pos h0 (K.pos (by omega) (K.known rfl (Ev.bind ia (Ev.bind ib (Ev.bind hcc (Ev.bind i1 (iCcIn pl _ cl i _ _ _ _ u hl2 h0 (by omega) v u.length o 0 (by omega) (by omega) (by omega) g2))))))))
theorem cutClouds (pl : List S82) (cl : List S87) (hp : pl.length ≤ 1048576) (hc : cl.length ≤ 1048576) : ∃ v : List S82, v.length ≤ 1048576000 ∧ Ev (fun k => spec_CutClouds.f k pl cl) v ∧ Ev (fun k => impl_CutClouds.f k pl cl) v := by
  obtain ⟨v, hv, g1, g2⟩ := cutCloudsL pl cl hp hc pl.length [] 0 (by omega) (by omega) (by simp)
  exact ⟨v, hv, g1, g2⟩

end LFnExactLostTicks
theorem FnExactLostTicks (a : List S85) (b : List S89) (ha : a.length ≤ 9223372036854775807) (hb : b.length ≤ 9223372036854775807) : ∃ k, laws_FnExactLostTicks.f k a b = some true := by
  refine K.rounds (g := fun k => laws_FnExactLostTicks.f k a b) ?_
  unfold laws_FnExactLostTicks.f
  refine K.known (LFnExactLostTicks.szContactS a 1048576 (by omega) (by omega) ha) ?_
  by_cases c : (a.length : Int) ≤ 1048576
  · rw [if_pos c]
    refine K.neg (by omega) (K.known (LFnExactLostTicks.szCloudS b (1048576 - a.length) (by omega) (by omega) hb) ?_)
    by_cases c2 : (b.length : Int) ≤ 1048576 - a.length
    · rw [if_pos c2]
      obtain ⟨v, hv, h1, h2⟩ := LFnExactLostTicks.cutClouds (a.map LFnExactLostTicks.cvContact) (b.map LFnExactLostTicks.cvCloud) (by simp; omega) (by simp; omega)
      obtain ⟨x, s1, i1⟩ := LFnExactLostTicks.conTicks (a.map LFnExactLostTicks.cvContact) (by simp; omega) (a.map LFnExactLostTicks.cvContact).length 0 0 (by omega) (by omega) (by omega) (by omega)
      obtain ⟨y, s2, i2⟩ := LFnExactLostTicks.conTicks v (by omega) v.length 0 0 (by omega) (by omega) (by omega) (by omega)
      have hs : Ev (fun k => spec_LostTicks.f k (a.map LFnExactLostTicks.cvContact) (b.map LFnExactLostTicks.cvCloud)) (wrap64 (x - y)) := by
        unfold spec_LostTicks.f spec_ContactTicks.f
        exact Ev.bind s1 (Ev.bind h1 (Ev.bind s2 (Ev.now _)))
      have hi : Ev (fun k => impl_LostTicks.f k (a.map LFnExactLostTicks.cvContact) (b.map LFnExactLostTicks.cvCloud)) (wrap64 (x - y)) := by
        unfold impl_LostTicks.f impl_ContactTicks.f
        exact Ev.bind i1 (Ev.bind h2 (Ev.bind i2 (Ev.now _)))
      repeat (first | exact Ev.now _ | refine K.pos (by first | exact True.intro | with_reducible rfl | omega) ?_ | refine K.neg (by first | omega | exact Bool.false_ne_true | exact K.nbne _) ?_ | refine Ev.bind (LFnExactLostTicks.toContactS a (by omega)) ?_ | refine Ev.bind (LFnExactLostTicks.toCloudS b (by omega)) ?_ | refine Ev.bind (hs) ?_ | refine Ev.bind (hi) ?_ | refine Ev.bind (LFnExactLostTicks.eqContactS (a.map LFnExactLostTicks.cvContact) (by simp; omega)) ?_ | refine Ev.bind (LFnExactLostTicks.eqCloudS (b.map LFnExactLostTicks.cvCloud) (by simp; omega)) ?_)
    · rw [if_neg c2]
      exact K.pos (by omega) (Ev.now _)
  · rw [if_neg c]
    exact K.pos (by omega) (Ev.now _)

end Go.Proofs.Ytcjfalmhohcifaa.Pure
