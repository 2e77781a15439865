/- At every code of at most 2^20 bytes, what the drawn clouds leave of the drawn plan are the plan's ticks without clouds over either end, no ticks are won, and a plan remains a plan. -/
import Derived.Test.YtopbkdcicidajaaQFnWeatherx
import Derived.Test.YtopbkdcicidajaaKKit
namespace Go.Proofs.Ytopbkdcicidajaa.Pure
open Go.RowKit Go.Proofs.Ytopbkdcicidajaa.PFnWeather Go.Proofs.YtopbkdcicidajaaW.PrintWords Go.Proofs.YtopbkdcicidajaaW.PrintLast Go.Proofs.YtopbkdcicidajaaW.PrintMore Go.Proofs.Ytopbkdcicidajaa
set_option linter.unusedSimpArgs false
set_option linter.unusedVariables false
namespace LFnWeather
def put (o : List S82) (t : Int) : List S82 :=
  if (o.length : Int) > 0 then (if (rd_T82 o ((o.length : Int) - 1)).f1 = t then o.set ((o.length : Int) - 1).toNat ⟨(rd_T82 o ((o.length : Int) - 1)).f0, t + 1⟩ else o ++ [⟨t, t + 1⟩]) else o ++ [⟨t, t + 1⟩]
theorem put_len (o : List S82) (t : Int) : (put o t).length ≤ o.length + 1 := by
  unfold put
  (repeat' split) <;> simp
def run (p : Int → Bool) (o : List S82) (t : Int) : Nat → List S82
  | 0 => o
  | d + 1 => run p (if p t = true then put o t else o) (t + 1) d
theorem run_add (p : Int → Bool) : ∀ (d e : Nat) (o : List S82) (t : Int), run p o t (d + e) = run p (run p o t d) (t + d) e := by
  intro d
  induction d with
  | zero =>
    intro e o t
    simp [run]
  | succ d ih =>
    intro e o t
    rw [show d + 1 + e = (d + e) + 1 by omega]
    simp only [run]
    rw [ih]
    congr 1
    omega
theorem run_none (p : Int → Bool) : ∀ (d : Nat) (o : List S82) (t : Int), (∀ u, t ≤ u → p u = false) → run p o t d = o := by
  intro d
  induction d with
  | zero =>
    intro o t h
    rfl
  | succ d ih =>
    intro o t h
    simp only [run, h t (by omega), Bool.false_eq_true, if_false]
    exact ih o (t + 1) (fun u hu => h u (by omega))
theorem run_len (p : Int → Bool) : ∀ (d : Nat) (o : List S82) (t : Int), (run p o t d).length ≤ o.length + d := by
  intro d
  induction d with
  | zero =>
    intro o t
    simp [run]
  | succ d ih =>
    intro o t
    simp only [run]
    refine Nat.le_trans (ih _ _) ?_
    have := put_len o t
    split <;> omega
theorem run_eq (p q : Int → Bool) : ∀ (d : Nat) (o : List S82) (t : Int), (∀ u, t ≤ u → u < t + d → p u = q u) → run p o t d = run q o t d := by
  intro d
  induction d with
  | zero =>
    intro o t h
    rfl
  | succ d ih =>
    intro o t h
    simp only [run]
    rw [h t (by omega) (by omega)]
    exact ih _ _ (fun u h1 h2 => h u (by omega) (by omega))
theorem sPut (o : List S82) (t : Int) (h0 : 0 ≤ t) (h1 : t ≤ 1000) (ho : o.length ≤ 8000000000000) : spec_l4Put.f o t = some (put o t) := by
  unfold spec_l4Put.f put
  have w0 : wrap64 (t + 1) = t + 1 := K.wr (by omega) (by omega)
  have w1 : wrap64 ((o.length : Int) - 1) = (o.length : Int) - 1 := K.wr (by omega) (by omega)
  rw [w0, w1]
  have c2 : o.length < 8796093022208 := by omega
  rw [if_pos c2]
  by_cases c : (o.length : Int) > 0
  · rw [if_pos c, if_pos c]
    have c0 : 0 ≤ (o.length : Int) - 1 := by omega
    have c1 : (o.length : Int) - 1 < (o.length : Int) := by omega
    rw [if_pos c0, if_pos c1]
    split <;> rfl
  · rw [if_neg c, if_neg c]
def vs (s : S82) : Bool := decide (s.f0 ≥ 0 ∧ s.f1 ≤ 1000 ∧ s.f0 < s.f1)
def ins (s : S82) (t : Int) : Bool := vs s && (decide (s.f0 ≤ t) && decide (t < s.f1))
def inl (l : List S82) (t : Int) : Bool := l.any (fun s => ins s t)
theorem sVs (s : S82) : spec_IsSpan.f s.f0 s.f1 = some (vs s) := by
  unfold spec_IsSpan.f vs
  by_cases c0 : s.f0 ≥ 0
  · rw [if_pos c0]
    by_cases c1 : s.f1 ≤ 1000
    · rw [if_pos c1]
      simp [c0, c1]
    · rw [if_neg c1]
      simp [c1]
  · rw [if_neg c0]
    simp [c0]
theorem iVs (s : S82) : impl_IsSpan.f s.f0 s.f1 = some (vs s) := by
  unfold impl_IsSpan.f vs
  by_cases c0 : s.f0 ≥ 0
  · rw [if_pos c0]
    by_cases c1 : s.f1 ≤ 1000
    · rw [if_pos c1]
      simp [c0, c1]
    · rw [if_neg c1]
      simp [c1]
  · rw [if_neg c0]
    simp [c0]
theorem sIns (s : S82) (t : Int) : spec_InSpan.f s.f0 s.f1 t = some (ins s t) := by
  unfold spec_InSpan.f ins
  rw [sVs, Option.bind_some]
  cases vs s with
  | true =>
    rw [if_pos rfl]
    by_cases c : s.f0 ≤ t
    · rw [if_pos c]
      simp [c]
    · rw [if_neg c]
      simp [c]
  | false => rfl
theorem rdDrop (l : List S82) (i : Int) (h0 : 0 ≤ i) (h1 : i < (l.length : Int)) : l.drop i.toNat = rd_T82 l i :: l.drop (i + 1).toNat := by
  rw [List.drop_eq_getElem_cons (by omega), show (i + 1).toNat = i.toNat + 1 by omega]
  simp [rd_T82, List.getD_eq_getElem?_getD, List.getElem?_eq_getElem (show i.toNat < l.length by omega)]
theorem sInl (l : List S82) (hl : l.length ≤ 2097152) (t : Int) : ∀ (d : Nat) (i : Int), 0 ≤ i → (l.length : Int) - i = d → Ev (fun k => spec_InSpans.l0 k l t i) (inl (l.drop i.toNat) t) := by
  intro d
  induction d with
  | zero =>
    intro i h0 hd
    refine K.succ ?_
    simp only [spec_InSpans.l0]
    rw [List.drop_eq_nil_of_le (by omega)]
    exact K.neg (by omega) (Ev.now _)
  | succ d ih =>
    intro i h0 hd
    refine K.succ ?_
    simp only [spec_InSpans.l0, sIns]
    rw [K.wr (x := i + 1) (by omega) (by omega), rdDrop l i h0 (by omega)]
    refine K.pos (by omega) (K.pos h0 (K.known rfl ?_))
    unfold inl
    rw [List.any_cons]
    cases ins (rd_T82 l i) t with
    | true => exact K.pos rfl (Ev.now _)
    | false => exact K.neg Bool.false_ne_true (ih (i + 1) (by omega) (by omega))
def last (l : List S82) (n : Int) : Int := l.foldl (fun n s => if vs s = true then (if s.f1 > n then s.f1 else n) else n) n
theorem last_le : ∀ (l : List S82) (n : Int), n ≤ last l n ∧ (n ≤ 1000 → last l n ≤ 1000) ∧ ∀ s ∈ l, vs s = true → s.f1 ≤ last l n := by
  intro l
  induction l with
  | nil =>
    intro n
    exact ⟨Int.le_refl _, fun h => h, fun s hs => absurd hs (by simp)⟩
  | cons a l ih =>
    intro n
    have e : last (a :: l) n = last l (if vs a = true then (if a.f1 > n then a.f1 else n) else n) := rfl
    rw [e]
    obtain ⟨h1, h2, h3⟩ := ih (if vs a = true then (if a.f1 > n then a.f1 else n) else n)
    by_cases c : vs a = true
    · rw [if_pos c] at h1 h2 h3 ⊢
      have hv : a.f1 ≤ 1000 := by
        unfold vs at c
        exact (of_decide_eq_true c).2.1
      have hm : n ≤ (if a.f1 > n then a.f1 else n) ∧ a.f1 ≤ (if a.f1 > n then a.f1 else n) ∧ (n ≤ 1000 → (if a.f1 > n then a.f1 else n) ≤ 1000) := by
        split <;> omega
      generalize (if a.f1 > n then a.f1 else n) = m at hm h1 h2 h3 ⊢
      refine ⟨by omega, fun hn => h2 (hm.2.2 hn), ?_⟩
      intro s hs hvs
      rcases List.mem_cons.1 hs with rfl | hs
      · omega
      · exact h3 s hs hvs
    · rw [if_neg c] at h1 h2 h3 ⊢
      refine ⟨h1, h2, ?_⟩
      intro s hs hvs
      rcases List.mem_cons.1 hs with rfl | hs
      · exact absurd hvs c
      · exact h3 s hs hvs
theorem beyond (l : List S82) (u : Int) (h : last l 0 ≤ u) : inl l u = false := by
  unfold inl
  rw [List.any_eq_false]
  intro s hs hc
  unfold ins at hc
  simp only [Bool.and_eq_true, decide_eq_true_eq] at hc
  have := (last_le l 0).2.2 s hs hc.1
  omega
theorem sLast (l : List S82) (hl : l.length ≤ 2097152) : ∀ (d : Nat) (i n : Int), 0 ≤ i → (l.length : Int) - i = d → Ev (fun k => spec_l4Last.l0 k l n i) (last (l.drop i.toNat) n) := by
  intro d
  induction d with
  | zero =>
    intro i n h0 hd
    refine K.succ ?_
    simp only [spec_l4Last.l0]
    rw [List.drop_eq_nil_of_le (by omega)]
    exact K.neg (by omega) (Ev.now _)
  | succ d ih =>
    intro i n h0 hd
    refine K.succ ?_
    simp only [spec_l4Last.l0, sVs]
    rw [K.wr (x := i + 1) (by omega) (by omega), rdDrop l i h0 (by omega)]
    refine K.pos (by omega) (K.pos h0 (K.known rfl ?_))
    have e : ∀ (a : S82) (r : List S82), last (a :: r) n = last r (if vs a = true then (if a.f1 > n then a.f1 else n) else n) := fun _ _ => rfl
    rw [e]
    by_cases c : vs (rd_T82 l i) = true
    · rw [if_pos c]
      refine K.pos c (K.known (b := if (rd_T82 l i).f1 > n then (rd_T82 l i).f1 else n) (by unfold spec_Max.f; split <;> rfl) (ih (i + 1) _ (by omega) (by omega)))
    · rw [if_neg c]
      exact K.neg c (ih (i + 1) _ (by omega) (by omega))
def mark (x : List Bool) (a : Int) : Nat → List Bool
  | 0 => x
  | d + 1 => mark (x.set a.toNat true) (a + 1) d
theorem mark_len : ∀ (d : Nat) (x : List Bool) (a : Int), (mark x a d).length = x.length := by
  intro d
  induction d with
  | zero => intro x a; rfl
  | succ d ih =>
    intro x a
    simp only [mark, ih, List.length_set]
theorem mark_get (t : Int) (h0 : 0 ≤ t) : ∀ (d : Nat) (x : List Bool) (a : Int), 0 ≤ a → t < (x.length : Int) → rdOf false (mark x a d) t = (rdOf false x t || (decide (a ≤ t) && decide (t < a + d))) := by
  intro d
  induction d with
  | zero =>
    intro x a ha ht
    have : ¬ (a ≤ t ∧ t < a + (0 : Nat)) := by omega
    rw [← Bool.decide_and, decide_eq_false this, Bool.or_false]
    rfl
  | succ d ih =>
    intro x a ha ht
    simp only [mark]
    rw [ih _ _ (by omega) (by simp; omega)]
    by_cases c : a = t
    · subst c
      have e : rdOf false (x.set a.toNat true) a = true := by
        simp only [rdOf, List.getD_eq_getElem?_getD]
        rw [List.getElem?_set_self (by omega)]
        rfl
      have e2 : (decide (a ≤ a) && decide (a < a + ((d + 1 : Nat) : Int))) = true := by
        rw [← Bool.decide_and]
        exact decide_eq_true (by omega)
      rw [e, e2, Bool.true_or, Bool.or_true]
    · have e : rdOf false (x.set a.toNat true) t = rdOf false x t := by
        simp only [rdOf, List.getD_eq_getElem?_getD]
        rw [List.getElem?_set_ne (by omega)]
      have e2 : (decide (a + 1 ≤ t) && decide (t < a + 1 + (d : Int))) = (decide (a ≤ t) && decide (t < a + ((d + 1 : Nat) : Int))) := by
        rw [← Bool.decide_and, ← Bool.decide_and]
        exact decide_eq_decide.2 (by omega)
      rw [e, e2]
def tk : List S82 → List Bool → List Bool
  | [], x => x
  | s :: l, x => tk l (if vs s = true then mark x s.f0 (s.f1 - s.f0).toNat else x)
theorem tk_len : ∀ (l : List S82) (x : List Bool), (tk l x).length = x.length := by
  intro l
  induction l with
  | nil => intro x; rfl
  | cons s l ih =>
    intro x
    simp only [tk, ih]
    split
    · exact mark_len _ _ _
    · rfl
theorem tk_get (t : Int) (h0 : 0 ≤ t) : ∀ (l : List S82) (x : List Bool), t < (x.length : Int) → rdOf false (tk l x) t = (rdOf false x t || inl l t) := by
  intro l
  induction l with
  | nil =>
    intro x ht
    simp [tk, inl]
  | cons s l ih =>
    intro x ht
    have e : inl (s :: l) t = (ins s t || inl l t) := rfl
    simp only [tk]
    by_cases c : vs s = true
    · rw [if_pos c, ih _ (by rw [mark_len]; exact ht)]
      have hv : s.f0 ≥ 0 ∧ s.f1 ≤ 1000 ∧ s.f0 < s.f1 := by
        unfold vs at c
        exact of_decide_eq_true c
      rw [mark_get t h0 _ _ _ (by omega) ht, e, Bool.or_assoc]
      have e2 : (decide (s.f0 ≤ t) && decide (t < s.f0 + ((s.f1 - s.f0).toNat : Int))) = ins s t := by
        unfold ins
        rw [c, Bool.true_and, ← Bool.decide_and, ← Bool.decide_and]
        exact decide_eq_decide.2 (by omega)
      rw [e2]
    · rw [if_neg c, ih _ ht, e]
      have e2 : ins s t = false := by
        unfold ins
        rw [Bool.eq_false_iff.2 c]
        rfl
      rw [e2, Bool.false_or]
theorem iInner (l : List S82) (i f0 b : Int) (r : List Bool) : ∀ (d : Nat) (x : List Bool) (a : Int), 0 ≤ a → b - a = d → b ≤ (x.length : Int) → x.length ≤ 1000 → 0 ≤ i → i < (l.length : Int) → l.length ≤ 2097152 →
    Ev (fun k => impl_ticks.l0 k (mark x a d) l (l.length : Int) (i + 1)) r → Ev (fun k => impl_ticks.l1 k x a l (l.length : Int) i f0 b) r := by
  intro d
  induction d with
  | zero =>
    intro x a h0 hd hb hx hi0 hi1 hl h
    refine K.succ ?_
    simp only [impl_ticks.l1]
    rw [K.wr (x := i + 1) (by omega) (by omega)]
    exact K.neg (by omega) h
  | succ d ih =>
    intro x a h0 hd hb hx hi0 hi1 hl h
    refine K.succ ?_
    simp only [impl_ticks.l1]
    rw [K.wr (x := a + 1) (by omega) (by omega)]
    exact K.pos (by omega) (K.pos h0 (K.pos (by omega) (ih (x.set a.toNat true) (a + 1) (by omega) (by omega) (by simp; omega) (by simp; omega) hi0 hi1 hl h)))
theorem iTicks (l : List S82) (hl : l.length ≤ 2097152) : ∀ (d : Nat) (i : Int) (x : List Bool), 0 ≤ i → (l.length : Int) - i = d → x.length = 1000 → Ev (fun k => impl_ticks.l0 k x l (l.length : Int) i) (tk (l.drop i.toNat) x) := by
  intro d
  induction d with
  | zero =>
    intro i x h0 hd hx
    refine K.succ ?_
    simp only [impl_ticks.l0]
    rw [List.drop_eq_nil_of_le (by omega)]
    exact K.neg (by omega) (Ev.now _)
  | succ d ih =>
    intro i x h0 hd hx
    refine K.succ ?_
    simp only [impl_ticks.l0, iVs]
    rw [K.wr (x := i + 1) (by omega) (by omega), rdDrop l i h0 (by omega)]
    refine K.pos (by omega) (K.pos h0 (K.pos (by omega) (K.known rfl ?_)))
    simp only [tk]
    by_cases c : vs (rd_T82 l i) = true
    · rw [if_pos c]
      have hv : (rd_T82 l i).f0 ≥ 0 ∧ (rd_T82 l i).f1 ≤ 1000 ∧ (rd_T82 l i).f0 < (rd_T82 l i).f1 := by
        unfold vs at c
        exact of_decide_eq_true c
      refine K.pos c (iInner l i _ _ _ ((rd_T82 l i).f1 - (rd_T82 l i).f0).toNat x _ (by omega) (by omega) (by omega) (by omega) h0 (by omega) hl ?_)
      exact ih (i + 1) _ (by omega) (by omega) (by rw [mark_len]; exact hx)
    · rw [if_neg c]
      exact K.neg c (ih (i + 1) _ (by omega) (by omega) hx)
theorem ticksOf (l : List S82) (hl : l.length ≤ 2097152) : ∃ x : List Bool, Ev (fun k => impl_ticks.f k l) x ∧ x.length = 1000 ∧ ∀ t, 0 ≤ t → t < 1000 → rdOf false x t = inl l t := by
  refine ⟨tk l (List.replicate 1000 false), ?_, ?_, ?_⟩
  · unfold impl_ticks.f
    exact K.pos (by omega) (iTicks l hl l.length 0 _ (by omega) (by omega) (List.length_replicate ..))
  · rw [tk_len, List.length_replicate]
  · intro t h0 h1
    rw [tk_get t h0 _ _ (by rw [List.length_replicate]; omega)]
    have e : rdOf false (List.replicate 1000 false) t = false := by
      simp only [rdOf, List.getD_eq_getElem?_getD, List.getElem?_replicate]
      split <;> rfl
    rw [e, Bool.false_or]
theorem whereRun (q : Nat → Int → Option Bool) (p : Int → Bool) (hi : Int) (hq : ∀ t, 0 ≤ t → t < mn hi 1000 → Ev (fun k => q k t) (p t)) : ∀ (d : Nat) (o : List S82) (t : Int), 0 ≤ t → (mn hi 1000 - t).toNat = d → o.length + d ≤ 7000000000000 → Ev (fun k => sw.l0 q k hi o t) (run p o t d) := by
  intro d
  have hm : mn hi 1000 ≤ 1000 := by unfold mn; split <;> omega
  induction d with
  | zero =>
    intro o t h0 hd ho
    refine K.succ ?_
    simp only [sw.l0, run]
    exact K.neg (by omega) (Ev.now _)
  | succ d ih =>
    intro o t h0 hd ho
    refine K.succ ?_
    simp only [sw.l0, run]
    have w0 : wrap64 (t + 1) = t + 1 := K.wr (by omega) (by omega)
    have w1 : wrap64 ((o.length : Int) - 1) = (o.length : Int) - 1 := K.wr (by omega) (by omega)
    rw [w0, w1]
    refine K.pos (by omega) (Ev.bind (hq t h0 (by omega)) ?_)
    by_cases c : p t = true
    · refine K.pos c ?_
      rw [if_pos c]
      have hp := put_len o t
      have ih' := ih (put o t) (t + 1) (by omega) (by omega)
      unfold put at ih' ⊢
      by_cases c1 : (o.length : Int) > 0
      · rw [if_pos c1] at ih' ⊢
        refine K.pos (by omega) (K.pos (by omega) (K.pos (by omega) ?_))
        by_cases c2 : (rd_T82 o ((o.length : Int) - 1)).f1 = t
        · rw [if_pos c2] at ih' ⊢
          refine K.pos c2 ?_
          rw [c2, w0]
          exact ih' (by simp; omega)
        · rw [if_neg c2] at ih' ⊢
          refine K.neg c2 (K.pos (by omega) (ih' (by simp; omega)))
      · rw [if_neg c1] at ih' ⊢
        refine K.neg (by omega) (K.pos (by omega) (ih' (by simp; omega)))
    · refine K.neg c ?_
      rw [if_neg c]
      exact ih o (t + 1) (by omega) (by omega) (by omega)
theorem inl_app (a b : List S82) (t : Int) : inl (a ++ b) t = (inl a t || inl b t) := by
  unfold inl
  rw [List.any_append]
theorem put_snoc (o : List S82) (t : Int) : (∃ q r, o = q ++ [r] ∧ r.f1 = t ∧ put o t = q ++ [⟨r.f0, t + 1⟩]) ∨ put o t = o ++ [⟨t, t + 1⟩] := by
  rcases List.eq_nil_or_concat o with rfl | ⟨q, r, rfl⟩
  · exact .inr rfl
  · have hl : ((q ++ [r]).length : Int) - 1 = (q.length : Int) := by simp
    have hrd : rd_T82 (q ++ [r]) (q.length : Int) = r := by
      simp [rd_T82, List.getD_eq_getElem?_getD]
    simp only [List.concat_eq_append]
    unfold put
    rw [if_pos (by simp), hl, hrd]
    by_cases c : r.f1 = t
    · rw [if_pos c]
      refine .inl ⟨q, r, rfl, c, ?_⟩
      simp
    · rw [if_neg c]
      exact .inr rfl
theorem ins_one (s : S82) (t : Int) : inl [s] t = ins s t := by
  simp [inl]
theorem put_ok (o : List S82) (t u : Int) (h0 : 0 ≤ t) (h1 : t < 1000) (hv : ∀ s ∈ o, vs s = true) : (∀ s ∈ put o t, vs s = true) ∧ inl (put o t) u = (inl o u || decide (u = t)) := by
  rcases put_snoc o t with ⟨q, r, rfl, hr, e⟩ | e
  · have hvr := hv r (by simp)
    unfold vs at hvr
    have hvr := of_decide_eq_true hvr
    have hn : vs (⟨r.f0, t + 1⟩ : S82) = true := by
      unfold vs
      exact decide_eq_true ⟨hvr.1, by show t + 1 ≤ 1000; omega, by show r.f0 < t + 1; omega⟩
    refine ⟨?_, ?_⟩
    · rw [e]
      intro s hs
      rcases List.mem_append.1 hs with hs | hs
      · exact hv s (by simp [hs])
      · rw [List.mem_singleton] at hs
        subst hs
        exact hn
    · rw [e, inl_app, inl_app, ins_one, ins_one, Bool.or_assoc]
      congr 1
      unfold ins
      rw [hn, hv r (by simp), Bool.true_and, Bool.true_and, ← Bool.decide_and, ← Bool.decide_and, ← Bool.decide_or]
      exact decide_eq_decide.2 (by show r.f0 ≤ u ∧ u < t + 1 ↔ (r.f0 ≤ u ∧ u < r.f1) ∨ u = t; omega)
  · have hn : vs (⟨t, t + 1⟩ : S82) = true := by
      unfold vs
      exact decide_eq_true ⟨h0, by show t + 1 ≤ 1000; omega, by show t < t + 1; omega⟩
    refine ⟨?_, ?_⟩
    · rw [e]
      intro s hs
      rcases List.mem_append.1 hs with hs | hs
      · exact hv s hs
      · rw [List.mem_singleton] at hs
        subst hs
        exact hn
    · rw [e, inl_app, ins_one]
      congr 1
      unfold ins
      rw [hn, Bool.true_and, ← Bool.decide_and]
      exact decide_eq_decide.2 (by show t ≤ u ∧ u < t + 1 ↔ u = t; omega)
theorem run_ok (p : Int → Bool) (u : Int) : ∀ (d : Nat) (o : List S82) (t : Int), 0 ≤ t → t + d ≤ 1000 → (∀ s ∈ o, vs s = true) → (∀ s ∈ run p o t d, vs s = true) ∧ inl (run p o t d) u = (inl o u || (decide (t ≤ u ∧ u < t + d) && p u)) := by
  intro d
  induction d with
  | zero =>
    intro o t h0 h1 hv
    refine ⟨hv, ?_⟩
    rw [decide_eq_false (by omega)]
    simp [run]
  | succ d ih =>
    intro o t h0 h1 hv
    simp only [run]
    by_cases c : p t = true
    · rw [if_pos c]
      obtain ⟨v1, e1⟩ := put_ok o t u h0 (by omega) hv
      obtain ⟨v2, e2⟩ := ih (put o t) (t + 1) (by omega) (by omega) v1
      refine ⟨v2, ?_⟩
      rw [e2, e1, Bool.or_assoc]
      congr 1
      by_cases hu : u = t
      · subst hu
        rw [decide_eq_true rfl, decide_eq_true (show u ≤ u ∧ u < u + ((d + 1 : Nat) : Int) by omega), c]
        rfl
      · rw [decide_eq_false hu, Bool.false_or]
        congr 1
        exact decide_eq_decide.2 (by omega)
    · rw [if_neg c]
      obtain ⟨v2, e2⟩ := ih o (t + 1) (by omega) (by omega) hv
      refine ⟨v2, ?_⟩
      rw [e2]
      congr 1
      by_cases hu : u = t
      · subst hu
        rw [Bool.eq_false_iff.2 c, Bool.and_false, Bool.and_false]
      · congr 1
        exact decide_eq_decide.2 (by omega)
theorem inl_all (p : Int → Bool) (u : Int) (h0 : 0 ≤ u) (h1 : u < 1000) : inl (run p [] 0 1000) u = p u := by
  rw [(run_ok p u 1000 [] 0 (by omega) (by omega) (by simp)).2, decide_eq_true (by omega)]
  simp [inl]
def cutP (a b : List S82) (t : Int) : Bool := inl a t && !inl b t
theorem sCut (a b : List S82) (ha : a.length ≤ 2097152) (hb : b.length ≤ 2097152) (n : Int) (hn : n ≤ 1000) : ∀ (d : Nat) (o : List S82) (t : Int), 0 ≤ t → n - t = d → o.length + d ≤ 7000000000000 → Ev (fun k => spec_CutSpans.l0 k a b o n t) (run (cutP a b) o t d) := by
  intro d
  induction d with
  | zero =>
    intro o t h0 hd ho
    refine K.succ ?_
    simp only [spec_CutSpans.l0, run]
    exact K.neg (by omega) (Ev.now _)
  | succ d ih =>
    intro o t h0 hd ho
    refine K.succ ?_
    simp only [spec_CutSpans.l0, run]
    rw [K.wr (x := t + 1) (by omega) (by omega)]
    refine K.pos (by omega) (Ev.bind (sInl a ha t a.length 0 (by omega) (by omega)) ?_)
    rw [show a.drop (0 : Int).toNat = a from rfl]
    have hp := put_len o t
    by_cases c : inl a t = true
    · refine K.pos c (Ev.bind (sInl b hb t b.length 0 (by omega) (by omega)) ?_)
      rw [show b.drop (0 : Int).toNat = b from rfl]
      by_cases c2 : inl b t = true
      · rw [if_neg (by simp [cutP, c2])]
        exact K.pos c2 (ih o (t + 1) (by omega) (by omega) (by omega))
      · rw [if_pos (by simp [cutP, c, c2])]
        exact K.neg c2 (K.known (sPut o t h0 (by omega) (by omega)) (ih (put o t) (t + 1) (by omega) (by omega) (by omega)))
    · rw [if_neg (by simp [cutP, c])]
      exact K.neg c (ih o (t + 1) (by omega) (by omega) (by omega))
theorem cutBoth (a b : List S82) (ha : a.length ≤ 2097152) (hb : b.length ≤ 2097152) : Ev (fun k => spec_CutSpans.f k a b) (run (cutP a b) [] 0 1000) ∧ Ev (fun k => impl_CutSpans.f k a b) (run (cutP a b) [] 0 1000) := by
  refine ⟨?_, ?_⟩
  · unfold spec_CutSpans.f spec_l4Last.f
    refine Ev.bind (sLast a ha a.length 0 0 (by omega) (by omega)) ?_
    rw [show a.drop (0 : Int).toNat = a from rfl]
    obtain ⟨h1, h2, _⟩ := last_le a 0
    have h2' := h2 (by omega)
    have e : run (cutP a b) [] 0 1000 = run (cutP a b) [] 0 (last a 0).toNat := by
      rw [show (1000 : Nat) = (last a 0).toNat + (1000 - (last a 0).toNat) by omega, run_add]
      refine run_none _ _ _ _ (fun u hu => ?_)
      unfold cutP
      rw [beyond a u (by omega)]
      rfl
    rw [e]
    exact sCut a b ha hb (last a 0) h2' _ [] 0 (by omega) (by omega) (by simp; omega)
  · unfold impl_CutSpans.f
    obtain ⟨x, g1, g2, g3⟩ := ticksOf a ha
    obtain ⟨y, i1, i2, i3⟩ := ticksOf b hb
    refine Ev.bind g1 (Ev.bind i1 (Ev.bind (r := run (cutP a b) [] 0 1000) ?_ (Ev.now _)))
    unfold where_impl_CutSpans_1.f sw.f
    have hm : mn 1000 1000 = 1000 := by unfold mn; rfl
    have hx : mx 0 0 = 0 := by unfold mx; rfl
    rw [hx]
    refine whereRun (fun _ t => impl_CutSpans_1.f t x y) (cutP a b) 1000 (fun t h0 h1 => ?_) 1000 [] 0 (by omega) (by rw [hm]; rfl) (by simp)
    rw [hm] at h1
    unfold impl_CutSpans_1.f cutP
    rw [g2, i2, g3 t h0 h1, i3 t h0 h1]
    refine K.pos h0 (K.pos (by omega) ?_)
    by_cases c : inl a t = true
    · rw [c]
      exact K.pos rfl (K.pos (by omega) (Ev.now _))
    · rw [Bool.eq_false_iff.2 c]
      exact K.neg Bool.false_ne_true (Ev.now _)
theorem cut_cut (a b c : List S82) : run (cutP (run (cutP a b) [] 0 1000) c) [] 0 1000 = run (cutP a (b ++ c)) [] 0 1000 := by
  refine run_eq _ _ _ _ _ (fun u h0 h1 => ?_)
  unfold cutP
  rw [inl_all _ u h0 (by omega), inl_app, Bool.not_or, Bool.and_assoc]
theorem concat2 (a b : List S82) (ha : a.length ≤ 2097152) (hb : b.length ≤ 2097152) : Ev (fun k => impl_Span_70.f k [a, b]) (a ++ b) := by
  unfold impl_Span_70.f
  have r0 : rd_L6 [a, b] 0 = a := rfl
  have r1 : rd_L6 [a, b] 1 = b := rfl
  have hl : (([a, b] : List (List S82)).length : Int) = 2 := rfl
  have w0 : wrap64 (0 + (a.length : Int)) = (a.length : Int) := by
    rw [K.wr (by omega) (by omega)]
    omega
  have w1 : wrap64 ((a.length : Int) + (b.length : Int)) = (a.length : Int) + (b.length : Int) := K.wr (by omega) (by omega)
  have w2 : wrap64 (0 + 1) = 1 := K.wr (x := 0 + 1) (by omega) (by omega)
  have w3 : wrap64 (1 + 1) = 2 := K.wr (x := 1 + 1) (by omega) (by omega)
  have hg : grow103.f ((a.length : Int) + (b.length : Int)) = some [] := by
    unfold grow103.f
    rw [if_pos (by omega)]
  rw [hl]
  refine K.succ ?_
  simp only [impl_Span_70.l0, r0, w0, w2]
  refine K.pos (by decide) (K.pos (by decide) (K.pos (by rw [hl]; decide) (K.neg (by omega) (K.succ ?_))))
  simp only [impl_Span_70.l0, r1, w1, w3]
  refine K.pos (by decide) (K.pos (by decide) (K.pos (by rw [hl]; decide) (K.neg (by omega) (K.succ ?_))))
  simp only [impl_Span_70.l0]
  refine K.neg (by decide) (K.known hg ?_)
  rw [hl]
  refine K.succ ?_
  simp only [impl_Span_70.l1, r0, w2, List.nil_append]
  refine K.pos (by decide) (K.pos (by decide) (K.pos (by rw [hl]; decide) (K.pos (by simp; omega) (K.succ ?_))))
  simp only [impl_Span_70.l1, r1, w3]
  refine K.pos (by decide) (K.pos (by decide) (K.pos (by rw [hl]; decide) (K.pos (by omega) (K.succ ?_))))
  simp only [impl_Span_70.l1]
  exact K.neg (by decide) (Ev.now _)
theorem sJoin (l : List S82) (hl : l.length ≤ 2097152) (n : Int) (hn : n ≤ 1000) : ∀ (d : Nat) (o : List S82) (t : Int), 0 ≤ t → n - t = d → o.length + d ≤ 7000000000000 → Ev (fun k => spec_JoinSpans.l0 k l o n t) (run (inl l) o t d) := by
  intro d
  induction d with
  | zero =>
    intro o t h0 hd ho
    refine K.succ ?_
    simp only [spec_JoinSpans.l0, run]
    exact K.neg (by omega) (Ev.now _)
  | succ d ih =>
    intro o t h0 hd ho
    refine K.succ ?_
    simp only [spec_JoinSpans.l0, run]
    rw [K.wr (x := t + 1) (by omega) (by omega)]
    refine K.pos (by omega) (Ev.bind (sInl l hl t l.length 0 (by omega) (by omega)) ?_)
    rw [show l.drop (0 : Int).toNat = l from rfl]
    have hp := put_len o t
    by_cases c : inl l t = true
    · rw [if_pos c]
      exact K.pos c (K.known (sPut o t h0 (by omega) (by omega)) (ih (put o t) (t + 1) (by omega) (by omega) (by omega)))
    · rw [if_neg c]
      exact K.neg c (ih o (t + 1) (by omega) (by omega) (by omega))
theorem joinBoth (l : List S82) (hl : l.length ≤ 2097152) : Ev (fun k => spec_JoinSpans.f k l) (run (inl l) [] 0 1000) ∧ Ev (fun k => impl_JoinSpans.f k l) (run (inl l) [] 0 1000) := by
  refine ⟨?_, ?_⟩
  · unfold spec_JoinSpans.f spec_l4Last.f
    refine Ev.bind (sLast l hl l.length 0 0 (by omega) (by omega)) ?_
    rw [show l.drop (0 : Int).toNat = l from rfl]
    obtain ⟨h1, h2, _⟩ := last_le l 0
    have h2' := h2 (by omega)
    have e : run (inl l) [] 0 1000 = run (inl l) [] 0 (last l 0).toNat := by
      rw [show (1000 : Nat) = (last l 0).toNat + (1000 - (last l 0).toNat) by omega, run_add]
      refine run_none _ _ _ _ (fun u hu => beyond l u (by omega))
    rw [e]
    exact sJoin l hl (last l 0) h2' _ [] 0 (by omega) (by omega) (by simp; omega)
  · unfold impl_JoinSpans.f
    obtain ⟨x, g1, g2, g3⟩ := ticksOf l hl
    refine Ev.bind g1 (Ev.bind (r := run (inl l) [] 0 1000) ?_ (Ev.now _))
    unfold where_impl_JoinSpans_1.f sw.f
    have hm : mn 1000 1000 = 1000 := by unfold mn; rfl
    have hx : mx 0 0 = 0 := by unfold mx; rfl
    rw [hx]
    refine whereRun (fun _ t => impl_JoinSpans_1.f t x) (inl l) 1000 (fun t h0 h1 => ?_) 1000 [] 0 (by omega) (by rw [hm]; rfl) (by simp)
    rw [hm] at h1
    unfold impl_JoinSpans_1.f
    rw [g2]
    refine K.pos h0 (K.pos (by omega) ?_)
    rw [g3 t h0 h1]
    exact Ev.now _
theorem join (l : List S82) (hl : l.length ≤ 2097152) : ∃ r : List S82, r.length ≤ 1000 ∧ Ev (fun k => spec_JoinSpans.f k l) r ∧ Ev (fun k => impl_JoinSpans.f k l) r :=
  ⟨run (inl l) [] 0 1000, Nat.le_trans (run_len _ 1000 [] 0) (by simp), (joinBoth l hl).1, (joinBoth l hl).2⟩
theorem cloudRun (l : List S121) (hl : l.length ≤ 1048576) (n : Int) :
    ∀ (d : Nat) (o : List S82) (i : Int), 0 ≤ i → (l.length : Int) - i = d → o.length + d ≤ 1048576 → ∃ r : List S82, r.length ≤ 1000 ∧ Ev (fun k => spec_CloudSpans.l0 k l n o i) r ∧ Ev (fun k => impl_CloudSpans.l0 k n o l (l.length : Int) i) r := by
  intro d
  induction d with
  | zero =>
    intro o i h0 hd ho
    obtain ⟨r, hr, hs, hi⟩ := join o (by omega)
    refine ⟨r, hr, K.succ ?_, K.succ ?_⟩
    · simp only [spec_CloudSpans.l0]
      exact K.neg (by omega) (Ev.bind hs (Ev.now _))
    · simp only [impl_CloudSpans.l0]
      exact K.neg (by omega) (Ev.bind hi (Ev.now _))
  | succ d ih =>
    intro o i h0 hd ho
    have w1 : wrap64 (i + 1) = i + 1 := K.wr (by omega) (by omega)
    by_cases c : (rd_T121 l i).f0 = n
    · obtain ⟨r, hr, g1, g2⟩ := ih (o ++ [(⟨(rd_T121 l i).f1, (rd_T121 l i).f2⟩ : S82)]) (i + 1) (by omega) (by omega) (by simp; omega)
      refine ⟨r, hr, K.succ ?_, K.succ ?_⟩
      · simp only [spec_CloudSpans.l0, w1]
        exact K.pos (by omega) (K.pos h0 (K.pos c (K.pos (by omega) g1)))
      · simp only [impl_CloudSpans.l0, w1]
        exact K.pos (by omega) (K.pos h0 (K.pos (by omega) (K.pos c (K.pos (by omega) g2))))
    · obtain ⟨r, hr, g1, g2⟩ := ih o (i + 1) (by omega) (by omega) (by omega)
      refine ⟨r, hr, K.succ ?_, K.succ ?_⟩
      · simp only [spec_CloudSpans.l0, w1]
        exact K.pos (by omega) (K.pos h0 (K.neg c g1))
      · simp only [impl_CloudSpans.l0, w1]
        exact K.pos (by omega) (K.pos h0 (K.pos (by omega) (K.neg c g2)))
theorem clouds (l : List S121) (hl : l.length ≤ 1048576) (n : Int) : ∃ r : List S82, r.length ≤ 1000 ∧ Ev (fun k => spec_CloudSpans.f k l n) r ∧ Ev (fun k => impl_CloudSpans.f k l n) r :=
  cloudRun l hl n l.length [] 0 (by omega) (by omega) (by simp; omega)
def ofS (A B : Int) (s : S82) : S53 := ⟨A, B, s.f0, s.f1⟩
theorem sCcIn (pl : List S53) (cl : List S121) (i A B f t : Int) (l : List S82) (hl : l.length ≤ 1000) (hi : 0 ≤ i) (hi2 : i < 1048576) (v : List S53) : ∀ (d : Nat) (o : List S53) (j : Int), 0 ≤ j → (l.length : Int) - j = d → o.length + d ≤ 2000000000 →
    Ev (fun k => spec_CutClouds.l0 k pl cl (o ++ (l.drop j.toNat).map (ofS A B)) (i + 1)) v → Ev (fun k => spec_CutClouds.l1 k pl cl o i l j A B f t) v := by
  intro d
  induction d with
  | zero =>
    intro o j h0 hd ho h
    rw [List.drop_eq_nil_of_le (by omega), List.map_nil, List.append_nil] at h
    refine K.succ ?_
    simp only [spec_CutClouds.l1]
    rw [K.wr (x := i + 1) (by omega) (by omega)]
    exact K.neg (by omega) h
  | succ d ih =>
    intro o j h0 hd ho h
    refine K.succ ?_
    simp only [spec_CutClouds.l1]
    rw [K.wr (x := j + 1) (by omega) (by omega)]
    rw [rdDrop l j h0 (by omega), List.map_cons] at h
    refine K.pos (by omega) (K.pos h0 (K.pos (by omega) (ih _ (j + 1) (by omega) (by omega) (by simp; omega) ?_)))
    simpa [ofS] using h
theorem iCcIn (pl : List S53) (n : Int) (cl : List S121) (i A B f t : Int) (l : List S82) (hl : l.length ≤ 1000) (hi : 0 ≤ i) (hi2 : i < 1048576) (v : List S53) : ∀ (d : Nat) (o : List S53) (j : Int), 0 ≤ j → (l.length : Int) - j = d → o.length + d ≤ 2000000000 →
    Ev (fun k => impl_CutClouds.l0 k cl (o ++ (l.drop j.toNat).map (ofS A B)) pl n (i + 1)) v → Ev (fun k => impl_CutClouds.l1 k cl o pl n i l (l.length : Int) j A B f t) v := by
  intro d
  induction d with
  | zero =>
    intro o j h0 hd ho h
    rw [List.drop_eq_nil_of_le (by omega), List.map_nil, List.append_nil] at h
    refine K.succ ?_
    simp only [impl_CutClouds.l1]
    rw [K.wr (x := i + 1) (by omega) (by omega)]
    exact K.neg (by omega) h
  | succ d ih =>
    intro o j h0 hd ho h
    refine K.succ ?_
    simp only [impl_CutClouds.l1]
    rw [K.wr (x := j + 1) (by omega) (by omega)]
    rw [rdDrop l j h0 (by omega), List.map_cons] at h
    refine K.pos (by omega) (K.pos h0 (K.pos (by omega) (K.pos (by omega) (ih _ (j + 1) (by omega) (by omega) (by simp; omega) ?_))))
    simpa [ofS] using h
theorem cutCloudsL (pl : List S53) (cl : List S121) (hp : pl.length ≤ 1048576) (hc : cl.length ≤ 1048576) : ∀ (d : Nat) (o : List S53) (i : Int), 0 ≤ i → (pl.length : Int) - i = d → (o.length : Int) ≤ 1000 * i →
    ∃ v : List S53, v.length ≤ 1048576000 ∧ Ev (fun k => spec_CutClouds.l0 k pl cl o i) v ∧ Ev (fun k => impl_CutClouds.l0 k cl o pl (pl.length : Int) i) v := by
  intro d
  induction d with
  | zero =>
    intro o i h0 hd ho
    refine ⟨o, by omega, K.succ ?_, K.succ ?_⟩
    · simp only [spec_CutClouds.l0]
      exact K.neg (by omega) (Ev.now _)
    · simp only [impl_CutClouds.l0]
      exact K.neg (by omega) (Ev.now _)
  | succ d ih =>
    intro o i h0 hd ho
    obtain ⟨ra, ha, sa, ia⟩ := clouds cl hc (rd_T53 pl i).f0
    obtain ⟨rb, hb, sb, ib⟩ := clouds cl hc (rd_T53 pl i).f1
    obtain ⟨s1, _⟩ := cutBoth [⟨(rd_T53 pl i).f2, (rd_T53 pl i).f3⟩] ra (by simp) (by omega)
    have hl1 : (run (cutP [⟨(rd_T53 pl i).f2, (rd_T53 pl i).f3⟩] ra) [] 0 1000).length ≤ 1000 := Nat.le_trans (run_len _ 1000 [] 0) (by simp)
    obtain ⟨s2, _⟩ := cutBoth (run (cutP [⟨(rd_T53 pl i).f2, (rd_T53 pl i).f3⟩] ra) [] 0 1000) rb (by omega) (by omega)
    rw [cut_cut] at s2
    obtain ⟨_, i1⟩ := cutBoth [⟨(rd_T53 pl i).f2, (rd_T53 pl i).f3⟩] (ra ++ rb) (by simp) (by simp; omega)
    have hl2 : (run (cutP [⟨(rd_T53 pl i).f2, (rd_T53 pl i).f3⟩] (ra ++ rb)) [] 0 1000).length ≤ 1000 := Nat.le_trans (run_len _ 1000 [] 0) (by simp)
    have hcc := concat2 ra rb (by omega) (by omega)
    generalize run (cutP [⟨(rd_T53 pl i).f2, (rd_T53 pl i).f3⟩] (ra ++ rb)) [] 0 1000 = u at s2 i1 hl2
    obtain ⟨v, hv, g1, g2⟩ := ih (o ++ u.map (ofS (rd_T53 pl i).f0 (rd_T53 pl i).f1)) (i + 1) (by omega) (by omega) (by simp; omega)
    refine ⟨v, hv, K.succ ?_, K.succ ?_⟩
    · simp only [spec_CutClouds.l0]
      exact K.pos (by omega) (K.pos h0 (Ev.bind sa (Ev.bind s1 (Ev.bind sb (Ev.bind s2 (sCcIn pl cl i _ _ _ _ u hl2 h0 (by omega) v u.length o 0 (by omega) (by omega) (by omega) g1))))))
    · simp only [impl_CutClouds.l0]
      exact K.pos (by omega) (K.pos h0 (K.pos (by omega) (K.known rfl (Ev.bind ia (Ev.bind ib (Ev.bind hcc (Ev.bind i1 (iCcIn pl _ cl i _ _ _ _ u hl2 h0 (by omega) v u.length o 0 (by omega) (by omega) (by omega) g2))))))))
theorem cutClouds (pl : List S53) (cl : List S121) (hp : pl.length ≤ 1048576) (hc : cl.length ≤ 1048576) : ∃ v : List S53, v.length ≤ 1048576000 ∧ Ev (fun k => spec_CutClouds.f k pl cl) v ∧ Ev (fun k => impl_CutClouds.f k pl cl) v := by
  obtain ⟨v, hv, g1, g2⟩ := cutCloudsL pl cl hp hc pl.length [] 0 (by omega) (by omega) (by simp)
  exact ⟨v, hv, g1, g2⟩
theorem iIns (s : S82) (t : Int) : impl_InSpan.f s.f0 s.f1 t = some (ins s t) := by
  unfold impl_InSpan.f ins
  rw [iVs, Option.bind_some]
  cases vs s with
  | true =>
    rw [if_pos rfl]
    by_cases c : s.f0 ≤ t
    · rw [if_pos c]
      simp [c]
    · rw [if_neg c]
      simp [c]
  | false => rfl
theorem iInl (l : List S82) (hl : l.length ≤ 2097152) (t : Int) : ∀ (d : Nat) (i : Int), 0 ≤ i → (l.length : Int) - i = d → Ev (fun k => impl_InSpans.l0 k t l (l.length : Int) i) (inl (l.drop i.toNat) t) := by
  intro d
  induction d with
  | zero =>
    intro i h0 hd
    refine K.succ ?_
    simp only [impl_InSpans.l0]
    rw [List.drop_eq_nil_of_le (by omega)]
    exact K.neg (by omega) (Ev.now _)
  | succ d ih =>
    intro i h0 hd
    refine K.succ ?_
    simp only [impl_InSpans.l0, iIns]
    rw [K.wr (x := i + 1) (by omega) (by omega), rdDrop l i h0 (by omega)]
    refine K.pos (by omega) (K.pos h0 (K.pos (by omega) (K.known rfl ?_)))
    unfold inl
    rw [List.any_cons]
    cases ins (rd_T82 l i) t with
    | true => exact K.pos rfl (Ev.now _)
    | false => exact K.neg Bool.false_ne_true (ih (i + 1) (by omega) (by omega))
def wide (l : List S82) : Prop := ∀ s ∈ l, 0 ≤ s.f0 ∧ s.f0 ≤ s.f1 ∧ s.f1 ≤ 1000
theorem wput_snoc (o : List S82) (t : Int) : (∃ q r, o = q ++ [r] ∧ r.f1 = t ∧ put o t = q ++ [⟨r.f0, t + 1⟩]) ∨ put o t = o ++ [⟨t, t + 1⟩] := by
  rcases List.eq_nil_or_concat o with rfl | ⟨q, r, rfl⟩
  · exact .inr rfl
  · have hl : ((q ++ [r]).length : Int) - 1 = (q.length : Int) := by simp
    have hrd : rd_T82 (q ++ [r]) (q.length : Int) = r := by
      simp [rd_T82, List.getD_eq_getElem?_getD]
    simp only [List.concat_eq_append]
    unfold put
    rw [if_pos (by simp), hl, hrd]
    by_cases c : r.f1 = t
    · rw [if_pos c]
      refine .inl ⟨q, r, rfl, c, ?_⟩
      simp
    · rw [if_neg c]
      exact .inr rfl
theorem wide_put (o : List S82) (t : Int) (h0 : 0 ≤ t) (h1 : t < 1000) (h : wide o) : wide (put o t) := by
  rcases wput_snoc o t with ⟨q, r, rfl, hr, e⟩ | e
  · rw [e]
    intro s hs
    rcases List.mem_append.1 hs with hs | hs
    · exact h s (by simp [hs])
    · rw [List.mem_singleton] at hs
      subst hs
      have := h r (by simp)
      exact ⟨this.1, by show r.f0 ≤ t + 1; omega, by show t + 1 ≤ 1000; omega⟩
  · rw [e]
    intro s hs
    rcases List.mem_append.1 hs with hs | hs
    · exact h s hs
    · rw [List.mem_singleton] at hs
      subst hs
      exact ⟨h0, by show t ≤ t + 1; omega, by show t + 1 ≤ 1000; omega⟩
theorem wide_run (p : Int → Bool) : ∀ (d : Nat) (o : List S82) (t : Int), 0 ≤ t → t + d ≤ 1000 → wide o → wide (run p o t d) := by
  intro d
  induction d with
  | zero => intro o t _ _ h; exact h
  | succ d ih =>
    intro o t h0 h1 h
    simp only [run]
    refine ih _ _ (by omega) (by omega) ?_
    split
    · exact wide_put o t h0 (by omega) h
    · exact h
def tot (l : List S82) : Int := l.foldl (fun n s => n + (s.f1 - s.f0)) 0
theorem tot_app (a : List S82) : ∀ (b : List S82) (n : Int), (a ++ b).foldl (fun n s => n + (s.f1 - s.f0)) n = b.foldl (fun n s => n + (s.f1 - s.f0)) (a.foldl (fun n s => n + (s.f1 - s.f0)) n) := by
  intro b n
  rw [List.foldl_append]
def cnt (p : Int → Bool) (t : Int) : Nat → Int
  | 0 => 0
  | d + 1 => (if p t = true then 1 else 0) + cnt p (t + 1) d
theorem tot_put (o : List S82) (t : Int) : tot (put o t) = tot o + 1 := by
  unfold tot
  rcases wput_snoc o t with ⟨q, r, rfl, h, e⟩ | e
  · rw [e, tot_app, tot_app]
    simp only [List.foldl_cons, List.foldl_nil]
    omega
  · rw [e, tot_app]
    simp only [List.foldl_cons, List.foldl_nil]
    omega
theorem tot_run (p : Int → Bool) : ∀ (d : Nat) (o : List S82) (t : Int), tot (run p o t d) = tot o + cnt p t d := by
  intro d
  induction d with
  | zero => intro o t; simp [run, cnt]
  | succ d ih =>
    intro o t
    simp only [run, cnt, ih]
    split
    · rw [tot_put]
      omega
    · omega
theorem cnt_out (p : Int → Bool) : ∀ (n : Nat) (t : Int), (∀ u, t ≤ u → u < t + n → p u = false) → cnt p t n = 0 := by
  intro n
  induction n with
  | zero => intro t h; rfl
  | succ n ih =>
    intro t h
    simp only [cnt, h t (by omega) (by omega), Bool.false_eq_true, if_false]
    rw [ih (t + 1) (fun u h1 h2 => h u (by omega) (by omega))]
    omega
theorem cnt_in (p : Int → Bool) : ∀ (n : Nat) (t : Int), (∀ u, t ≤ u → u < t + n → p u = true) → cnt p t n = n := by
  intro n
  induction n with
  | zero => intro t h; rfl
  | succ n ih =>
    intro t h
    simp only [cnt, h t (by omega) (by omega), ↓reduceIte]
    rw [ih (t + 1) (fun u h1 h2 => h u (by omega) (by omega))]
    omega
theorem cnt_add (p : Int → Bool) : ∀ (n m : Nat) (t : Int), cnt p t (n + m) = cnt p t n + cnt p (t + n) m := by
  intro n
  induction n with
  | zero => intro m t; simp [cnt]
  | succ n ih =>
    intro m t
    rw [show n + 1 + m = (n + m) + 1 by omega]
    simp only [cnt]
    rw [ih, show t + 1 + (n : Int) = t + ((n + 1 : Nat) : Int) by omega]
    omega
theorem iIsSpan (a b : Int) : impl_IsSpan.f a b = some (decide (0 ≤ a ∧ b ≤ 1000 ∧ a < b)) := by
  unfold impl_IsSpan.f
  split <;> (try split) <;> first | (congr 1; exact decide_eq_decide.2 (by omega)) | (congr 1; exact (decide_eq_false (by omega)).symm)
theorem rdDropC (l : List S53) (i : Int) (h0 : 0 ≤ i) (h1 : i < (l.length : Int)) : l.drop i.toNat = rd_T53 l i :: l.drop (i + 1).toNat := by
  rw [List.drop_eq_getElem_cons (by omega), show (i + 1).toNat = i.toNat + 1 by omega]
  simp [rd_T53, List.getD_eq_getElem?_getD, List.getElem?_eq_getElem (show i.toNat < l.length by omega)]
def cutR (cs : Int → List S82) (x : S53) : List S82 := run (cutP [⟨x.f2, x.f3⟩] (cs x.f0 ++ cs x.f1)) [] 0 1000
def cutC (cs : Int → List S82) (x : S53) : List S53 := (cutR cs x).map (ofS x.f0 x.f1)
theorem cutE (pl : List S53) (cl : List S121) (cs : Int → List S82) (hcs : ∀ n, (cs n).length ≤ 1000 ∧ Ev (fun k => spec_CloudSpans.f k cl n) (cs n) ∧ Ev (fun k => impl_CloudSpans.f k cl n) (cs n)) (hp : pl.length ≤ 1048576) : ∀ (d : Nat) (o : List S53) (i : Int), 0 ≤ i → (pl.length : Int) - i = d → (o.length : Int) ≤ 1000 * i →
    Ev (fun k => spec_CutClouds.l0 k pl cl o i) (o ++ (pl.drop i.toNat).flatMap (cutC cs)) ∧ Ev (fun k => impl_CutClouds.l0 k cl o pl (pl.length : Int) i) (o ++ (pl.drop i.toNat).flatMap (cutC cs)) := by
  intro d
  induction d with
  | zero =>
    intro o i h0 hd ho
    rw [List.drop_eq_nil_of_le (by omega), List.flatMap_nil, List.append_nil]
    refine ⟨K.succ ?_, K.succ ?_⟩
    · simp only [spec_CutClouds.l0]
      exact K.neg (by omega) (Ev.now _)
    · simp only [impl_CutClouds.l0]
      exact K.neg (by omega) (Ev.now _)
  | succ d ih =>
    intro o i h0 hd ho
    obtain ⟨ha, sa, ia⟩ := hcs (rd_T53 pl i).f0
    obtain ⟨hb, sb, ib⟩ := hcs (rd_T53 pl i).f1
    rw [rdDropC pl i h0 (by omega), List.flatMap_cons]
    have he : cutC cs (rd_T53 pl i) = (run (cutP [⟨(rd_T53 pl i).f2, (rd_T53 pl i).f3⟩] (cs (rd_T53 pl i).f0 ++ cs (rd_T53 pl i).f1)) [] 0 1000).map (ofS (rd_T53 pl i).f0 (rd_T53 pl i).f1) := rfl
    rw [he]
    generalize cs (rd_T53 pl i).f0 = ra at ha sa ia
    generalize cs (rd_T53 pl i).f1 = rb at hb sb ib
    obtain ⟨s1, _⟩ := cutBoth [⟨(rd_T53 pl i).f2, (rd_T53 pl i).f3⟩] ra (by simp) (by omega)
    have hl1 : (run (cutP [⟨(rd_T53 pl i).f2, (rd_T53 pl i).f3⟩] ra) [] 0 1000).length ≤ 1000 := Nat.le_trans (run_len _ 1000 [] 0) (by simp)
    obtain ⟨s2, _⟩ := cutBoth (run (cutP [⟨(rd_T53 pl i).f2, (rd_T53 pl i).f3⟩] ra) [] 0 1000) rb (by omega) (by omega)
    rw [cut_cut] at s2
    obtain ⟨_, i1⟩ := cutBoth [⟨(rd_T53 pl i).f2, (rd_T53 pl i).f3⟩] (ra ++ rb) (by simp) (by simp; omega)
    have hl2 : (run (cutP [⟨(rd_T53 pl i).f2, (rd_T53 pl i).f3⟩] (ra ++ rb)) [] 0 1000).length ≤ 1000 := Nat.le_trans (run_len _ 1000 [] 0) (by simp)
    have hcc := concat2 ra rb (by omega) (by omega)
    generalize run (cutP [⟨(rd_T53 pl i).f2, (rd_T53 pl i).f3⟩] (ra ++ rb)) [] 0 1000 = u at s2 i1 hl2
    obtain ⟨g1, g2⟩ := ih (o ++ u.map (ofS (rd_T53 pl i).f0 (rd_T53 pl i).f1)) (i + 1) (by omega) (by omega) (by simp; omega)
    rw [List.append_assoc] at g1 g2
    refine ⟨K.succ ?_, K.succ ?_⟩
    · simp only [spec_CutClouds.l0]
      exact K.pos (by omega) (K.pos h0 (Ev.bind sa (Ev.bind s1 (Ev.bind sb (Ev.bind s2 (sCcIn pl cl i _ _ _ _ u hl2 h0 (by omega) _ u.length o 0 (by omega) (by omega) (by omega) g1))))))
    · simp only [impl_CutClouds.l0]
      exact K.pos (by omega) (K.pos h0 (K.pos (by omega) (K.known rfl (Ev.bind ia (Ev.bind ib (Ev.bind hcc (Ev.bind i1 (iCcIn pl _ cl i _ _ _ _ u hl2 h0 (by omega) _ u.length o 0 (by omega) (by omega) (by omega) g2))))))))
def spk (l : List S53) (a b t : Int) : Bool := l.any fun x => decide (x.f0 = a ∧ x.f1 = b) && ins ⟨x.f2, x.f3⟩ t
theorem speakE (l : List S53) (hl : l.length ≤ 2000000000) (a b t : Int) : ∀ (d : Nat) (i : Int), 0 ≤ i → (l.length : Int) - i = d →
    Ev (fun k => impl_CanSpeak.l0 k a b t l (l.length : Int) i) (spk (l.drop i.toNat) (mn a b) (mx a b) t) := by
  intro d
  induction d with
  | zero =>
    intro i h0 hd
    rw [List.drop_eq_nil_of_le (by omega)]
    refine K.succ ?_
    simp only [impl_CanSpeak.l0]
    exact K.neg (by omega) (Ev.now _)
  | succ d ih =>
    intro i h0 hd
    have w2 := Aside0.mk (K.wr (x := i + 1) (by omega) (by omega))
    have h2 := ih (i + 1) (by omega) (by omega)
    rw [rdDropC l i h0 (by omega)]
    have hi : ∀ s t2 u : Int, impl_InSpan.f s t2 u = some (ins ⟨s, t2⟩ u) := fun s t2 u => iIns ⟨s, t2⟩ u
    have e : spk (rd_T53 l i :: l.drop (i + 1).toNat) (mn a b) (mx a b) t = ((decide ((rd_T53 l i).f0 = mn a b ∧ (rd_T53 l i).f1 = mx a b) && ins ⟨(rd_T53 l i).f2, (rd_T53 l i).f3⟩ t) || spk (l.drop (i + 1).toNat) (mn a b) (mx a b) t) := by simp [spk]
    rw [e]
    refine K.succ ?_
    simp only [impl_CanSpeak.l0, impl_spanOf.f, hi, Option.bind_some, w2.out]
    refine K.pos (by omega) (K.pos h0 (K.pos (by omega) ?_))
    by_cases c1 : (rd_T53 l i).f0 = mn a b
    · by_cases c2 : (rd_T53 l i).f1 = mx a b
      · rw [decide_eq_true ⟨c1, c2⟩, Bool.true_and]
        refine K.pos c1 (K.pos c2 ?_)
        cases ins ⟨(rd_T53 l i).f2, (rd_T53 l i).f3⟩ t with
        | true => exact K.pos rfl (Ev.now _)
        | false => exact K.neg Bool.false_ne_true h2
      · rw [decide_eq_false (fun h => c2 h.2), Bool.false_and, Bool.false_or]
        exact K.pos c1 (K.neg c2 h2)
    · rw [decide_eq_false (fun h => c1 h.1), Bool.false_and, Bool.false_or]
      exact K.neg c1 h2
theorem any_and {α : Type} (q : Bool) (f : α → Bool) : ∀ (l : List α), (l.any fun x => f x && q) = (l.any f && q)
  | [] => by simp
  | x :: l => by
    rw [List.any_cons, List.any_cons, any_and q f l]
    cases f x <;> cases q <;> simp
theorem spk_cut (cs : Int → List S82) (pl : List S53) (a b t : Int) (h0 : 0 ≤ t) (h1 : t < 1000) : spk (pl.flatMap (cutC cs)) a b t = (spk pl a b t && !(inl (cs a) t || inl (cs b) t)) := by
  unfold spk
  rw [List.any_flatMap, ← any_and (!(inl (cs a) t || inl (cs b) t)) (fun x : S53 => decide (x.f0 = a ∧ x.f1 = b) && ins ⟨x.f2, x.f3⟩ t) pl]
  refine congrArg (fun f => List.any pl f) ?_
  funext x
  unfold cutC
  rw [List.any_map]
  by_cases c : x.f0 = a ∧ x.f1 = b
  · have e : ((fun y : S53 => decide (y.f0 = a ∧ y.f1 = b) && ins ⟨y.f2, y.f3⟩ t) ∘ ofS x.f0 x.f1) = fun s => ins s t := by
      funext s
      show (decide (x.f0 = a ∧ x.f1 = b) && ins ⟨s.f0, s.f1⟩ t) = ins s t
      rw [decide_eq_true c, Bool.true_and]
    rw [e, decide_eq_true c, Bool.true_and]
    show inl (cutR cs x) t = _
    unfold cutR
    rw [inl_all _ t h0 h1]
    unfold cutP
    rw [ins_one, inl_app, c.1, c.2]
  · have e : ((fun y : S53 => decide (y.f0 = a ∧ y.f1 = b) && ins ⟨y.f2, y.f3⟩ t) ∘ ofS x.f0 x.f1) = fun s => false := by
      funext s
      show (decide (x.f0 = a ∧ x.f1 = b) && ins ⟨s.f0, s.f1⟩ t) = false
      rw [decide_eq_false c, Bool.false_and]
    rw [e, decide_eq_false c, Bool.false_and, Bool.false_and]
    simp
def wid (x : S53) : Int := if 0 ≤ x.f2 ∧ x.f3 ≤ 1000 ∧ x.f2 < x.f3 then x.f3 - x.f2 else 0
theorem wid_le (x : S53) : 0 ≤ wid x ∧ wid x ≤ 1000 := by
  unfold wid
  split <;> omega
def ctk (l : List S53) : Int := (l.map wid).sum
theorem ctk_le : ∀ (l : List S53), 0 ≤ ctk l ∧ ctk l ≤ 1000 * l.length
  | [] => by simp [ctk]
  | x :: l => by
    have h := ctk_le l
    have hx := wid_le x
    have e : ctk (x :: l) = wid x + ctk l := by simp [ctk]
    rw [e, List.length_cons]
    omega
theorem ticksE (l : List S53) (hl : l.length ≤ 2000000000) : ∀ (d : Nat) (n i : Int), 0 ≤ i → (l.length : Int) - i = d → 0 ≤ n → n ≤ 1000 * i →
    Ev (fun k => impl_ContactTicks.l0 k n l (l.length : Int) i) (n + ctk (l.drop i.toNat)) := by
  intro d
  induction d with
  | zero =>
    intro n i h0 hd hn hi
    rw [List.drop_eq_nil_of_le (by omega), show ctk [] = 0 from rfl, Int.add_zero]
    refine K.succ ?_
    simp only [impl_ContactTicks.l0]
    exact K.neg (by omega) (Ev.now _)
  | succ d ih =>
    intro n i h0 hd hn hi
    have w2 := Aside0.mk (K.wr (x := i + 1) (by omega) (by omega))
    rw [rdDropC l i h0 (by omega), show ∀ (x : S53) q, ctk (x :: q) = wid x + ctk q from fun x q => by simp [ctk], ← Int.add_assoc]
    by_cases c : 0 ≤ (rd_T53 l i).f2 ∧ (rd_T53 l i).f3 ≤ 1000 ∧ (rd_T53 l i).f2 < (rd_T53 l i).f3
    · have hw : wid (rd_T53 l i) = (rd_T53 l i).f3 - (rd_T53 l i).f2 := by unfold wid; rw [if_pos c]
      rw [hw]
      have w5 := Aside0.mk (K.wr (x := (rd_T53 l i).f3 - (rd_T53 l i).f2) (by omega) (by omega))
      have w6 := Aside0.mk (K.wr (x := n + ((rd_T53 l i).f3 - (rd_T53 l i).f2)) (by omega) (by omega))
      have h2 := ih (n + ((rd_T53 l i).f3 - (rd_T53 l i).f2)) (i + 1) (by omega) (by omega) (by omega) (by omega)
      refine K.succ ?_
      simp only [impl_ContactTicks.l0, impl_spanOf.f, iIsSpan, Option.bind_some, decide_eq_true_eq, w2.out, w5.out, w6.out]
      exact K.pos (by omega) (K.pos h0 (K.pos (by omega) (K.pos c h2)))
    · have hw : wid (rd_T53 l i) = 0 := by unfold wid; rw [if_neg c]
      rw [hw, Int.add_zero]
      have h2 := ih n (i + 1) (by omega) (by omega) (by omega) (by omega)
      refine K.succ ?_
      simp only [impl_ContactTicks.l0, impl_spanOf.f, iIsSpan, Option.bind_some, decide_eq_true_eq, w2.out]
      exact K.pos (by omega) (K.pos h0 (K.pos (by omega) (K.neg c h2)))
theorem cnt_mono (p q : Int → Bool) (h : ∀ u, p u = true → q u = true) : ∀ (n : Nat) (t : Int), cnt p t n ≤ cnt q t n
  | 0, t => Int.le_refl _
  | n + 1, t => by
    have := cnt_mono p q h n (t + 1)
    simp only [cnt]
    by_cases c : p t = true
    · rw [if_pos c, if_pos (h t c)]
      omega
    · rw [if_neg c]
      split <;> omega
theorem cnt_wid (x : S53) : cnt (inl [⟨x.f2, x.f3⟩]) 0 1000 = wid x := by
  have hp : ∀ u, inl [(⟨x.f2, x.f3⟩ : S82)] u = decide ((0 ≤ x.f2 ∧ x.f3 ≤ 1000 ∧ x.f2 < x.f3) ∧ x.f2 ≤ u ∧ u < x.f3) := by
    intro u
    rw [ins_one]
    unfold ins vs
    rw [← Bool.decide_and, ← Bool.decide_and]
  unfold wid
  by_cases c : 0 ≤ x.f2 ∧ x.f3 ≤ 1000 ∧ x.f2 < x.f3
  · rw [if_pos c]
    have e : (1000 : Nat) = x.f2.toNat + ((x.f3 - x.f2).toNat + (1000 - x.f3).toNat) := by omega
    rw [e, cnt_add, cnt_add, cnt_out, cnt_in, cnt_out]
    · omega
    · intro u h1 h2
      rw [hp]
      exact decide_eq_false (by omega)
    · intro u h1 h2
      rw [hp]
      exact decide_eq_true (by omega)
    · intro u h1 h2
      rw [hp]
      exact decide_eq_false (by omega)
  · rw [if_neg c]
    exact cnt_out _ 1000 0 (fun u _ _ => by rw [hp]; exact decide_eq_false (fun h => c h.1))
theorem tot_wid (A B : Int) : ∀ (q : List S82) (n : Int), (∀ s ∈ q, vs s = true) → q.foldl (fun n s => n + (s.f1 - s.f0)) n = n + ctk (q.map (ofS A B))
  | [], n, h => by simp [ctk]
  | s :: q, n, h => by
    have hv := h s (by simp)
    unfold vs at hv
    have hv := of_decide_eq_true hv
    have ih := tot_wid A B q (n + (s.f1 - s.f0)) (fun s hs => h s (by simp [hs]))
    rw [List.foldl_cons, ih]
    have hw : wid (ofS A B s) = s.f1 - s.f0 := by
      unfold wid
      exact if_pos ⟨hv.1, hv.2⟩
    have e : ctk (List.map (ofS A B) (s :: q)) = wid (ofS A B s) + ctk (List.map (ofS A B) q) := by simp [ctk]
    rw [e, hw]
    omega
theorem cutR_ok (cs : Int → List S82) (x : S53) : ∀ s ∈ cutR cs x, vs s = true := (run_ok _ 0 1000 [] 0 (by omega) (by omega) (by simp)).1
theorem ctk_cut1 (cs : Int → List S82) (x : S53) : ctk (cutC cs x) ≤ wid x := by
  have h := tot_wid x.f0 x.f1 (cutR cs x) 0 (cutR_ok cs x)
  rw [Int.zero_add] at h
  unfold cutC
  rw [← h]
  have e : (cutR cs x).foldl (fun n s => n + (s.f1 - s.f0)) 0 = cnt (cutP [⟨x.f2, x.f3⟩] (cs x.f0 ++ cs x.f1)) 0 1000 := by
    unfold cutR
    have := tot_run (cutP [⟨x.f2, x.f3⟩] (cs x.f0 ++ cs x.f1)) 1000 [] 0
    rw [show tot ([] : List S82) = 0 from rfl, Int.zero_add] at this
    exact this
  rw [e, ← cnt_wid]
  refine cnt_mono _ _ (fun u hu => ?_) 1000 0
  unfold cutP at hu
  exact ((Bool.and_eq_true _ _).mp hu).1
theorem ctk_cut (cs : Int → List S82) : ∀ (pl : List S53), ctk (pl.flatMap (cutC cs)) ≤ ctk pl
  | [] => Int.le_refl _
  | x :: pl => by
    have ih := ctk_cut cs pl
    have h1 := ctk_cut1 cs x
    have e1 : ctk ((x :: pl).flatMap (cutC cs)) = ctk (cutC cs x) + ctk (pl.flatMap (cutC cs)) := by simp [ctk]
    have e2 : ctk (x :: pl) = wid x + ctk pl := by simp [ctk]
    rw [e1, e2]
    omega
theorem cutL_len (cs : Int → List S82) : ∀ (pl : List S53), (pl.flatMap (cutC cs)).length ≤ 1000 * pl.length
  | [] => by simp
  | x :: pl => by
    have ih := cutL_len cs pl
    have h1 : (cutR cs x).length ≤ 1000 := Nat.le_trans (run_len _ 1000 [] 0) (by simp)
    rw [List.flatMap_cons, List.length_append, List.length_cons]
    unfold cutC at ih ⊢
    rw [List.length_map]
    omega
def isC (x : S53) (n : Int) : Bool := decide (0 ≤ x.f0 ∧ x.f0 < x.f1 ∧ x.f1 < n ∧ 0 ≤ x.f2 ∧ x.f3 ≤ 1000 ∧ x.f2 < x.f3)
theorem iIsC (x : S53) (n : Int) : impl_IsContact.f x.f0 x.f1 x.f2 x.f3 n = some (isC x n) := by
  unfold impl_IsContact.f isC impl_spanOf.f
  simp only [iIsSpan, Option.bind_some]
  split <;> (try split) <;> (try split) <;> first | rfl | (congr 1; exact decide_eq_decide.2 (by omega)) | (congr 1; exact (decide_eq_false (by omega)).symm)
def cmp (a b : Int) : Int := if a < b then -1 else if b < a then 1 else 0
theorem compare (a b : Int) : cmp_Compare_int.f a b = some (cmp a b) := by
  unfold cmp_Compare_int.f cmp_isNaN_int.f cmp
  have h : ∀ x : Int, (x != x) = false := fun x => by simp
  simp only [h, Option.bind_some]
  rw [if_neg Bool.false_ne_true, if_neg Bool.false_ne_true]
  split
  · rfl
  · split <;> rfl
theorem or2 (a b : Int) : Ev (fun k => cmp_Or_int.f k [a, b]) (if a = 0 then b else a) := by
  unfold cmp_Or_int.f
  have e0 : rd [a, b] 0 = a := rfl
  have e1 : rd [a, b] 1 = b := rfl
  refine K.succ ?_
  simp only [cmp_Or_int.l0]
  refine K.pos (by simp) (K.pos (by omega) (K.pos (by simp) ?_))
  rw [e0]
  by_cases c : a = 0
  · rw [if_pos c]
    refine K.pos c (K.succ ?_)
    have w : wrap64 (0 + 1) = 1 := by unfold wrap64; omega
    simp only [cmp_Or_int.l0, w]
    refine K.pos (by simp) (K.pos (by omega) (K.pos (by simp) ?_))
    rw [e1]
    by_cases c2 : b = 0
    · refine K.pos c2 (K.succ ?_)
      have w2 : wrap64 (1 + 1) = 2 := by unfold wrap64; omega
      simp only [cmp_Or_int.l0, w2]
      rw [c2]
      exact K.neg (by simp) (Ev.now _)
    · exact K.neg c2 (Ev.now _)
  · rw [if_neg c]
    exact K.neg c (Ev.now _)
def bef (x y : S53) : Prop := x.f0 < y.f0 ∨ x.f0 = y.f0 ∧ (x.f1 < y.f1 ∨ x.f1 = y.f1 ∧ x.f3 < y.f2)
theorem bef_cmp (x y : S53) : bef x y ↔ ((if cmp x.f0 y.f0 = 0 then cmp x.f1 y.f1 else cmp x.f0 y.f0) < 0 ∨ (if cmp x.f0 y.f0 = 0 then cmp x.f1 y.f1 else cmp x.f0 y.f0) = 0 ∧ ¬ x.f3 ≥ y.f2) := by
  unfold bef cmp
  by_cases e0 : x.f0 = y.f0
  · rw [if_neg (show ¬ x.f0 < y.f0 by omega), if_neg (show ¬ y.f0 < x.f0 by omega), if_pos rfl]
    split
    · omega
    · split <;> omega
  · by_cases e1 : x.f0 < y.f0
    · rw [if_pos e1, if_neg (by decide)]
      omega
    · rw [if_neg e1, if_pos (show y.f0 < x.f0 by omega), if_neg (by decide)]
      omega
def okp (n : Int) : Option S53 → List S53 → Prop
  | _, [] => True
  | o, y :: q => isC y n = true ∧ (∀ x, o = some x → bef x y) ∧ okp n (some y) q
theorem planE (n : Int) : ∀ (q p : List S53), p.length + q.length ≤ 2000000000 → ∃ v : Bool, (v = true ↔ okp n p.getLast? q) ∧ Ev (fun k => impl_IsPlan.l0 k (p ++ q) n (p ++ q) ((p ++ q).length : Int) (p.length : Int)) v
  | [], p, hl => by
    refine ⟨true, by simp [okp], K.succ ?_⟩
    simp only [impl_IsPlan.l0]
    exact K.neg (by simp) (Ev.now _)
  | y :: q, p, hl => by
    simp at hl
    have w1 := Aside0.mk (K.wr (x := (p.length : Int) + 1) (by omega) (by omega))
    have w2 := Aside0.mk (K.wr (x := (p.length : Int) - 1) (by omega) (by omega))
    have hr : rd_T53 (p ++ y :: q) (p.length : Int) = y := by simp [rd_T53, List.getD_eq_getElem?_getD]
    have e2 : p ++ y :: q = (p ++ [y]) ++ q := by simp
    have e3 : (p.length : Int) + 1 = ((p ++ [y]).length : Int) := by simp
    have hlen : ((p ++ y :: q).length : Int) = (p.length : Int) + (q.length + 1) := by simp
    cases hc : isC y n with
    | false =>
      refine ⟨false, by simp [okp, hc], K.succ ?_⟩
      simp only [impl_IsPlan.l0, hr, iIsC, hc, Option.bind_some]
      exact K.pos (by omega) (K.pos (by omega) (K.pos (by omega) (K.neg Bool.false_ne_true (Ev.now _))))
    | true =>
      obtain ⟨v, hv, ih⟩ := planE n q (p ++ [y]) (by simp; omega)
      rw [← e2, ← e3] at ih
      rw [List.getLast?_concat] at hv
      rcases List.eq_nil_or_concat p with rfl | ⟨p', x, rfl⟩
      · refine ⟨v, by simp [okp, hc, hv], K.succ ?_⟩
        simp only [impl_IsPlan.l0, hr, iIsC, hc, Option.bind_some, w1.out]
        exact K.pos (by omega) (K.pos (by omega) (K.pos (by omega) (K.pos (by trivial) (K.pos (by simp) ih))))
      · have hrx : rd_T53 (p'.concat x ++ y :: q) (((p'.concat x).length : Int) - 1) = x := by
          have : ((p'.concat x).length : Int) - 1 = (p'.length : Int) := by simp
          rw [this]
          simp [rd_T53, List.getD_eq_getElem?_getD]
        have hpl : 0 < (p'.concat x).length := by simp
        have hg : (p'.concat x).getLast? = some x := by simp
        rw [hg]
        have k2 := or2 (cmp x.f0 y.f0) (cmp x.f1 y.f1)
        have k3 := bef_cmp x y
        generalize (if cmp x.f0 y.f0 = 0 then cmp x.f1 y.f1 else cmp x.f0 y.f0) = o at k2 k3
        by_cases c : bef x y
        · have k4 := k3.1 c
          refine ⟨v, by simp [okp, hc, hv, c], K.succ ?_⟩
          simp only [impl_IsPlan.l0, hr, iIsC, hc, Option.bind_some, w1.out, w2.out, hrx, compare]
          refine K.pos (by omega) (K.pos (by omega) (K.pos (by omega) (K.pos (by trivial) (K.neg (by omega) (K.pos (by omega) (K.pos (by omega) (Ev.bind k2 (K.neg (by omega) ?_))))))))
          rcases k4 with k4 | k4
          · exact K.neg (by omega) ih
          · exact K.pos k4.1 (K.neg k4.2 ih)
        · have k4 : ¬ (o < 0 ∨ o = 0 ∧ ¬ x.f3 ≥ y.f2) := fun h => c (k3.2 h)
          refine ⟨false, by simp [okp, hc, c], K.succ ?_⟩
          simp only [impl_IsPlan.l0, hr, iIsC, hc, Option.bind_some, w1.out, w2.out, hrx, compare]
          refine K.pos (by omega) (K.pos (by omega) (K.pos (by omega) (K.pos (by trivial) (K.neg (by omega) (K.pos (by omega) (K.pos (by omega) (Ev.bind k2 ?_)))))))
          by_cases c2 : o > 0
          · exact K.pos c2 (Ev.now _)
          · exact K.neg c2 (K.pos (by omega) (K.pos (by omega) (Ev.now _)))
theorem okp_out (n : Int) : ∀ (q : List S53) (o : Option S53), okp n o q → (∀ y ∈ q, isC y n = true) ∧ q.Pairwise bef ∧ ∀ x, o = some x → x.f2 < x.f3 → ∀ y ∈ q, bef x y
  | [], o, h => by simp
  | y :: q, o, h => by
    obtain ⟨h1, h2, h3⟩ := h
    obtain ⟨i1, i2, i3⟩ := okp_out n q (some y) h3
    have hy : y.f2 < y.f3 := by
      unfold isC at h1
      exact (of_decide_eq_true h1).2.2.2.2.2
    refine ⟨?_, List.pairwise_cons.2 ⟨i3 y rfl hy, i2⟩, ?_⟩
    · intro z hz
      rcases List.mem_cons.1 hz with rfl | hz
      · exact h1
      · exact i1 z hz
    · intro x hx hxx z hz
      rcases List.mem_cons.1 hz with rfl | hz
      · exact h2 x hx
      · have a := h2 x hx
        have b := i3 y rfl hy z hz
        unfold bef at a b ⊢
        omega
theorem okp_in (n : Int) : ∀ (q : List S53) (o : Option S53), (∀ y ∈ q, isC y n = true) → q.Pairwise bef → (∀ x, o = some x → ∀ y ∈ q, bef x y) → okp n o q
  | [], o, _, _, _ => trivial
  | y :: q, o, h1, h2, h3 => by
    rw [List.pairwise_cons] at h2
    exact ⟨h1 y (by simp), fun x hx => h3 x hx y (by simp), okp_in n q (some y) (fun z hz => h1 z (by simp [hz])) h2.2 (fun x hx z hz => by cases hx; exact h2.1 z hz)⟩
theorem put_apart (o : List S82) (t : Int) (hp : o.Pairwise fun a b => a.f1 < b.f0) (hv : ∀ s ∈ o, vs s = true) (ht : ∀ s ∈ o, s.f1 ≤ t) : (put o t).Pairwise (fun a b => a.f1 < b.f0) ∧ ∀ s ∈ put o t, s.f1 ≤ t + 1 := by
  have hb : ∀ s ∈ o, s.f0 < s.f1 := by
    intro s hs
    have := hv s hs
    unfold vs at this
    exact (of_decide_eq_true this).2.2
  rcases List.eq_nil_or_concat o with rfl | ⟨q, r, rfl⟩
  · have e : put ([] : List S82) t = [⟨t, t + 1⟩] := by
      unfold put
      simp
    rw [e]
    simp
  · rw [List.concat_eq_append] at hp hv ht hb ⊢
    obtain ⟨hp1, _, hp3⟩ := List.pairwise_append.1 hp
    have hl : ((q ++ [r]).length : Int) - 1 = (q.length : Int) := by simp
    have hrd : rd_T82 (q ++ [r]) (q.length : Int) = r := by
      simp [rd_T82, List.getD_eq_getElem?_getD]
    unfold put
    rw [if_pos (by simp), hl, hrd]
    by_cases c : r.f1 = t
    · rw [if_pos c]
      have e : (q ++ [r]).set (q.length : Int).toNat ⟨r.f0, t + 1⟩ = q ++ [⟨r.f0, t + 1⟩] := by simp
      rw [e]
      refine ⟨List.pairwise_append.2 ⟨hp1, by simp, ?_⟩, ?_⟩
      · intro a ha b hb2
        rw [List.mem_singleton] at hb2
        subst hb2
        exact hp3 a ha r (by simp)
      · intro s hs
        rcases List.mem_append.1 hs with hs | hs
        · have := ht s (by simp [hs]); omega
        · rw [List.mem_singleton] at hs
          subst hs
          exact Int.le_refl _
    · rw [if_neg c]
      refine ⟨List.pairwise_append.2 ⟨hp, by simp, ?_⟩, ?_⟩
      · intro a ha b hb2
        rw [List.mem_singleton] at hb2
        subst hb2
        show a.f1 < t
        rcases List.mem_append.1 ha with ha | ha
        · have h1 := hp3 a ha r (by simp)
          have h2 := hb r (by simp)
          have h3 := ht r (by simp)
          omega
        · rw [List.mem_singleton] at ha
          subst ha
          have := ht a (by simp)
          omega
      · intro s hs
        rcases List.mem_append.1 hs with hs | hs
        · have := ht s hs; omega
        · rw [List.mem_singleton] at hs
          subst hs
          exact Int.le_refl _
theorem run_apart (p : Int → Bool) : ∀ (d : Nat) (o : List S82) (t : Int), 0 ≤ t → t + d ≤ 1000 → (o.Pairwise fun a b => a.f1 < b.f0) → (∀ s ∈ o, vs s = true) → (∀ s ∈ o, s.f1 ≤ t) → (run p o t d).Pairwise (fun a b => a.f1 < b.f0)
  | 0, o, t, _, _, hp, _, _ => hp
  | d + 1, o, t, h0, h1, hp, hv, ht => by
    simp only [run]
    by_cases c : p t = true
    · rw [if_pos c]
      obtain ⟨a, b⟩ := put_apart o t hp hv ht
      exact run_apart p d _ _ (by omega) (by omega) a (put_ok o t 0 h0 (by omega) hv).1 b
    · rw [if_neg c]
      exact run_apart p d _ _ (by omega) (by omega) hp hv (fun s hs => by have := ht s hs; omega)
theorem cutR_in (cs : Int → List S82) (x : S53) : ∀ s ∈ cutR cs x, x.f2 ≤ s.f0 ∧ s.f1 ≤ x.f3 := by
  intro s hs
  have hv := cutR_ok cs x s hs
  have hv' := hv
  unfold vs at hv'
  have hv' := of_decide_eq_true hv'
  have key : ∀ u, s.f0 ≤ u → u < s.f1 → x.f2 ≤ u ∧ u < x.f3 := by
    intro u h0 h1
    have hi : inl (cutR cs x) u = true := by
      unfold inl
      rw [List.any_eq_true]
      refine ⟨s, hs, ?_⟩
      unfold ins
      rw [hv, decide_eq_true h0, decide_eq_true h1]
      rfl
    unfold cutR at hi
    rw [inl_all _ u (by omega) (by omega)] at hi
    unfold cutP at hi
    have hi := ((Bool.and_eq_true _ _).mp hi).1
    rw [ins_one] at hi
    unfold ins at hi
    have hi := ((Bool.and_eq_true _ _).mp hi).2
    have hi := (Bool.and_eq_true _ _).mp hi
    exact ⟨of_decide_eq_true hi.1, of_decide_eq_true hi.2⟩
  have a := key s.f0 (by omega) (by omega)
  have b := key (s.f1 - 1) (by omega) (by omega)
  omega
theorem plan_cut (cs : Int → List S82) (n : Int) (pl : List S53) (h : okp n none pl) : okp n none (pl.flatMap (cutC cs)) := by
  obtain ⟨h1, h2, _⟩ := okp_out n pl none h
  refine okp_in n _ none ?_ ?_ (by simp)
  · intro y hy
    obtain ⟨x, hx, hy⟩ := List.mem_flatMap.1 hy
    unfold cutC at hy
    obtain ⟨s, hs, rfl⟩ := List.mem_map.1 hy
    have a := h1 x hx
    have b := cutR_ok cs x s hs
    unfold isC at a ⊢
    unfold vs at b
    have a := of_decide_eq_true a
    have b := of_decide_eq_true b
    exact decide_eq_true ⟨a.1, a.2.1, a.2.2.1, b.1, b.2⟩
  · rw [List.pairwise_flatMap]
    refine ⟨?_, ?_⟩
    · intro x hx
      unfold cutC
      rw [List.pairwise_map]
      refine (run_apart _ 1000 [] 0 (by omega) (by omega) (by simp) (by simp) (by simp)).imp ?_
      intro a b hab
      exact .inr ⟨rfl, .inr ⟨rfl, hab⟩⟩
    · refine h2.imp ?_
      intro x y hxy a ha b hb
      unfold cutC at ha hb
      obtain ⟨s, hs, rfl⟩ := List.mem_map.1 ha
      obtain ⟨t, ht, rfl⟩ := List.mem_map.1 hb
      have p := cutR_in cs x s hs
      have q := cutR_in cs y t ht
      unfold bef at hxy ⊢
      show x.f0 < y.f0 ∨ x.f0 = y.f0 ∧ (x.f1 < y.f1 ∨ x.f1 = y.f1 ∧ s.f1 < t.f0)
      omega
theorem and255 (n : Int) : Go.bits .and .i64 n 255 = n % 256 := by
  have h255 : (BitVec.ofInt 64 255).toNat = 2 ^ 8 - 1 := by decide
  have key : (BitVec.ofInt 64 n &&& BitVec.ofInt 64 255).toNat = (n % ((2 ^ 64 : Nat) : Int)).toNat % 2 ^ 8 := by
    rw [BitVec.toNat_and, BitVec.toNat_ofInt, h255, Nat.and_two_pow_sub_one_eq_mod]
  show IntKind.i64.wrap ((BitVec.ofInt 64 n &&& BitVec.ofInt 64 255).toNat : Nat) = n % 256
  rw [key, IntKind.wrap_i64]
  omega
theorem l1New (l : List Int) (hl : l.length ≤ 1048576) : ∃ h, Ev (fun k => spec_l1New.f k l) (l, 0, h) := by
  have loop : ∀ (d : Nat) (h i : Int), 0 ≤ i → (l.length : Int) - i = d → ∃ h', Ev (fun k => spec_l1New.l0 k l h i) (l, 0, h') := by
    intro d
    induction d with
    | zero =>
      intro h i h0 hd
      refine ⟨h, K.succ ?_⟩
      simp only [spec_l1New.l0]
      exact K.neg (by omega) (Ev.now _)
    | succ d ih =>
      intro h i h0 hd
      by_cases c : i < 4000
      · obtain ⟨h', g⟩ := ih (Go.bits .and .i64 (wrap64 ((wrap64 ((wrap64 (h * 137)) + (wrap64 (rd l i)))) + 11)) 1073741823) (i + 1) (by omega) (by omega)
        refine ⟨h', K.succ ?_⟩
        simp only [spec_l1New.l0]
        rw [K.wr (x := i + 1) (by omega) (by omega)]
        exact K.pos (by omega) (K.pos c (K.pos h0 g))
      · refine ⟨h, K.succ ?_⟩
        simp only [spec_l1New.l0]
        exact K.pos (by omega) (K.neg c (Ev.now _))
  unfold spec_l1New.f
  exact loop l.length _ 0 (by omega) (by omega)
theorem l1Byte (l : List Int) (hl : l.length ≤ 1048576) (i h : Int) (h0 : 0 ≤ i) (h1 : i ≤ (l.length : Int)) :
    ∃ v i' h', spec_l1Byte.f l i h = some (v, i', h') ∧ 0 ≤ v ∧ v ≤ 255 ∧ 0 ≤ i' ∧ i' ≤ (l.length : Int) := by
  unfold spec_l1Byte.f
  simp only [and255]
  by_cases c : i < (l.length : Int)
  · rw [if_pos c, if_pos h0, K.wr (x := i + 1) (by omega) (by omega)]
    exact ⟨_, _, _, rfl, by omega, by omega, by omega, by omega⟩
  · rw [if_neg c]
    exact ⟨_, _, _, rfl, by omega, by omega, h0, h1⟩
theorem l1Below (l : List Int) (hl : l.length ≤ 1048576) (i h : Int) (h0 : 0 ≤ i) (h1 : i ≤ (l.length : Int)) (n : Int) (hn : 0 < n) (hn2 : n ≤ 256) :
    ∃ v i' h', spec_l1Below.f l i h n = some (v, i', h') ∧ 0 ≤ v ∧ v < n ∧ 0 ≤ i' ∧ i' ≤ (l.length : Int) := by
  obtain ⟨v, i', h', e, a, b, c, d⟩ := l1Byte l hl i h h0 h1
  refine ⟨Int.tmod v n, i', h', ?_, Int.tmod_nonneg _ a, Int.tmod_lt_of_pos _ hn, c, d⟩
  unfold spec_l1Below.f
  rw [if_neg (by omega), if_pos hn2, e]
  simp only [Option.bind_some]
  rw [if_neg (by omega)]
theorem l1Once (l : List Int) (hl : l.length ≤ 1048576) (i h : Int) (h0 : 0 ≤ i) (h1 : i ≤ (l.length : Int)) (n : Int) (hn : 0 < n) (hn2 : n ≤ 256) :
    ∃ v i' h', spec_l1Once.f l i h n = some (v, i', h') ∧ 0 ≤ i' ∧ i' ≤ (l.length : Int) := by
  obtain ⟨v, i', h', e, a, b, c, d⟩ := l1Below l hl i h h0 h1 n hn hn2
  refine ⟨v == 0, i', h', ?_, c, d⟩
  unfold spec_l1Once.f
  rw [e]
  rfl
theorem l1Int (l : List Int) (hl : l.length ≤ 1048576) (i h : Int) (h0 : 0 ≤ i) (h1 : i ≤ (l.length : Int)) (xs : List Int) (hn : 0 < (xs.length : Int)) (hn2 : (xs.length : Int) ≤ 256) :
    ∃ v i' h', spec_l1Int.f l i h xs = some (v, i', h') ∧ v ∈ xs ∧ 0 ≤ i' ∧ i' ≤ (l.length : Int) := by
  obtain ⟨v, i', h', e, a, b, c, d⟩ := l1Below l hl i h h0 h1 _ hn hn2
  refine ⟨rd xs v, i', h', ?_, ?_, c, d⟩
  · unfold spec_l1Int.f
    rw [e]
    simp only [Option.bind_some]
    rw [if_pos a, if_pos b]
  · simp only [rd, List.getD_eq_getElem?_getD, List.getElem?_eq_getElem (show v.toNat < xs.length by omega), Option.getD_some]
    exact List.getElem_mem _
theorem l4Raw (l : List Int) (hl : l.length ≤ 1048576) (i h : Int) (h0 : 0 ≤ i) (h1 : i ≤ (l.length : Int)) : ∃ v i' h', spec_l4Raw.f l i h = some (v, i', h') ∧ 0 ≤ i' ∧ i' ≤ (l.length : Int) := by
  obtain ⟨b, i1, g1, e1, p1, q1⟩ := l1Once l hl i h h0 h1 6 (by omega) (by omega)
  unfold spec_l4Raw.f
  rw [e1, Option.bind_some]
  cases b with
  | true =>
    obtain ⟨v, i2, g2, e2, m2, p2, q2⟩ := l1Int l hl i1 g1 p1 q1 [(-1), 0, 1000, 1001, 9223372036854775807, (-9223372036854775808)] (by decide) (by decide)
    refine ⟨v, i2, g2, ?_, p2, q2⟩
    dsimp only
    rw [if_pos rfl, e2]
    rfl
  | false =>
    obtain ⟨v, i2, g2, e2, _, _, p2, q2⟩ := l1Below l hl i1 g1 p1 q1 40 (by omega) (by omega)
    refine ⟨v, i2, g2, ?_, p2, q2⟩
    dsimp only
    rw [if_neg Bool.false_ne_true, e2]
    rfl
theorem minI (a b : Int) : ∃ v, spec_Min.f a b = some v ∧ v ≤ a ∧ v ≤ b ∧ (v = a ∨ v = b) := by
  unfold spec_Min.f
  split
  · exact ⟨b, rfl, by omega, by omega, .inr rfl⟩
  · exact ⟨a, rfl, by omega, by omega, .inl rfl⟩
theorem plan2 (l : List Int) (hl : l.length ≤ 1048576) (a b : Int) (hb0 : 0 ≤ b) (hb : b ≤ 4) : ∀ (n : Nat) (t : Int) (out : List S53) (i h : Int), 0 ≤ i → i ≤ (l.length : Int) → 0 ≤ t → t ≤ 100 → n ≤ 2 → out.length + n ≤ 200 → ∃ (out' : List S53) (i' h' : Int), out'.length ≤ out.length + n ∧ 0 ≤ i' ∧ i' ≤ (l.length : Int) ∧ ∀ r, Ev (fun k => spec_l11Plan.l1 k 4 20 out' a (b + 1) l i' h') r → Ev (fun k => spec_l11Plan.l2 k 4 20 out a b t (n : Int) l i h) r := by
  intro n
  induction n with
  | zero =>
    intro t out i h h0 h1 t0 t1 hn ho
    have w1 := Aside0.mk (K.wr (x := b + 1) (by omega) (by omega))
    refine ⟨out, i, h, by omega, h0, h1, fun r g => K.succ ?_⟩
    simp only [spec_l11Plan.l2]
    refine K.neg (by omega) (K.succ ?_)
    simp only [spec_l11Plan.j3, w1.out]
    exact K.neg Bool.false_ne_true g
  | succ n ih =>
    intro t out i h h0 h1 t0 t1 hn ho
    have w1 := Aside0.mk (K.wr (x := b + 1) (by omega) (by omega))
    by_cases c : t < 20
    · obtain ⟨v1, i1, g1, e1, a1, b1, p1, q1⟩ := l1Below l hl i h h0 h1 9 (by omega) (by omega)
      have w2 := Aside0.mk (K.wr (x := t + 2) (by omega) (by omega))
      have w3 := Aside0.mk (K.wr (x := t + 2 + v1) (by omega) (by omega))
      obtain ⟨e, e2, m1, m2, m3⟩ := minI 20 (t + 2 + v1)
      obtain ⟨v2, i2, g2, e3, a3, b3, p2, q2⟩ := l1Below l hl i1 g1 p1 q1 6 (by omega) (by omega)
      have w4 := Aside0.mk (K.wr (x := e + 1) (by omega) (by omega))
      have w5 := Aside0.mk (K.wr (x := e + 1 + v2) (by omega) (by omega))
      have w6 := Aside0.mk (K.wr (x := ((n + 1 : Nat) : Int) - 1) (by omega) (by omega))
      obtain ⟨out', i', h', k1, k2, k3, k4⟩ := ih (e + 1 + v2) (out ++ [⟨a, b, t, e⟩]) i2 g2 p2 q2 (by omega) (by omega) (by omega) (by simp; omega)
      refine ⟨out', i', h', by simp at k1; omega, k2, k3, fun r g => K.succ ?_⟩
      have g := k4 r g
      rw [show (n : Int) = ((n + 1 : Nat) : Int) - 1 by omega] at g
      simp only [spec_l11Plan.l2]
      refine K.pos (by omega) ?_
      rw [show decide (t < 20) = true from decide_eq_true c]
      refine K.succ ?_
      simp only [spec_l11Plan.j3, e1, Option.bind_some, w2.out, w3.out, e2, e3, w4.out, w5.out, w6.out]
      exact K.pos trivial (K.pos (by omega) g)
    · refine ⟨out, i, h, by omega, h0, h1, fun r g => K.succ ?_⟩
      simp only [spec_l11Plan.l2]
      refine K.pos (by omega) ?_
      rw [show decide (t < 20) = false from decide_eq_false c]
      refine K.succ ?_
      simp only [spec_l11Plan.j3, w1.out]
      exact K.neg Bool.false_ne_true g
theorem plan1 (l : List Int) (hl : l.length ≤ 1048576) (a : Int) (ha0 : 0 ≤ a) (ha : a ≤ 4) : ∀ (d : Nat) (b : Int) (out : List S53) (i h : Int), 4 - b = d → 0 ≤ b → 0 ≤ i → i ≤ (l.length : Int) → out.length + 2 * d ≤ 200 → ∃ (out' : List S53) (i' h' : Int), out'.length ≤ out.length + 2 * d ∧ 0 ≤ i' ∧ i' ≤ (l.length : Int) ∧ ∀ r, Ev (fun k => spec_l11Plan.l0 k 4 20 out' (a + 1) l i' h') r → Ev (fun k => spec_l11Plan.l1 k 4 20 out a b l i h) r := by
  intro d
  induction d with
  | zero =>
    intro b out i h hd hb h0 h1 ho
    have w1 := Aside0.mk (K.wr (x := a + 1) (by omega) (by omega))
    refine ⟨out, i, h, by omega, h0, h1, fun r g => K.succ ?_⟩
    simp only [spec_l11Plan.l1, w1.out]
    exact K.neg (by omega) g
  | succ d ih =>
    intro b out i h hd hb h0 h1 ho
    obtain ⟨v1, i1, g1, e1, a1, b1, p1, q1⟩ := l1Below l hl i h h0 h1 5 (by omega) (by omega)
    obtain ⟨v2, i2, g2, e2, a2, b2, p2, q2⟩ := l1Below l hl i1 g1 p1 q1 3 (by omega) (by omega)
    obtain ⟨o1, i3, g3, k1, k2, k3, k4⟩ := plan2 l hl a b hb (by omega) v2.toNat v1 out i2 g2 p2 q2 a1 (by omega) (by omega) (by omega)
    obtain ⟨o2, i4, g4, m1, m2, m3, m4⟩ := ih (b + 1) o1 i3 g3 (by omega) (by omega) k2 k3 (by omega)
    refine ⟨o2, i4, g4, by omega, m2, m3, fun r g => K.succ ?_⟩
    have g := k4 r (m4 r g)
    rw [show ((v2.toNat : Nat) : Int) = v2 by omega] at g
    simp only [spec_l11Plan.l1, e1, e2, Option.bind_some]
    exact K.pos (by omega) g
theorem plan0 (l : List Int) (hl : l.length ≤ 1048576) : ∀ (d : Nat) (a : Int) (out : List S53) (i h : Int), 4 - a = d → 0 ≤ a → 0 ≤ i → i ≤ (l.length : Int) → out.length + 8 * d ≤ 100 → ∃ (out' : List S53) (i' h' : Int), out'.length ≤ 100 ∧ 0 ≤ i' ∧ i' ≤ (l.length : Int) ∧ Ev (fun k => spec_l11Plan.l0 k 4 20 out a l i h) (out', i', h') := by
  intro d
  induction d with
  | zero =>
    intro a out i h hd ha h0 h1 ho
    refine ⟨out, i, h, by omega, h0, h1, K.succ ?_⟩
    simp only [spec_l11Plan.l0]
    exact K.neg (by omega) (Ev.now _)
  | succ d ih =>
    intro a out i h hd ha h0 h1 ho
    have w1 := Aside0.mk (K.wr (x := a + 1) (by omega) (by omega))
    obtain ⟨o1, i1, g1, k1, k2, k3, k4⟩ := plan1 l hl a ha (by omega) (4 - (a + 1)).toNat (a + 1) out i h (by omega) (by omega) h0 h1 (by omega)
    obtain ⟨o2, i2, g2, m1, m2, m3, m4⟩ := ih (a + 1) o1 i1 g1 (by omega) (by omega) k2 k3 (by omega)
    refine ⟨o2, i2, g2, m1, m2, m3, K.succ ?_⟩
    simp only [spec_l11Plan.l0, w1.out]
    exact K.pos (by omega) (k4 _ m4)
theorem l11Any (l : List Int) (hl : l.length ≤ 1048576) (i h : Int) (h0 : 0 ≤ i) (h1 : i ≤ (l.length : Int)) : ∃ (L : List S53) (i' h' : Int), L.length ≤ 200 ∧ 0 ≤ i' ∧ i' ≤ (l.length : Int) ∧ Ev (fun k => spec_l11Any.f k l i h) (L, i', h') := by
  obtain ⟨L, i1, g1, p0, p1, q1, e0⟩ := plan0 l hl 4 0 [] i h (by omega) (by omega) h0 h1 (by simp)
  have e0 : Ev (fun k => spec_l11Plan.f k l i h 4 20) (L, i1, g1) := by unfold spec_l11Plan.f; exact e0
  unfold spec_l11Any.f
  by_cases c : (L.length : Int) = 0
  · exact ⟨L, i1, g1, by omega, p1, q1, Ev.bind e0 (K.pos c (Ev.now _))⟩
  obtain ⟨v2, i2, g2, e2, a2, b2, p2, q2⟩ := l1Below l hl i1 g1 p1 q1 (L.length : Int) (by omega) (by omega)
  obtain ⟨v3, i3, g3, e3, a3, b3, p3, q3⟩ := l1Below l hl i2 g2 p2 q2 8 (by omega) (by omega)
  by_cases c0 : v3 = 0
  · obtain ⟨v4, i4, g4, e4, a4, b4, p4, q4⟩ := l1Below l hl i3 g3 p3 q3 5 (by omega) (by omega)
    exact ⟨_, i4, g4, by rw [List.length_set]; show L.length ≤ 200; omega, p4, q4, Ev.bind e0 (K.neg c (K.known e2 (K.known e3 (K.pos c0 (K.known e4 (K.pos a2 (K.pos b2 (Ev.now _))))))))⟩
  by_cases c1 : v3 = 1
  · obtain ⟨v4, i4, g4, e4, p4, q4⟩ := l4Raw l hl i3 g3 p3 q3
    exact ⟨_, i4, g4, by rw [List.length_set]; show L.length ≤ 200; omega, p4, q4, Ev.bind e0 (K.neg c (K.known e2 (K.known e3 (K.neg c0 (K.pos c1 (K.known e4 (K.pos a2 (K.pos b2 (Ev.now _)))))))))⟩
  by_cases c2 : v3 = 2
  · exact ⟨_, i3, g3, by rw [List.length_append, List.length_singleton]; show L.length + 1 ≤ 200; omega, p3, q3, Ev.bind e0 (K.neg c (K.known e2 (K.known e3 (K.neg c0 (K.neg c1 (K.pos c2 (K.pos a2 (K.pos b2 (K.pos (by show L.length < 4398046511104; omega) (Ev.now _))))))))))⟩
  by_cases c3 : v3 = 3
  · obtain ⟨v4, i4, g4, e4, m4, p4, q4⟩ := l1Int l hl i3 g3 p3 q3 [(-1), 4, 9223372036854775807] (by decide) (by decide)
    exact ⟨_, i4, g4, by rw [List.length_set]; show L.length ≤ 200; omega, p4, q4, Ev.bind e0 (K.neg c (K.known e2 (K.known e3 (K.neg c0 (K.neg c1 (K.neg c2 (K.pos c3 (K.known e4 (K.pos a2 (K.pos b2 (Ev.now _)))))))))))⟩
  · exact ⟨L, i3, g3, by omega, p3, q3, Ev.bind e0 (K.neg c (K.known e2 (K.known e3 (K.neg c0 (K.neg c1 (K.neg c2 (K.neg c3 (Ev.now _))))))))⟩
theorem l4Any (l : List Int) (hl : l.length ≤ 1048576) (i h : Int) (h0 : 0 ≤ i) (h1 : i ≤ (l.length : Int)) : ∃ a b i' h', spec_l4Any.f l i h = some (a, b, i', h') ∧ 0 ≤ i' ∧ i' ≤ (l.length : Int) := by
  obtain ⟨v1, i1, g1, e1, a1, b1, p1, q1⟩ := l1Below l hl i h h0 h1 30 (by omega) (by omega)
  obtain ⟨v2, i2, g2, e2, a2, b2, p2, q2⟩ := l1Below l hl i1 g1 p1 q1 9 (by omega) (by omega)
  obtain ⟨v3, i3, g3, e3, a3, b3, p3, q3⟩ := l1Below l hl i2 g2 p2 q2 9 (by omega) (by omega)
  obtain ⟨v4, i4, g4, e4, p4, q4⟩ := l4Raw l hl i3 g3 p3 q3
  unfold spec_l4Any.f
  simp only [e1, Option.bind_some, e2, e3, e4]
  by_cases c0 : v3 = 0
  · rw [if_pos c0]
    exact ⟨_, _, _, _, rfl, p4, q4⟩
  · rw [if_neg c0]
    by_cases c1 : v3 = 1
    · rw [if_pos c1]
      exact ⟨_, _, _, _, rfl, p4, q4⟩
    · rw [if_neg c1]
      exact ⟨_, _, _, _, rfl, p3, q3⟩
theorem clouds0 (l : List Int) (hl : l.length ≤ 1048576) : ∀ (n : Nat) (out : List S121) (i h : Int), 0 ≤ i → i ≤ (l.length : Int) → n ≤ 4 → out.length + n ≤ 4 → ∃ (out' : List S121) (i' h' : Int), out'.length ≤ 4 ∧ 0 ≤ i' ∧ i' ≤ (l.length : Int) ∧ Ev (fun k => spec_l12Clouds.l0 k out (n : Int) l i h) (out', i', h') := by
  intro n
  induction n with
  | zero =>
    intro out i h h0 h1 hn ho
    refine ⟨out, i, h, by omega, h0, h1, K.succ ?_⟩
    simp only [spec_l12Clouds.l0]
    exact K.neg (by omega) (Ev.now _)
  | succ n ih =>
    intro out i h h0 h1 hn ho
    obtain ⟨a, b, i1, g1, e1, p1, q1⟩ := l4Any l hl i h h0 h1
    obtain ⟨v2, i2, g2, e2, a2, b2, p2, q2⟩ := l1Below l hl i1 g1 p1 q1 4 (by omega) (by omega)
    obtain ⟨out', i3, g3, k1, k2, k3, g⟩ := ih (out ++ [⟨v2, a, b⟩]) i2 g2 p2 q2 (by omega) (by simp; omega)
    refine ⟨out', i3, g3, k1, k2, k3, K.succ ?_⟩
    rw [show (n : Int) = ((n + 1 : Nat) : Int) - 1 by omega] at g
    have w := Aside0.mk (K.wr (x := ((n + 1 : Nat) : Int) - 1) (by omega) (by omega))
    simp only [spec_l12Clouds.l0, e1, e2, Option.bind_some, w.out]
    exact K.pos (by omega) (K.pos (by omega) g)


theorem drawCut (l : List Int) (hl : l.length ≤ 1048576) : ∃ (L : List S53) (C : List S121), L.length ≤ 200 ∧ C.length ≤ 4 ∧ Ev (fun k => spec_DrawCutClouds.f k l) (L, C) := by
  obtain ⟨h, e0⟩ := l1New l hl
  obtain ⟨L, i1, g1, k1, p1, q1, e1⟩ := l11Any l hl 0 h (by omega) (by omega)
  obtain ⟨v, i2, g2, e2, a2, b2, p2, q2⟩ := l1Below l hl i1 g1 p1 q1 4 (by omega) (by omega)
  obtain ⟨C, i3, g3, k3, p3, q3, e3⟩ := clouds0 l hl v.toNat [] i2 g2 p2 q2 (by omega) (by simp; omega)
  rw [show ((v.toNat : Nat) : Int) = v by omega] at e3
  refine ⟨L, C, k1, k3, ?_⟩
  unfold spec_DrawCutClouds.f spec_l12Clouds.f
  exact Ev.bind e0 (Ev.bind e1 (Ev.bind (K.known e2 e3) (Ev.now _)))
theorem covE (cl : List S121) (cs : Int → List S82) (hcs : ∀ n, (cs n).length ≤ 1000 ∧ Ev (fun k => spec_CloudSpans.f k cl n) (cs n) ∧ Ev (fun k => impl_CloudSpans.f k cl n) (cs n)) (n t : Int) : Ev (fun k => impl_IsCovered.f k cl n t) (inl (cs n) t) := by
  unfold impl_IsCovered.f impl_InSpans.f
  have h := (hcs n).1
  exact Ev.bind (hcs n).2.2 (Ev.bind (iInl (cs n) (by omega) t (cs n).length 0 (by omega) (by omega)) (Ev.now _))
theorem speakF (l : List S53) (hl : l.length ≤ 2000000000) (a b t : Int) (h : a < b) : Ev (fun k => impl_CanSpeak.f k l a b t) (spk l a b t) := by
  have e := speakE l hl a b t l.length 0 (by omega) (by omega)
  rw [show mn a b = a from by unfold mn; split <;> omega, show mx a b = b from by unfold mx; split <;> omega] at e
  unfold impl_CanSpeak.f
  exact e
theorem tickL (pl : List S53) (cl : List S121) (cs : Int → List S82) (hcs : ∀ n, (cs n).length ≤ 1000 ∧ Ev (fun k => spec_CloudSpans.f k cl n) (cs n) ∧ Ev (fun k => impl_CloudSpans.f k cl n) (cs n)) (hp : pl.length ≤ 1000) (a b : Int) (hab : a < b) (hb : b ≤ 4) (ha : 0 ≤ a) (g : Ev (fun k => laws_FnWeather.l1 k pl cl (pl.flatMap (cutC cs)) a (b + 1)) true) : ∀ (d : Nat) (t : Int), 0 ≤ t → 25 - t = d → Ev (fun k => laws_FnWeather.l2 k pl cl (pl.flatMap (cutC cs)) a b t) true := by
  have hl := cutL_len cs pl
  intro d
  induction d with
  | zero =>
    intro t h0 hd
    have w1 := Aside0.mk (K.wr (x := b + 1) (by omega) (by omega))
    refine K.succ ?_
    simp only [laws_FnWeather.l2, w1.out]
    exact K.neg (by omega) g
  | succ d ih =>
    intro t h0 hd
    have w1 := Aside0.mk (K.wr (x := t + 1) (by omega) (by omega))
    have s1 := speakF (pl.flatMap (cutC cs)) (by omega) a b t hab
    have s2 := speakF pl (by omega) a b t hab
    have e := spk_cut cs pl a b t h0 (by omega)
    have next := ih (t + 1) (by omega) (by omega)
    have fin : ∀ f : Bool, f = !(inl (cs a) t || inl (cs b) t) → Ev (fun k => laws_FnWeather.j3 k pl cl (pl.flatMap (cutC cs)) a b t f) true := by
      intro f hf
      refine K.succ ?_
      simp only [laws_FnWeather.j3, w1.out]
      refine Ev.bind s1 ?_
      rw [e, ← hf]
      cases f with
      | true =>
        refine K.pos rfl (Ev.bind s2 ?_)
        exact K.neg (by simp) next
      | false => exact K.neg Bool.false_ne_true (K.neg (by simp) next)
    refine K.succ ?_
    simp only [laws_FnWeather.l2]
    refine K.pos (by omega) (Ev.bind (covE cl cs hcs a t) ?_)
    cases c : inl (cs a) t with
    | true => exact K.pos rfl (fin false (by rw [c]; rfl))
    | false =>
      refine K.neg Bool.false_ne_true (Ev.bind (covE cl cs hcs b t) ?_)
      exact fin _ (by rw [c, Bool.false_or])
end LFnWeather
theorem FnWeather (l : List Int) : ∃ k, laws_FnWeather.f k l = some true := by
  refine K.rounds (g := fun k => laws_FnWeather.f k l) ?_
  unfold laws_FnWeather.f laws_big.f
  refine K.known rfl ?_
  by_cases c : (l.length : Int) > 1048576
  · exact K.pos (decide_eq_true c) (Ev.now _)
  refine K.neg (by simp; omega) ?_
  obtain ⟨pl, cl, hp, hc, e1⟩ := LFnWeather.drawCut l (by omega)
  obtain ⟨cs, hcs⟩ := Classical.axiomOfChoice (LFnWeather.clouds cl (by omega))
  obtain ⟨c1, c2⟩ := LFnWeather.cutE pl cl cs hcs (by omega) pl.length [] 0 (by omega) (by omega) (by simp)
  have hl := LFnWeather.cutL_len cs pl
  rw [show ([] : List S53) ++ (pl.drop (0 : Int).toNat).flatMap (LFnWeather.cutC cs) = pl.flatMap (LFnWeather.cutC cs) by simp] at c1 c2
  refine Ev.bind e1 ?_
  dsimp only
  refine Ev.bind (by unfold impl_CutClouds.f; exact c2) (Ev.bind (by unfold spec_CutClouds.f; exact c1) (K.pos rfl ?_))
  have t1 := LFnWeather.ticksE pl (by omega) pl.length 0 0 (by omega) (by omega) (by omega) (by omega)
  have t2 := LFnWeather.ticksE (pl.flatMap (LFnWeather.cutC cs)) (by omega) (pl.flatMap (LFnWeather.cutC cs)).length 0 0 (by omega) (by omega) (by omega) (by omega)
  rw [show (0 : Int).toNat = 0 from rfl, List.drop_zero, Int.zero_add] at t1 t2
  have b1 := LFnWeather.ctk_le pl
  have b2 := LFnWeather.ctk_le (pl.flatMap (LFnWeather.cutC cs))
  have b3 := LFnWeather.ctk_cut cs pl
  have hlost : Ev (fun k => impl_LostTicks.f k pl cl) (LFnWeather.ctk pl - LFnWeather.ctk (pl.flatMap (LFnWeather.cutC cs))) := by
    unfold impl_LostTicks.f impl_ContactTicks.f impl_CutClouds.f
    have w := K.wr (x := LFnWeather.ctk pl - LFnWeather.ctk (pl.flatMap (LFnWeather.cutC cs))) (by omega) (by omega)
    rw [← w]
    exact Ev.bind t1 (Ev.bind c2 (Ev.bind t2 (Ev.now _)))
  obtain ⟨v1, hv1, p1⟩ := LFnWeather.planE 4 pl [] (by simp; omega)
  obtain ⟨v2, hv2, p2⟩ := LFnWeather.planE 4 (pl.flatMap (LFnWeather.cutC cs)) [] (by rw [List.length_nil]; omega)
  have hend : ∀ a : Int, a ≥ 4 → Ev (fun k => laws_FnWeather.l0 k pl cl (pl.flatMap (LFnWeather.cutC cs)) a) true := by
    intro a ha
    refine K.succ ?_
    simp only [laws_FnWeather.l0]
    refine K.neg (by omega) (Ev.bind hlost (K.pos (by omega) (Ev.bind (by unfold impl_IsPlan.f; exact p1) ?_)))
    cases v1 with
    | false => exact K.neg Bool.false_ne_true (Ev.now _)
    | true =>
      have : v2 = true := hv2.2 (LFnWeather.plan_cut cs 4 pl (hv1.1 rfl))
      subst this
      exact K.pos rfl (Ev.bind (by unfold impl_IsPlan.f; exact p2) (Ev.now _))
  have hin : ∀ a : Int, 0 ≤ a → a < 4 → Ev (fun k => laws_FnWeather.l0 k pl cl (pl.flatMap (LFnWeather.cutC cs)) (a + 1)) true → ∀ (d : Nat) (b : Int), a < b → 4 - b = d → Ev (fun k => laws_FnWeather.l1 k pl cl (pl.flatMap (LFnWeather.cutC cs)) a b) true := by
    intro a a0 a1 g d
    have w1 := Aside0.mk (K.wr (x := a + 1) (by omega) (by omega))
    induction d with
    | zero =>
      intro b hb hd
      refine K.succ ?_
      simp only [laws_FnWeather.l1, w1.out]
      exact K.neg (by omega) g
    | succ d ih =>
      intro b hb hd
      refine K.succ ?_
      simp only [laws_FnWeather.l1]
      exact K.pos (by omega) (LFnWeather.tickL pl cl cs hcs (by omega) a b hb (by omega) a0 (ih (b + 1) (by omega) (by omega)) 25 0 (by omega) (by omega))
  have hout : ∀ (d : Nat) (a : Int), 0 ≤ a → 4 - a = d → Ev (fun k => laws_FnWeather.l0 k pl cl (pl.flatMap (LFnWeather.cutC cs)) a) true := by
    intro d
    induction d with
    | zero => intro a _ hd; exact hend a (by omega)
    | succ d ih =>
      intro a a0 hd
      have w1 := Aside0.mk (K.wr (x := a + 1) (by omega) (by omega))
      have g := ih (a + 1) (by omega) (by omega)
      have h := hin a a0 (by omega) g (4 - (a + 1)).toNat (a + 1) (by omega) (by omega)
      refine K.succ ?_
      simp only [laws_FnWeather.l0, w1.out]
      exact K.pos (by omega) h
  exact hout 4 0 (by omega) (by omega)

end Go.Proofs.Ytopbkdcicidajaa.Pure
