/- At every code of at most 2^20 bytes, in the drawn sky two nodes speak just where they surely see each other and neither may be in a zone of silence, and a sky in which a satellite may disturb is not quiet. -/
import Derived.Test.YtopbkdcicidajaaQFnSilencex
import Derived.Test.YtopbkdcicidajaaKKit
namespace Go.Proofs.Ytopbkdcicidajaa.Pure
open Go.RowKit Go.Proofs.Ytopbkdcicidajaa.PFnSilence Go.Proofs.YtopbkdcicidajaaW.PrintWords Go.Proofs.YtopbkdcicidajaaW.PrintLast Go.Proofs.YtopbkdcicidajaaW.PrintMore Go.Proofs.Ytopbkdcicidajaa
set_option linter.unusedSimpArgs false
set_option linter.unusedVariables false
namespace LFnSilence
theorem evOne {α : Type} {g : Nat → Option α} {r s : α} (h : Ev g r) (k : Ev g s) : r = s := by
  obtain ⟨n, hn⟩ := h
  obtain ⟨m, hm⟩ := k
  exact Option.some.inj ((hn (n + m) (by omega)).symm.trans (hm (n + m) (by omega)))
def put (o : List S82) (t : Int) : List S82 :=
  if (o.length : Int) > 0 then (if (rd_T82 o ((o.length : Int) - 1)).f1 = t then o.set ((o.length : Int) - 1).toNat ⟨(rd_T82 o ((o.length : Int) - 1)).f0, t + 1⟩ else o ++ [⟨t, t + 1⟩]) else o ++ [⟨t, t + 1⟩]
theorem put_len (o : List S82) (t : Int) : (put o t).length ≤ o.length + 1 := by
  unfold put
  (repeat' split) <;> simp
def run (p : Int → Bool) (o : List S82) (t : Int) : Nat → List S82
  | 0 => o
  | d + 1 => run p (if p t = true then put o t else o) (t + 1) d
theorem run_add (p : Int → Bool) : ∀ (d e : Nat) (o : List S82) (t : Int), run p o t (d + e) = run p (run p o t d) (t + d) e := by
  intro d
  induction d with
  | zero =>
    intro e o t
    simp [run]
  | succ d ih =>
    intro e o t
    rw [show d + 1 + e = (d + e) + 1 by omega]
    simp only [run]
    rw [ih]
    congr 1
    omega
theorem run_none (p : Int → Bool) : ∀ (d : Nat) (o : List S82) (t : Int), (∀ u, t ≤ u → p u = false) → run p o t d = o := by
  intro d
  induction d with
  | zero =>
    intro o t h
    rfl
  | succ d ih =>
    intro o t h
    simp only [run, h t (by omega), Bool.false_eq_true, if_false]
    exact ih o (t + 1) (fun u hu => h u (by omega))
theorem run_len (p : Int → Bool) : ∀ (d : Nat) (o : List S82) (t : Int), (run p o t d).length ≤ o.length + d := by
  intro d
  induction d with
  | zero =>
    intro o t
    simp [run]
  | succ d ih =>
    intro o t
    simp only [run]
    refine Nat.le_trans (ih _ _) ?_
    have := put_len o t
    split <;> omega
theorem run_eq (p q : Int → Bool) : ∀ (d : Nat) (o : List S82) (t : Int), (∀ u, t ≤ u → u < t + d → p u = q u) → run p o t d = run q o t d := by
  intro d
  induction d with
  | zero =>
    intro o t h
    rfl
  | succ d ih =>
    intro o t h
    simp only [run]
    rw [h t (by omega) (by omega)]
    exact ih _ _ (fun u h1 h2 => h u (by omega) (by omega))
theorem sPut (o : List S82) (t : Int) (h0 : 0 ≤ t) (h1 : t ≤ 1000) (ho : o.length ≤ 8000000000000) : spec_l4Put.f o t = some (put o t) := by
  unfold spec_l4Put.f put
  have w0 : wrap64 (t + 1) = t + 1 := K.wr (by omega) (by omega)
  have w1 : wrap64 ((o.length : Int) - 1) = (o.length : Int) - 1 := K.wr (by omega) (by omega)
  rw [w0, w1]
  have c2 : o.length < 8796093022208 := by omega
  rw [if_pos c2]
  by_cases c : (o.length : Int) > 0
  · rw [if_pos c, if_pos c]
    have c0 : 0 ≤ (o.length : Int) - 1 := by omega
    have c1 : (o.length : Int) - 1 < (o.length : Int) := by omega
    rw [if_pos c0, if_pos c1]
    split <;> rfl
  · rw [if_neg c, if_neg c]
def vs (s : S82) : Bool := decide (s.f0 ≥ 0 ∧ s.f1 ≤ 1000 ∧ s.f0 < s.f1)
def ins (s : S82) (t : Int) : Bool := vs s && (decide (s.f0 ≤ t) && decide (t < s.f1))
def inl (l : List S82) (t : Int) : Bool := l.any (fun s => ins s t)
theorem sVs (s : S82) : spec_IsSpan.f s.f0 s.f1 = some (vs s) := by
  unfold spec_IsSpan.f vs
  by_cases c0 : s.f0 ≥ 0
  · rw [if_pos c0]
    by_cases c1 : s.f1 ≤ 1000
    · rw [if_pos c1]
      simp [c0, c1]
    · rw [if_neg c1]
      simp [c1]
  · rw [if_neg c0]
    simp [c0]
theorem iVs (s : S82) : impl_IsSpan.f s.f0 s.f1 = some (vs s) := by
  unfold impl_IsSpan.f vs
  by_cases c0 : s.f0 ≥ 0
  · rw [if_pos c0]
    by_cases c1 : s.f1 ≤ 1000
    · rw [if_pos c1]
      simp [c0, c1]
    · rw [if_neg c1]
      simp [c1]
  · rw [if_neg c0]
    simp [c0]
theorem sIns (s : S82) (t : Int) : spec_InSpan.f s.f0 s.f1 t = some (ins s t) := by
  unfold spec_InSpan.f ins
  rw [sVs, Option.bind_some]
  cases vs s with
  | true =>
    rw [if_pos rfl]
    by_cases c : s.f0 ≤ t
    · rw [if_pos c]
      simp [c]
    · rw [if_neg c]
      simp [c]
  | false => rfl
theorem rdDrop (l : List S82) (i : Int) (h0 : 0 ≤ i) (h1 : i < (l.length : Int)) : l.drop i.toNat = rd_T82 l i :: l.drop (i + 1).toNat := by
  rw [List.drop_eq_getElem_cons (by omega), show (i + 1).toNat = i.toNat + 1 by omega]
  simp [rd_T82, List.getD_eq_getElem?_getD, List.getElem?_eq_getElem (show i.toNat < l.length by omega)]
theorem sInl (l : List S82) (hl : l.length ≤ 2097152) (t : Int) : ∀ (d : Nat) (i : Int), 0 ≤ i → (l.length : Int) - i = d → Ev (fun k => spec_InSpans.l0 k l t i) (inl (l.drop i.toNat) t) := by
  intro d
  induction d with
  | zero =>
    intro i h0 hd
    refine K.succ ?_
    simp only [spec_InSpans.l0]
    rw [List.drop_eq_nil_of_le (by omega)]
    exact K.neg (by omega) (Ev.now _)
  | succ d ih =>
    intro i h0 hd
    refine K.succ ?_
    simp only [spec_InSpans.l0, sIns]
    rw [K.wr (x := i + 1) (by omega) (by omega), rdDrop l i h0 (by omega)]
    refine K.pos (by omega) (K.pos h0 (K.known rfl ?_))
    unfold inl
    rw [List.any_cons]
    cases ins (rd_T82 l i) t with
    | true => exact K.pos rfl (Ev.now _)
    | false => exact K.neg Bool.false_ne_true (ih (i + 1) (by omega) (by omega))
def last (l : List S82) (n : Int) : Int := l.foldl (fun n s => if vs s = true then (if s.f1 > n then s.f1 else n) else n) n
theorem last_le : ∀ (l : List S82) (n : Int), n ≤ last l n ∧ (n ≤ 1000 → last l n ≤ 1000) ∧ ∀ s ∈ l, vs s = true → s.f1 ≤ last l n := by
  intro l
  induction l with
  | nil =>
    intro n
    exact ⟨Int.le_refl _, fun h => h, fun s hs => absurd hs (by simp)⟩
  | cons a l ih =>
    intro n
    have e : last (a :: l) n = last l (if vs a = true then (if a.f1 > n then a.f1 else n) else n) := rfl
    rw [e]
    obtain ⟨h1, h2, h3⟩ := ih (if vs a = true then (if a.f1 > n then a.f1 else n) else n)
    by_cases c : vs a = true
    · rw [if_pos c] at h1 h2 h3 ⊢
      have hv : a.f1 ≤ 1000 := by
        unfold vs at c
        exact (of_decide_eq_true c).2.1
      have hm : n ≤ (if a.f1 > n then a.f1 else n) ∧ a.f1 ≤ (if a.f1 > n then a.f1 else n) ∧ (n ≤ 1000 → (if a.f1 > n then a.f1 else n) ≤ 1000) := by
        split <;> omega
      generalize (if a.f1 > n then a.f1 else n) = m at hm h1 h2 h3 ⊢
      refine ⟨by omega, fun hn => h2 (hm.2.2 hn), ?_⟩
      intro s hs hvs
      rcases List.mem_cons.1 hs with rfl | hs
      · omega
      · exact h3 s hs hvs
    · rw [if_neg c] at h1 h2 h3 ⊢
      refine ⟨h1, h2, ?_⟩
      intro s hs hvs
      rcases List.mem_cons.1 hs with rfl | hs
      · exact absurd hvs c
      · exact h3 s hs hvs
theorem beyond (l : List S82) (u : Int) (h : last l 0 ≤ u) : inl l u = false := by
  unfold inl
  rw [List.any_eq_false]
  intro s hs hc
  unfold ins at hc
  simp only [Bool.and_eq_true, decide_eq_true_eq] at hc
  have := (last_le l 0).2.2 s hs hc.1
  omega
theorem sLast (l : List S82) (hl : l.length ≤ 2097152) : ∀ (d : Nat) (i n : Int), 0 ≤ i → (l.length : Int) - i = d → Ev (fun k => spec_l4Last.l0 k l n i) (last (l.drop i.toNat) n) := by
  intro d
  induction d with
  | zero =>
    intro i n h0 hd
    refine K.succ ?_
    simp only [spec_l4Last.l0]
    rw [List.drop_eq_nil_of_le (by omega)]
    exact K.neg (by omega) (Ev.now _)
  | succ d ih =>
    intro i n h0 hd
    refine K.succ ?_
    simp only [spec_l4Last.l0, sVs]
    rw [K.wr (x := i + 1) (by omega) (by omega), rdDrop l i h0 (by omega)]
    refine K.pos (by omega) (K.pos h0 (K.known rfl ?_))
    have e : ∀ (a : S82) (r : List S82), last (a :: r) n = last r (if vs a = true then (if a.f1 > n then a.f1 else n) else n) := fun _ _ => rfl
    rw [e]
    by_cases c : vs (rd_T82 l i) = true
    · rw [if_pos c]
      refine K.pos c (K.known (b := if (rd_T82 l i).f1 > n then (rd_T82 l i).f1 else n) (by unfold spec_Max.f; split <;> rfl) (ih (i + 1) _ (by omega) (by omega)))
    · rw [if_neg c]
      exact K.neg c (ih (i + 1) _ (by omega) (by omega))
def mark (x : List Bool) (a : Int) : Nat → List Bool
  | 0 => x
  | d + 1 => mark (x.set a.toNat true) (a + 1) d
theorem mark_len : ∀ (d : Nat) (x : List Bool) (a : Int), (mark x a d).length = x.length := by
  intro d
  induction d with
  | zero => intro x a; rfl
  | succ d ih =>
    intro x a
    simp only [mark, ih, List.length_set]
theorem mark_get (t : Int) (h0 : 0 ≤ t) : ∀ (d : Nat) (x : List Bool) (a : Int), 0 ≤ a → t < (x.length : Int) → rdOf false (mark x a d) t = (rdOf false x t || (decide (a ≤ t) && decide (t < a + d))) := by
  intro d
  induction d with
  | zero =>
    intro x a ha ht
    have : ¬ (a ≤ t ∧ t < a + (0 : Nat)) := by omega
    rw [← Bool.decide_and, decide_eq_false this, Bool.or_false]
    rfl
  | succ d ih =>
    intro x a ha ht
    simp only [mark]
    rw [ih _ _ (by omega) (by simp; omega)]
    by_cases c : a = t
    · subst c
      have e : rdOf false (x.set a.toNat true) a = true := by
        simp only [rdOf, List.getD_eq_getElem?_getD]
        rw [List.getElem?_set_self (by omega)]
        rfl
      have e2 : (decide (a ≤ a) && decide (a < a + ((d + 1 : Nat) : Int))) = true := by
        rw [← Bool.decide_and]
        exact decide_eq_true (by omega)
      rw [e, e2, Bool.true_or, Bool.or_true]
    · have e : rdOf false (x.set a.toNat true) t = rdOf false x t := by
        simp only [rdOf, List.getD_eq_getElem?_getD]
        rw [List.getElem?_set_ne (by omega)]
      have e2 : (decide (a + 1 ≤ t) && decide (t < a + 1 + (d : Int))) = (decide (a ≤ t) && decide (t < a + ((d + 1 : Nat) : Int))) := by
        rw [← Bool.decide_and, ← Bool.decide_and]
        exact decide_eq_decide.2 (by omega)
      rw [e, e2]
def tk : List S82 → List Bool → List Bool
  | [], x => x
  | s :: l, x => tk l (if vs s = true then mark x s.f0 (s.f1 - s.f0).toNat else x)
theorem tk_len : ∀ (l : List S82) (x : List Bool), (tk l x).length = x.length := by
  intro l
  induction l with
  | nil => intro x; rfl
  | cons s l ih =>
    intro x
    simp only [tk, ih]
    split
    · exact mark_len _ _ _
    · rfl
theorem tk_get (t : Int) (h0 : 0 ≤ t) : ∀ (l : List S82) (x : List Bool), t < (x.length : Int) → rdOf false (tk l x) t = (rdOf false x t || inl l t) := by
  intro l
  induction l with
  | nil =>
    intro x ht
    simp [tk, inl]
  | cons s l ih =>
    intro x ht
    have e : inl (s :: l) t = (ins s t || inl l t) := rfl
    simp only [tk]
    by_cases c : vs s = true
    · rw [if_pos c, ih _ (by rw [mark_len]; exact ht)]
      have hv : s.f0 ≥ 0 ∧ s.f1 ≤ 1000 ∧ s.f0 < s.f1 := by
        unfold vs at c
        exact of_decide_eq_true c
      rw [mark_get t h0 _ _ _ (by omega) ht, e, Bool.or_assoc]
      have e2 : (decide (s.f0 ≤ t) && decide (t < s.f0 + ((s.f1 - s.f0).toNat : Int))) = ins s t := by
        unfold ins
        rw [c, Bool.true_and, ← Bool.decide_and, ← Bool.decide_and]
        exact decide_eq_decide.2 (by omega)
      rw [e2]
    · rw [if_neg c, ih _ ht, e]
      have e2 : ins s t = false := by
        unfold ins
        rw [Bool.eq_false_iff.2 c]
        rfl
      rw [e2, Bool.false_or]
theorem iInner (l : List S82) (i f0 b : Int) (r : List Bool) : ∀ (d : Nat) (x : List Bool) (a : Int), 0 ≤ a → b - a = d → b ≤ (x.length : Int) → x.length ≤ 1000 → 0 ≤ i → i < (l.length : Int) → l.length ≤ 2097152 →
    Ev (fun k => impl_ticks.l0 k (mark x a d) l (l.length : Int) (i + 1)) r → Ev (fun k => impl_ticks.l1 k x a l (l.length : Int) i f0 b) r := by
  intro d
  induction d with
  | zero =>
    intro x a h0 hd hb hx hi0 hi1 hl h
    refine K.succ ?_
    simp only [impl_ticks.l1]
    rw [K.wr (x := i + 1) (by omega) (by omega)]
    exact K.neg (by omega) h
  | succ d ih =>
    intro x a h0 hd hb hx hi0 hi1 hl h
    refine K.succ ?_
    simp only [impl_ticks.l1]
    rw [K.wr (x := a + 1) (by omega) (by omega)]
    exact K.pos (by omega) (K.pos h0 (K.pos (by omega) (ih (x.set a.toNat true) (a + 1) (by omega) (by omega) (by simp; omega) (by simp; omega) hi0 hi1 hl h)))
theorem iTicks (l : List S82) (hl : l.length ≤ 2097152) : ∀ (d : Nat) (i : Int) (x : List Bool), 0 ≤ i → (l.length : Int) - i = d → x.length = 1000 → Ev (fun k => impl_ticks.l0 k x l (l.length : Int) i) (tk (l.drop i.toNat) x) := by
  intro d
  induction d with
  | zero =>
    intro i x h0 hd hx
    refine K.succ ?_
    simp only [impl_ticks.l0]
    rw [List.drop_eq_nil_of_le (by omega)]
    exact K.neg (by omega) (Ev.now _)
  | succ d ih =>
    intro i x h0 hd hx
    refine K.succ ?_
    simp only [impl_ticks.l0, iVs]
    rw [K.wr (x := i + 1) (by omega) (by omega), rdDrop l i h0 (by omega)]
    refine K.pos (by omega) (K.pos h0 (K.pos (by omega) (K.known rfl ?_)))
    simp only [tk]
    by_cases c : vs (rd_T82 l i) = true
    · rw [if_pos c]
      have hv : (rd_T82 l i).f0 ≥ 0 ∧ (rd_T82 l i).f1 ≤ 1000 ∧ (rd_T82 l i).f0 < (rd_T82 l i).f1 := by
        unfold vs at c
        exact of_decide_eq_true c
      refine K.pos c (iInner l i _ _ _ ((rd_T82 l i).f1 - (rd_T82 l i).f0).toNat x _ (by omega) (by omega) (by omega) (by omega) h0 (by omega) hl ?_)
      exact ih (i + 1) _ (by omega) (by omega) (by rw [mark_len]; exact hx)
    · rw [if_neg c]
      exact K.neg c (ih (i + 1) _ (by omega) (by omega) hx)
theorem ticksOf (l : List S82) (hl : l.length ≤ 2097152) : ∃ x : List Bool, Ev (fun k => impl_ticks.f k l) x ∧ x.length = 1000 ∧ ∀ t, 0 ≤ t → t < 1000 → rdOf false x t = inl l t := by
  refine ⟨tk l (List.replicate 1000 false), ?_, ?_, ?_⟩
  · unfold impl_ticks.f
    exact K.pos (by omega) (iTicks l hl l.length 0 _ (by omega) (by omega) (List.length_replicate ..))
  · rw [tk_len, List.length_replicate]
  · intro t h0 h1
    rw [tk_get t h0 _ _ (by rw [List.length_replicate]; omega)]
    have e : rdOf false (List.replicate 1000 false) t = false := by
      simp only [rdOf, List.getD_eq_getElem?_getD, List.getElem?_replicate]
      split <;> rfl
    rw [e, Bool.false_or]
theorem whereRun (q : Nat → Int → Option Bool) (p : Int → Bool) (hi : Int) (hq : ∀ t, 0 ≤ t → t < mn hi 1000 → Ev (fun k => q k t) (p t)) : ∀ (d : Nat) (o : List S82) (t : Int), 0 ≤ t → (mn hi 1000 - t).toNat = d → o.length + d ≤ 7000000000000 → Ev (fun k => sw.l0 q k hi o t) (run p o t d) := by
  intro d
  have hm : mn hi 1000 ≤ 1000 := by unfold mn; split <;> omega
  induction d with
  | zero =>
    intro o t h0 hd ho
    refine K.succ ?_
    simp only [sw.l0, run]
    exact K.neg (by omega) (Ev.now _)
  | succ d ih =>
    intro o t h0 hd ho
    refine K.succ ?_
    simp only [sw.l0, run]
    have w0 : wrap64 (t + 1) = t + 1 := K.wr (by omega) (by omega)
    have w1 : wrap64 ((o.length : Int) - 1) = (o.length : Int) - 1 := K.wr (by omega) (by omega)
    rw [w0, w1]
    refine K.pos (by omega) (Ev.bind (hq t h0 (by omega)) ?_)
    by_cases c : p t = true
    · refine K.pos c ?_
      rw [if_pos c]
      have hp := put_len o t
      have ih' := ih (put o t) (t + 1) (by omega) (by omega)
      unfold put at ih' ⊢
      by_cases c1 : (o.length : Int) > 0
      · rw [if_pos c1] at ih' ⊢
        refine K.pos (by omega) (K.pos (by omega) (K.pos (by omega) ?_))
        by_cases c2 : (rd_T82 o ((o.length : Int) - 1)).f1 = t
        · rw [if_pos c2] at ih' ⊢
          refine K.pos c2 ?_
          rw [c2, w0]
          exact ih' (by simp; omega)
        · rw [if_neg c2] at ih' ⊢
          refine K.neg c2 (K.pos (by omega) (ih' (by simp; omega)))
      · rw [if_neg c1] at ih' ⊢
        refine K.neg (by omega) (K.pos (by omega) (ih' (by simp; omega)))
    · refine K.neg c ?_
      rw [if_neg c]
      exact ih o (t + 1) (by omega) (by omega) (by omega)
theorem inl_app (a b : List S82) (t : Int) : inl (a ++ b) t = (inl a t || inl b t) := by
  unfold inl
  rw [List.any_append]
theorem put_snoc (o : List S82) (t : Int) : (∃ q r, o = q ++ [r] ∧ r.f1 = t ∧ put o t = q ++ [⟨r.f0, t + 1⟩]) ∨ put o t = o ++ [⟨t, t + 1⟩] := by
  rcases List.eq_nil_or_concat o with rfl | ⟨q, r, rfl⟩
  · exact .inr rfl
  · have hl : ((q ++ [r]).length : Int) - 1 = (q.length : Int) := by simp
    have hrd : rd_T82 (q ++ [r]) (q.length : Int) = r := by
      simp [rd_T82, List.getD_eq_getElem?_getD]
    simp only [List.concat_eq_append]
    unfold put
    rw [if_pos (by simp), hl, hrd]
    by_cases c : r.f1 = t
    · rw [if_pos c]
      refine .inl ⟨q, r, rfl, c, ?_⟩
      simp
    · rw [if_neg c]
      exact .inr rfl
theorem ins_one (s : S82) (t : Int) : inl [s] t = ins s t := by
  simp [inl]
theorem put_ok (o : List S82) (t u : Int) (h0 : 0 ≤ t) (h1 : t < 1000) (hv : ∀ s ∈ o, vs s = true) : (∀ s ∈ put o t, vs s = true) ∧ inl (put o t) u = (inl o u || decide (u = t)) := by
  rcases put_snoc o t with ⟨q, r, rfl, hr, e⟩ | e
  · have hvr := hv r (by simp)
    unfold vs at hvr
    have hvr := of_decide_eq_true hvr
    have hn : vs (⟨r.f0, t + 1⟩ : S82) = true := by
      unfold vs
      exact decide_eq_true ⟨hvr.1, by show t + 1 ≤ 1000; omega, by show r.f0 < t + 1; omega⟩
    refine ⟨?_, ?_⟩
    · rw [e]
      intro s hs
      rcases List.mem_append.1 hs with hs | hs
      · exact hv s (by simp [hs])
      · rw [List.mem_singleton] at hs
        subst hs
        exact hn
    · rw [e, inl_app, inl_app, ins_one, ins_one, Bool.or_assoc]
      congr 1
      unfold ins
      rw [hn, hv r (by simp), Bool.true_and, Bool.true_and, ← Bool.decide_and, ← Bool.decide_and, ← Bool.decide_or]
      exact decide_eq_decide.2 (by show r.f0 ≤ u ∧ u < t + 1 ↔ (r.f0 ≤ u ∧ u < r.f1) ∨ u = t; omega)
  · have hn : vs (⟨t, t + 1⟩ : S82) = true := by
      unfold vs
      exact decide_eq_true ⟨h0, by show t + 1 ≤ 1000; omega, by show t < t + 1; omega⟩
    refine ⟨?_, ?_⟩
    · rw [e]
      intro s hs
      rcases List.mem_append.1 hs with hs | hs
      · exact hv s hs
      · rw [List.mem_singleton] at hs
        subst hs
        exact hn
    · rw [e, inl_app, ins_one]
      congr 1
      unfold ins
      rw [hn, Bool.true_and, ← Bool.decide_and]
      exact decide_eq_decide.2 (by show t ≤ u ∧ u < t + 1 ↔ u = t; omega)
theorem run_ok (p : Int → Bool) (u : Int) : ∀ (d : Nat) (o : List S82) (t : Int), 0 ≤ t → t + d ≤ 1000 → (∀ s ∈ o, vs s = true) → (∀ s ∈ run p o t d, vs s = true) ∧ inl (run p o t d) u = (inl o u || (decide (t ≤ u ∧ u < t + d) && p u)) := by
  intro d
  induction d with
  | zero =>
    intro o t h0 h1 hv
    refine ⟨hv, ?_⟩
    rw [decide_eq_false (by omega)]
    simp [run]
  | succ d ih =>
    intro o t h0 h1 hv
    simp only [run]
    by_cases c : p t = true
    · rw [if_pos c]
      obtain ⟨v1, e1⟩ := put_ok o t u h0 (by omega) hv
      obtain ⟨v2, e2⟩ := ih (put o t) (t + 1) (by omega) (by omega) v1
      refine ⟨v2, ?_⟩
      rw [e2, e1, Bool.or_assoc]
      congr 1
      by_cases hu : u = t
      · subst hu
        rw [decide_eq_true rfl, decide_eq_true (show u ≤ u ∧ u < u + ((d + 1 : Nat) : Int) by omega), c]
        rfl
      · rw [decide_eq_false hu, Bool.false_or]
        congr 1
        exact decide_eq_decide.2 (by omega)
    · rw [if_neg c]
      obtain ⟨v2, e2⟩ := ih o (t + 1) (by omega) (by omega) hv
      refine ⟨v2, ?_⟩
      rw [e2]
      congr 1
      by_cases hu : u = t
      · subst hu
        rw [Bool.eq_false_iff.2 c, Bool.and_false, Bool.and_false]
      · congr 1
        exact decide_eq_decide.2 (by omega)
theorem iIns (s : S82) (t : Int) : impl_InSpan.f s.f0 s.f1 t = some (ins s t) := by
  unfold impl_InSpan.f ins
  rw [iVs, Option.bind_some]
  cases vs s with
  | true =>
    rw [if_pos rfl]
    by_cases c : s.f0 ≤ t
    · rw [if_pos c]
      simp [c]
    · rw [if_neg c]
      simp [c]
  | false => rfl
theorem iInl (l : List S82) (hl : l.length ≤ 2097152) (t : Int) : ∀ (d : Nat) (i : Int), 0 ≤ i → (l.length : Int) - i = d → Ev (fun k => impl_InSpans.l0 k t l (l.length : Int) i) (inl (l.drop i.toNat) t) := by
  intro d
  induction d with
  | zero =>
    intro i h0 hd
    refine K.succ ?_
    simp only [impl_InSpans.l0]
    rw [List.drop_eq_nil_of_le (by omega)]
    exact K.neg (by omega) (Ev.now _)
  | succ d ih =>
    intro i h0 hd
    refine K.succ ?_
    simp only [impl_InSpans.l0, iIns]
    rw [K.wr (x := i + 1) (by omega) (by omega), rdDrop l i h0 (by omega)]
    refine K.pos (by omega) (K.pos h0 (K.pos (by omega) (K.known rfl ?_)))
    unfold inl
    rw [List.any_cons]
    cases ins (rd_T82 l i) t with
    | true => exact K.pos rfl (Ev.now _)
    | false => exact K.neg Bool.false_ne_true (ih (i + 1) (by omega) (by omega))
def win (p : Int → Bool) (a b : Int) : List S82 := run p [] (mx a 0) (mn b 1000 - mx a 0).toNat
theorem win_len (p : Int → Bool) (a b : Int) : (win p a b).length ≤ 1000 := by
  have hm : mn b 1000 ≤ 1000 := by unfold mn; split <;> omega
  have hx : 0 ≤ mx a 0 := by unfold mx; split <;> omega
  exact Nat.le_trans (run_len _ _ _ _) (by simp; omega)
theorem win_ok (p : Int → Bool) (a b u : Int) (h1 : a ≤ 1000) : (∀ s ∈ win p a b, vs s = true) ∧ inl (win p a b) u = (decide (0 ≤ u ∧ u < 1000 ∧ a ≤ u ∧ u < b) && p u) := by
  have hm : mn b 1000 = if b ≤ 1000 then b else 1000 := by unfold mn; split <;> split <;> omega
  have hx : mx a 0 = if 0 ≤ a then a else 0 := by unfold mx; split <;> split <;> omega
  have h := run_ok p u (mn b 1000 - mx a 0).toNat [] (mx a 0) (by rw [hx]; split <;> omega) (by rw [hx, hm]; (repeat' split) <;> omega) (by simp)
  refine ⟨h.1, ?_⟩
  unfold win
  rw [h.2, show inl ([] : List S82) u = false from rfl, Bool.false_or]
  congr 1
  refine decide_eq_decide.2 ?_
  rw [hx, hm]
  (repeat' split) <;> omega
theorem inSp (l : List S82) (hl : l.length ≤ 1000) (t : Int) : Ev (fun k => impl_InSpans.f k l t) (inl l t) := by
  unfold impl_InSpans.f
  exact iInl l (by omega) t l.length 0 (by omega) (by omega)
theorem l1In (a b c : Int) : spec_l1In.f a b c = some (decide (b ≤ a ∧ a ≤ c)) := by
  unfold spec_l1In.f
  split <;> (try split) <;> first | rfl | (congr 1; exact decide_eq_decide.2 (by omega)) | (congr 1; exact (decide_eq_false (by omega)).symm)
theorem InRange (a b c : Int) : impl_InRange.f a b c = some (decide (b ≤ a ∧ a ≤ c)) := by
  unfold impl_InRange.f
  split <;> (try split) <;> first | rfl | (congr 1; exact decide_eq_decide.2 (by omega)) | (congr 1; exact (decide_eq_false (by omega)).symm)
theorem sIsSite (pl : Int) (sa : List S72) (si : List S74) (rc cr vw su sh : Int) (zo : List S88) (ac : Int) (hn : (sa.length : Int) + si.length ≤ 4194304) (i : Int) : spec_IsSite.f pl sa si rc cr vw su sh zo ac i = some (decide ((sa.length : Int) ≤ i ∧ i < (sa.length : Int) + si.length)) := by
  unfold spec_IsSite.f spec_NodesOf.f
  simp only [Option.bind_some, l1In]
  rw [K.wr (x := (sa.length : Int) + si.length) (by omega) (by omega), K.wr (by omega) (by omega)]
  congr 1
  exact decide_eq_decide.2 (by omega)
theorem iIsSite (pl : Int) (sa : List S72) (si : List S74) (rc cr vw su sh : Int) (zo : List S88) (ac : Int) (hn : (sa.length : Int) + si.length ≤ 4194304) (i : Int) : impl_IsSite.f pl sa si rc cr vw su sh zo ac i = some (decide ((sa.length : Int) ≤ i ∧ i < (sa.length : Int) + si.length)) := by
  unfold impl_IsSite.f impl_NodesOf.f
  simp only [Option.bind_some, InRange]
  rw [K.wr (x := (sa.length : Int) + si.length) (by omega) (by omega), K.wr (by omega) (by omega)]
  congr 1
  exact decide_eq_decide.2 (by omega)
theorem iIsSat (pl : Int) (sa : List S72) (si : List S74) (rc cr vw su sh : Int) (zo : List S88) (ac : Int) (hn : (sa.length : Int) + si.length ≤ 4194304) (i : Int) : impl_isSatellite.f pl sa si rc cr vw su sh zo ac i = some (decide (0 ≤ i ∧ i < (sa.length : Int))) := by
  unfold impl_isSatellite.f
  simp only [Option.bind_some, InRange]
  rw [K.wr (by omega) (by omega)]
  congr 1
  exact decide_eq_decide.2 (by omega)
theorem sIsSat (sa : List S72) (hn : (sa.length : Int) ≤ 4194304) (i : Int) : spec_l1In.f i 0 (wrap64 ((sa.length : Int) - 1)) = some (decide (0 ≤ i ∧ i < (sa.length : Int))) := by
  rw [l1In, K.wr (by omega) (by omega)]
  congr 1
  exact decide_eq_decide.2 (by omega)
theorem sAngle (n : Int) : spec_AngleOf.f n = some (n % 360) := by
  unfold spec_AngleOf.f spec_Mod.f
  have e : decide ((1 : Int) ≤ 360 ∧ (360 : Int) ≤ 1000000000000) = true := by decide
  simp only [l1In, e, Option.bind_some, ↓reduceIte]
  rw [if_neg (by omega)]
  have h := Int.tmod_eq_emod (a := n) (b := 360)
  have hb : -360 < Int.tmod n 360 ∧ Int.tmod n 360 < 360 := by
    rw [h]
    split <;> omega
  rw [K.wr (by omega) (by omega), Int.tmod_eq_emod_of_nonneg (by omega)]
  simp only [Option.bind_some]
  congr 1
  rw [h]
  split <;> omega
theorem iAngle (n : Int) : impl_AngleOf.f n = some (n % 360) := by
  unfold impl_AngleOf.f impl_Mod.f
  have e : decide ((1 : Int) ≤ 360 ∧ (360 : Int) ≤ 1000000000000) = true := by decide
  simp only [InRange, e, Option.bind_some, ↓reduceIte]
  rw [if_neg (by omega)]
  have h := Int.tmod_eq_emod (a := n) (b := 360)
  have hb : -360 < Int.tmod n 360 ∧ Int.tmod n 360 < 360 := by
    rw [h]
    split <;> omega
  have hd : (360 : Int) ∣ n → Int.tmod n 360 = n % 360 := by
    intro hd
    rw [h, if_pos (Or.inr hd)]
    simp
  by_cases c : Int.tmod n 360 < 0
  · rw [if_pos c, K.wr (by omega) (by omega)]
    simp only [Option.bind_some]
    congr 1
    rw [h] at c ⊢
    split at c <;> split <;> omega
  · rw [if_neg c]
    simp only [Option.bind_some]
    congr 1
    rw [h] at c ⊢
    split at c <;> split <;> omega
def placeV (ph sp t : Int) : Int := (ph % 360 + (if -60 ≤ sp ∧ sp ≤ 60 then sp else 0) * (if 0 ≤ t ∧ t ≤ 1000 then t else 0)) % 360
theorem place_bd (s t : Int) (hs : -60 ≤ s ∧ s ≤ 60) (ht : 0 ≤ t ∧ t ≤ 1000) : -60000 ≤ s * t ∧ s * t ≤ 60000 := by
  have h1 : s * t ≤ 60 * t := Int.mul_le_mul_of_nonneg_right hs.2 ht.1
  have h2 : -60 * t ≤ s * t := Int.mul_le_mul_of_nonneg_right hs.1 ht.1
  omega
theorem sPlace (a ph sp e t : Int) : spec_PlaceAt.f a ph sp e t = some (placeV ph sp t) := by
  unfold spec_PlaceAt.f placeV spec_l6Speed.f
  simp only [l1In, sAngle, Option.bind_some, decide_eq_true_eq]
  by_cases ct : 0 ≤ t ∧ t ≤ 1000
  · rw [if_pos ct]
    by_cases cs : -60 ≤ sp ∧ sp ≤ 60
    · have := place_bd sp t cs ct
      rw [if_pos cs]
      simp only [Option.bind_some, if_pos ct, if_pos cs]
      rw [K.wr (x := sp * t) (by omega) (by omega), K.wr (by omega) (by omega)]
    · rw [if_neg cs]
      simp only [Option.bind_some, if_pos ct, if_neg cs]
      rw [K.wr (x := 0 * t) (by omega) (by omega), K.wr (by omega) (by omega)]
  · rw [if_neg ct]
    by_cases cs : -60 ≤ sp ∧ sp ≤ 60
    · rw [if_pos cs]
      simp only [Option.bind_some, if_neg ct]
      rw [K.wr (by omega) (by omega), Int.mul_zero, Int.add_zero]
    · rw [if_neg cs]
      simp only [Option.bind_some, if_neg ct]
      rw [K.wr (by omega) (by omega), Int.mul_zero, Int.add_zero]
theorem iPlace (a ph sp e t : Int) : impl_PlaceAt.f a ph sp e t = some (placeV ph sp t) := by
  unfold impl_PlaceAt.f placeV impl_speedOf.f
  simp only [InRange, iAngle, Option.bind_some, decide_eq_true_eq]
  by_cases ct : 0 ≤ t ∧ t ≤ 1000
  · rw [if_pos ct]
    by_cases cs : -60 ≤ sp ∧ sp ≤ 60
    · have := place_bd sp t cs ct
      rw [if_pos cs]
      simp only [Option.bind_some, if_pos ct, if_pos cs]
      rw [K.wr (x := sp * t) (by omega) (by omega), K.wr (by omega) (by omega)]
    · rw [if_neg cs]
      simp only [Option.bind_some, if_pos ct, if_neg cs]
      rw [K.wr (x := 0 * t) (by omega) (by omega), K.wr (by omega) (by omega)]
  · rw [if_neg ct]
    by_cases cs : -60 ≤ sp ∧ sp ≤ 60
    · rw [if_pos cs]
      simp only [Option.bind_some, if_neg ct]
      rw [K.wr (by omega) (by omega), Int.mul_zero, Int.add_zero]
    · rw [if_neg cs]
      simp only [Option.bind_some, if_neg ct]
      rw [K.wr (by omega) (by omega), Int.mul_zero, Int.add_zero]
theorem place_range (ph sp t : Int) : 0 ≤ placeV ph sp t ∧ placeV ph sp t < 360 := by unfold placeV; omega
theorem sMin (a b : Int) : spec_Min.f a b = some (mn a b) := by
  unfold spec_Min.f mn
  split <;> rfl
theorem iWidth (n : Int) : impl_isWidth.f n = some (decide (0 ≤ n ∧ n ≤ 359)) := by
  unfold impl_isWidth.f
  simp only [InRange, Option.bind_some]
/-- The arc about a place, as wide as an error says: its start and its width. -/
def widS (p e : Int) : Int := if 0 ≤ e ∧ e ≤ 360 then (p % 360 - e) % 360 else p % 360
def widW (e : Int) : Int := if 0 ≤ e ∧ e ≤ 360 then mn (2 * e) 359 else 0
theorem sWiden (p e : Int) : Ev (fun k => spec_WidenArc.f k p 0 e) (widS p e, widW e) := by
  unfold spec_WidenArc.f widS widW
  have e0 : decide ((0 : Int) ≤ 0 ∧ (0 : Int) ≤ 359) = true := by decide
  simp only [l1In, e0, Option.bind_some, decide_eq_true_eq]
  by_cases c : 0 ≤ e ∧ e ≤ 360
  · rw [if_pos c, if_pos c]
    refine K.pos c (K.succ ?_)
    simp only [spec_WidenArc.j0, sAngle, sMin, Option.bind_some]
    refine K.neg (by decide) ?_
    rw [K.wr (x := p % 360 - e) (by omega) (by omega), K.wr (x := 2 * e) (by omega) (by omega), Int.zero_add, K.wr (x := 2 * e) (by omega) (by omega)]
    have hm : mn 359 (2 * e) = mn (2 * e) 359 := by unfold mn; split <;> split <;> omega
    rw [hm]
    exact Ev.now _
  · rw [if_neg c, if_neg c]
    refine K.neg c (K.succ ?_)
    simp only [spec_WidenArc.j0, sAngle, Option.bind_some]
    exact K.pos (by trivial) (Ev.now _)
theorem iWiden (p e : Int) : impl_WidenArc.f p 0 e = some (widS p e, widW e) := by
  unfold impl_WidenArc.f widS widW
  have e0 : decide ((0 : Int) ≤ 0 ∧ (0 : Int) ≤ 359) = true := by decide
  simp only [InRange, iWidth, iAngle, e0, Option.bind_some, decide_eq_true_eq, ↓reduceIte]
  by_cases c : 0 ≤ e ∧ e ≤ 360
  · rw [if_pos c, if_pos c, if_pos c, K.wr (x := p % 360 - e) (by omega) (by omega), K.wr (x := 2 * e) (by omega) (by omega), Int.zero_add, K.wr (x := 2 * e) (by omega) (by omega)]
  · rw [if_neg c, if_neg c, if_neg c]
theorem wid_range (p e : Int) : 0 ≤ widS p e ∧ widS p e < 360 ∧ 0 ≤ widW e ∧ widW e ≤ 359 := by
  unfold widS widW mn
  split <;> (try split) <;> omega
def nodeS (sa : List S72) (si : List S74) (i t : Int) : Int :=
  if 0 ≤ i ∧ i < (sa.length : Int) then widS (placeV (rd_T72 sa i).f1 (rd_T72 sa i).f2 t) (rd_T72 sa i).f3 else if (sa.length : Int) ≤ i ∧ i < (sa.length : Int) + si.length then placeV (rd_T74 si (i - sa.length)).f1 (rd_T74 si (i - sa.length)).f2 t else 0
def nodeW (sa : List S72) (i : Int) : Int :=
  if 0 ≤ i ∧ i < (sa.length : Int) then widW (rd_T72 sa i).f3 else 0
theorem sNode (pl : Int) (sa : List S72) (si : List S74) (rc cr vw su sh : Int) (zo : List S88) (ac : Int) (hn : (sa.length : Int) + si.length ≤ 4194304) (i t : Int) : Ev (fun k => spec_NodeAt.f k pl sa si rc cr vw su sh zo ac i t) (nodeS sa si i t, nodeW sa i) := by
  unfold spec_NodeAt.f nodeS nodeW
  simp only [sIsSat sa (by omega), sIsSite _ _ _ _ _ _ _ _ _ _ hn, Option.bind_some, decide_eq_true_eq]
  by_cases c : 0 ≤ i ∧ i < (sa.length : Int)
  · rw [if_pos c, if_pos c]
    refine K.pos c (K.pos c.1 (K.pos c.2 ?_))
    unfold spec_PlacesAt.f
    simp only [sPlace, Option.bind_some]
    exact Ev.bind (Ev.bind (sWiden _ _) (Ev.now _)) (Ev.now _)
  · rw [if_neg c, if_neg c]
    refine K.neg c ?_
    by_cases c2 : (sa.length : Int) ≤ i ∧ i < (sa.length : Int) + si.length
    · simp only [if_pos c2, sPlace, Option.bind_some]
      rw [K.wr (x := i - sa.length) (by omega) (by omega), if_pos (by omega), if_pos (by omega)]
      exact Ev.now _
    · simp only [if_neg c2]
      exact Ev.now _
theorem iNode (pl : Int) (sa : List S72) (si : List S74) (rc cr vw su sh : Int) (zo : List S88) (ac : Int) (hn : (sa.length : Int) + si.length ≤ 4194304) (i t : Int) : impl_NodeAt.f pl sa si rc cr vw su sh zo ac i t = some (nodeS sa si i t, nodeW sa i) := by
  unfold impl_NodeAt.f nodeS nodeW impl_PlacesAt.f
  simp only [iIsSat _ _ _ _ _ _ _ _ _ _ hn, iIsSite _ _ _ _ _ _ _ _ _ _ hn, iPlace, iWiden, Option.bind_some, decide_eq_true_eq]
  by_cases c : 0 ≤ i ∧ i < (sa.length : Int)
  · rw [if_pos c, if_pos c, if_pos c.1, if_pos c.2, if_pos c]
  · rw [if_neg c, if_neg c, if_neg c]
    by_cases c2 : (sa.length : Int) ≤ i ∧ i < (sa.length : Int) + si.length
    · rw [if_pos c2, if_pos c2, K.wr (x := i - sa.length) (by omega) (by omega), if_pos (by omega), if_pos (by omega)]
    · rw [if_neg c2, if_neg c2]
theorem node_range (sa : List S72) (si : List S74) (i t : Int) : 0 ≤ nodeS sa si i t ∧ nodeS sa si i t < 360 ∧ 0 ≤ nodeW sa i ∧ nodeW sa i ≤ 359 := by
  have h1 := wid_range (placeV (rd_T72 sa i).f1 (rd_T72 sa i).f2 t) (rd_T72 sa i).f3
  have h2 := place_range (rd_T74 si (i - sa.length)).f1 (rd_T74 si (i - sa.length)).f2 t
  unfold nodeS nodeW
  split
  · exact h1
  · split <;> omega
def inArc (s w a : Int) : Prop := (a % 360 - s % 360) % 360 ≤ w
instance (s w a : Int) : Decidable (inArc s w a) := by
  unfold inArc
  infer_instance
theorem sInArc (s w a : Int) : spec_InArc.f s w a = some (decide (inArc s w a)) := by
  unfold spec_InArc.f inArc
  simp only [sAngle, Option.bind_some]
  rw [K.wr (x := a % 360 - s % 360) (by omega) (by omega)]
  by_cases c : w ≥ 0
  · rw [if_pos c]
  · rw [if_neg c]
    congr 1
    exact (decide_eq_false (by omega)).symm
theorem iInArc (s w a : Int) : impl_InArc.f s w a = some (decide (inArc s w a)) := by
  unfold impl_InArc.f inArc
  simp only [iAngle, Option.bind_some]
  rw [K.wr (x := a % 360 - s % 360) (by omega) (by omega)]
def meetV (s w s2 w2 : Int) : Prop := w ≥ 0 ∧ w2 ≥ 0 ∧ (inArc s w s2 ∨ inArc s2 w2 s)
instance (s w s2 w2 : Int) : Decidable (meetV s w s2 w2) := by
  unfold meetV
  infer_instance
theorem sMeet (s w s2 w2 : Int) : spec_ArcsMeet.f s w s2 w2 = some (decide (meetV s w s2 w2)) := by
  unfold spec_ArcsMeet.f meetV
  simp only [sInArc, Option.bind_some, decide_eq_true_eq]
  by_cases c : w ≥ 0
  · rw [if_pos c]
    by_cases c2 : w2 ≥ 0
    · rw [if_pos c2]
      by_cases c3 : inArc s w s2
      · rw [if_pos c3]
        congr 1
        exact (decide_eq_true ⟨c, c2, Or.inl c3⟩).symm
      · rw [if_neg c3]
        congr 1
        exact decide_eq_decide.2 ⟨fun h => ⟨c, c2, Or.inr h⟩, fun h => h.2.2.resolve_left c3⟩
    · rw [if_neg c2]
      congr 1
      exact (decide_eq_false (fun h => c2 h.2.1)).symm
  · rw [if_neg c]
    congr 1
    exact (decide_eq_false (fun h => c h.1)).symm
theorem meet_iff (s w s2 w2 : Int) : (∃ j : Int, 0 ≤ j ∧ j < ((360 : Nat) : Int) ∧ (inArc s w j ∧ inArc s2 w2 j)) ↔ meetV s w s2 w2 := by
  unfold meetV inArc
  constructor
  · rintro ⟨j, h0, h1, h2, h3⟩
    refine ⟨by omega, by omega, ?_⟩
    by_cases c : (j % 360 - s % 360) % 360 ≥ (j % 360 - s2 % 360) % 360
    · exact Or.inl (by omega)
    · exact Or.inr (by omega)
  · rintro ⟨h0, h1, h | h⟩
    · exact ⟨s2 % 360, by omega, by omega, by omega, by omega⟩
    · exact ⟨s % 360, by omega, by omega, by omega, by omega⟩
theorem iMeet (s w s2 w2 : Int) : Ev (fun k => impl_ArcsMeet.f k s w s2 w2) (decide (meetV s w s2 w2)) := by
  unfold impl_ArcsMeet.f
  have key := K.anys (n := 360) (fun k i => impl_ArcsMeet.l0 k i s w s2 w2) (fun _ => some false) (fun j => inArc s w j ∧ inArc s2 w2 j) (by
    intro k i hi
    simp only [impl_ArcsMeet.l0]
    rw [if_neg (show ¬ i < 360 by omega)]) (by
    intro k i i0 hi ho
    simp only [impl_ArcsMeet.l0, iInArc, Option.bind_some, decide_eq_true_eq]
    rw [if_pos (show i < 360 by omega), if_pos ho.1, if_pos ho.2]) (by
    intro k i i0 hi ho
    simp only [impl_ArcsMeet.l0, iInArc, Option.bind_some, decide_eq_true_eq]
    rw [if_pos (show i < 360 by omega), K.wr (x := i + 1) (by omega) (by omega)]
    by_cases c : inArc s w i
    · rw [if_pos c, if_neg (fun h => ho ⟨c, h⟩)]
    · rw [if_neg c]) 360 0 (by omega) (by omega)
  by_cases c : meetV s w s2 w2
  · rw [decide_eq_true c]
    exact key.1 ((meet_iff s w s2 w2).2 c)
  · rw [decide_eq_false c]
    exact key.2 (fun h => c ((meet_iff s w s2 w2).1 h)) false (Ev.now _)
theorem disturb (pl : Int) (sa : List S72) (si : List S74) (rc cr vw su sh : Int) (zo : List S88) (ac : Int) (hn : (sa.length : Int) + si.length ≤ 4194304) (hz : zo.length ≤ 1048576) (i t : Int) :
    ∃ b : Bool, Ev (fun k => spec_MayDisturb.f k pl sa si rc cr vw su sh zo ac i t) b ∧ Ev (fun k => impl_MayDisturb.f k pl sa si rc cr vw su sh zo ac i t) b ∧ (¬ (0 ≤ i ∧ i < (sa.length : Int)) → b = false) := by
  unfold spec_MayDisturb.f impl_MayDisturb.f
  simp only [sIsSat sa (by omega), iIsSat _ _ _ _ _ _ _ _ _ _ hn, Option.bind_some, decide_eq_true_eq]
  by_cases c : 0 ≤ i ∧ i < (sa.length : Int)
  · rw [iNode _ _ _ _ _ _ _ _ _ _ hn]
    simp only [Option.bind_some]
    have loop : ∀ (d : Nat) (j : Int), 0 ≤ j → (zo.length : Int) - j = d → ∃ b : Bool, Ev (fun k => spec_MayDisturb.l0 k i t j pl sa si rc cr vw su sh zo ac) b ∧ Ev (fun k => impl_MayDisturb.l0 k i zo (zo.length : Int) j pl sa si rc cr vw su sh zo ac (nodeS sa si i t) (nodeW sa i)) b := by
      intro d
      induction d with
      | zero =>
        intro j h0 hd
        refine ⟨false, K.succ ?_, K.succ ?_⟩
        · simp only [spec_MayDisturb.l0]
          exact K.neg (by omega) (Ev.now _)
        · simp only [impl_MayDisturb.l0]
          exact K.neg (by omega) (Ev.now _)
      | succ d ih =>
        intro j h0 hd
        have w1 : wrap64 (j + 1) = j + 1 := K.wr (by omega) (by omega)
        obtain ⟨b, g1, g2⟩ := ih (j + 1) (by omega) (by omega)
        by_cases c2 : (rd_T88 zo j).f0 = (rd_T72 sa i).f0
        · by_cases c3 : meetV (nodeS sa si i t) (nodeW sa i) (rd_T88 zo j).f1.f0 (rd_T88 zo j).f1.f1
          · have e := iMeet (nodeS sa si i t) (nodeW sa i) (rd_T88 zo j).f1.f0 (rd_T88 zo j).f1.f1
            rw [decide_eq_true c3] at e
            refine ⟨true, K.succ ?_, K.succ ?_⟩
            · simp only [spec_MayDisturb.l0, sMeet, Option.bind_some]
              refine K.pos (by omega) (K.pos h0 (K.pos c.1 (K.pos c.2 (K.pos c2 (Ev.bind (sNode _ _ _ _ _ _ _ _ _ _ hn i t) ?_)))))
              exact K.pos (decide_eq_true c3) (Ev.now _)
            · simp only [impl_MayDisturb.l0]
              exact K.pos (by omega) (K.pos h0 (K.pos (by omega) (K.pos c.1 (K.pos c.2 (K.pos c2 (Ev.bind e (K.pos rfl (Ev.now _))))))))
          · have e := iMeet (nodeS sa si i t) (nodeW sa i) (rd_T88 zo j).f1.f0 (rd_T88 zo j).f1.f1
            rw [decide_eq_false c3] at e
            refine ⟨b, K.succ ?_, K.succ ?_⟩
            · simp only [spec_MayDisturb.l0, sMeet, Option.bind_some, w1]
              refine K.pos (by omega) (K.pos h0 (K.pos c.1 (K.pos c.2 (K.pos c2 (Ev.bind (sNode _ _ _ _ _ _ _ _ _ _ hn i t) ?_)))))
              exact K.neg (fun h => c3 (of_decide_eq_true h)) g1
            · simp only [impl_MayDisturb.l0, w1]
              exact K.pos (by omega) (K.pos h0 (K.pos (by omega) (K.pos c.1 (K.pos c.2 (K.pos c2 (Ev.bind e (K.neg Bool.false_ne_true g2)))))))
        · refine ⟨b, K.succ ?_, K.succ ?_⟩
          · simp only [spec_MayDisturb.l0, w1]
            exact K.pos (by omega) (K.pos h0 (K.pos c.1 (K.pos c.2 (K.neg c2 g1))))
          · simp only [impl_MayDisturb.l0, w1]
            exact K.pos (by omega) (K.pos h0 (K.pos (by omega) (K.pos c.1 (K.pos c.2 (K.neg c2 g2)))))
    obtain ⟨b, g1, g2⟩ := loop zo.length 0 (by omega) (by omega)
    exact ⟨b, K.pos c g1, K.pos c g2, fun h => absurd c h⟩
  · exact ⟨false, K.neg c (Ev.now _), K.neg c (Ev.now _), fun _ => rfl⟩

theorem l8 (a b : Int) : ∃ lo hi : Int, spec_l8Ticks.f a b = some (lo, hi) ∧ 0 ≤ lo ∧ hi ≤ 1000 ∧ ∀ p : Int → Bool, run p [] lo (hi - lo).toNat = run p [] (mx a 0) (mn b 1000 - mx a 0).toNat := by
  refine ⟨if (if a > 0 then a else 0) < 1000 then (if a > 0 then a else 0) else 1000, if (if b < 1000 then b else 1000) > 0 then (if b < 1000 then b else 1000) else 0, ?_, ?_, ?_, ?_⟩
  · have m2 : ∀ x : Int, spec_Min.f 1000 x = some (if x < 1000 then x else 1000) := by
      intro x
      unfold spec_Min.f
      split <;> rfl
    have m3 : ∀ x : Int, spec_Max.f 0 x = some (if x > 0 then x else 0) := by
      intro x
      unfold spec_Max.f
      split <;> rfl
    unfold spec_l8Ticks.f
    rw [m3, Option.bind_some, m2, Option.bind_some, m2, Option.bind_some, m3, Option.bind_some]
  · (repeat' split) <;> omega
  · (repeat' split) <;> omega
  · intro p
    have e1 : mx a 0 = if a > 0 then a else 0 := by unfold mx; (repeat' split) <;> omega
    have e2 : mn b 1000 = if b < 1000 then b else 1000 := by unfold mn; (repeat' split) <;> omega
    rw [e1, e2]
    have hx : 0 ≤ (if a > 0 then a else 0) := by split <;> omega
    have hy : (if b < 1000 then b else 1000) ≤ 1000 := by split <;> omega
    generalize (if a > 0 then a else 0) = x at hx
    generalize (if b < 1000 then b else 1000) = y at hy
    by_cases c : x < y
    · have c1 : x < 1000 := by omega
      have c2 : y > 0 := by omega
      rw [if_pos c1, if_pos c2]
    · have d1 : (y - x).toNat = 0 := by omega
      have d2 : ((if y > 0 then y else 0) - (if x < 1000 then x else 1000)).toNat = 0 := by
        (repeat' split) <;> omega
      rw [d1, d2]
      rfl
theorem mayD (pl : Int) (sa : List S72) (si : List S74) (rc cr vw su sh : Int) (zo : List S88) (ac : Int) (hn : (sa.length : Int) + si.length ≤ 4194304) (hz : zo.length ≤ 1048576) : ∃ p : Int → Int → Bool, ∀ i t, Ev (fun k => impl_MayDisturb.f k pl sa si rc cr vw su sh zo ac i t) (p i t) ∧ (¬ (0 ≤ i ∧ i < (sa.length : Int)) → p i t = false) :=
  ⟨fun i t => (disturb pl sa si rc cr vw su sh zo ac hn hz i t).choose, fun i t => ⟨(disturb pl sa si rc cr vw su sh zo ac hn hz i t).choose_spec.2.1, (disturb pl sa si rc cr vw su sh zo ac hn hz i t).choose_spec.2.2⟩⟩
theorem iQuietW (pl : Int) (sa : List S72) (si : List S74) (rc cr vw su sh : Int) (zo : List S88) (ac : Int) (p : Int → Int → Bool) (hp : ∀ i t, Ev (fun k => impl_MayDisturb.f k pl sa si rc cr vw su sh zo ac i t) (p i t)) (i a b : Int) : Ev (fun k => impl_QuietSpans.f k pl sa si rc cr vw su sh zo ac i a b) (win (p i) a b) := by
  have hm : mn b 1000 ≤ 1000 := by unfold mn; split <;> omega
  have hx : 0 ≤ mx a 0 := by unfold mx; split <;> omega
  unfold impl_QuietSpans.f where_impl_QuietSpans_1.f sw.f
  refine Ev.bind (whereRun (fun k t' => impl_QuietSpans_1.f k t' pl sa si rc cr vw su sh zo ac i) (p i) b (fun t _ _ => ?_) _ [] (mx a 0) hx rfl (by simp; omega)) (Ev.now _)
  unfold impl_QuietSpans_1.f
  exact Ev.bind (hp i t) (Ev.now _)
theorem iSureWn (pl : Int) (sa : List S72) (si : List S74) (rc cr vw su sh : Int) (zo : List S88) (ac : Int) (q : Int → Bool) (i j : Int) (hq : ∀ t, Ev (fun k => impl_IsSure.f k pl sa si rc cr vw su sh zo ac i j t) (q t)) (a b : Int) : Ev (fun k => impl_SureWindows.f k pl sa si rc cr vw su sh zo ac i j a b) (win q a b) := by
  have hm : mn b 1000 ≤ 1000 := by unfold mn; split <;> omega
  have hx : 0 ≤ mx a 0 := by unfold mx; split <;> omega
  unfold impl_SureWindows.f where_impl_SureWindows_1.f sw.f
  refine Ev.bind (whereRun (fun k t' => impl_SureWindows_1.f k t' pl sa si rc cr vw su sh zo ac i j) q b (fun t _ _ => ?_) _ [] (mx a 0) hx rfl (by simp; omega)) (Ev.now _)
  unfold impl_SureWindows_1.f
  exact Ev.bind (hq t) (Ev.now _)
theorem inl_all (p : Int → Bool) (u : Int) (h0 : 0 ≤ u) (h1 : u < 1000) : inl (run p [] 0 1000) u = p u := by
  rw [(run_ok p u 1000 [] 0 (by omega) (by omega) (by simp)).2, decide_eq_true (by omega)]
  simp [inl]
def cutP (a b : List S82) (t : Int) : Bool := inl a t && !inl b t
theorem sCut (a b : List S82) (ha : a.length ≤ 2097152) (hb : b.length ≤ 2097152) (n : Int) (hn : n ≤ 1000) : ∀ (d : Nat) (o : List S82) (t : Int), 0 ≤ t → n - t = d → o.length + d ≤ 7000000000000 → Ev (fun k => spec_CutSpans.l0 k a b o n t) (run (cutP a b) o t d) := by
  intro d
  induction d with
  | zero =>
    intro o t h0 hd ho
    refine K.succ ?_
    simp only [spec_CutSpans.l0, run]
    exact K.neg (by omega) (Ev.now _)
  | succ d ih =>
    intro o t h0 hd ho
    refine K.succ ?_
    simp only [spec_CutSpans.l0, run]
    rw [K.wr (x := t + 1) (by omega) (by omega)]
    refine K.pos (by omega) (Ev.bind (sInl a ha t a.length 0 (by omega) (by omega)) ?_)
    rw [show a.drop (0 : Int).toNat = a from rfl]
    have hp := put_len o t
    by_cases c : inl a t = true
    · refine K.pos c (Ev.bind (sInl b hb t b.length 0 (by omega) (by omega)) ?_)
      rw [show b.drop (0 : Int).toNat = b from rfl]
      by_cases c2 : inl b t = true
      · rw [if_neg (by simp [cutP, c2])]
        exact K.pos c2 (ih o (t + 1) (by omega) (by omega) (by omega))
      · rw [if_pos (by simp [cutP, c, c2])]
        exact K.neg c2 (K.known (sPut o t h0 (by omega) (by omega)) (ih (put o t) (t + 1) (by omega) (by omega) (by omega)))
    · rw [if_neg (by simp [cutP, c])]
      exact K.neg c (ih o (t + 1) (by omega) (by omega) (by omega))
theorem cutBoth (a b : List S82) (ha : a.length ≤ 2097152) (hb : b.length ≤ 2097152) : Ev (fun k => spec_CutSpans.f k a b) (run (cutP a b) [] 0 1000) ∧ Ev (fun k => impl_CutSpans.f k a b) (run (cutP a b) [] 0 1000) := by
  refine ⟨?_, ?_⟩
  · unfold spec_CutSpans.f spec_l4Last.f
    refine Ev.bind (sLast a ha a.length 0 0 (by omega) (by omega)) ?_
    rw [show a.drop (0 : Int).toNat = a from rfl]
    obtain ⟨h1, h2, _⟩ := last_le a 0
    have h2' := h2 (by omega)
    have e : run (cutP a b) [] 0 1000 = run (cutP a b) [] 0 (last a 0).toNat := by
      rw [show (1000 : Nat) = (last a 0).toNat + (1000 - (last a 0).toNat) by omega, run_add]
      refine run_none _ _ _ _ (fun u hu => ?_)
      unfold cutP
      rw [beyond a u (by omega)]
      rfl
    rw [e]
    exact sCut a b ha hb (last a 0) h2' _ [] 0 (by omega) (by omega) (by simp; omega)
  · unfold impl_CutSpans.f
    obtain ⟨x, g1, g2, g3⟩ := ticksOf a ha
    obtain ⟨y, i1, i2, i3⟩ := ticksOf b hb
    refine Ev.bind g1 (Ev.bind i1 (Ev.bind (r := run (cutP a b) [] 0 1000) ?_ (Ev.now _)))
    unfold where_impl_CutSpans_1.f sw.f
    have hm : mn 1000 1000 = 1000 := by unfold mn; rfl
    have hx : mx 0 0 = 0 := by unfold mx; rfl
    rw [hx]
    refine whereRun (fun _ t => impl_CutSpans_1.f t x y) (cutP a b) 1000 (fun t h0 h1 => ?_) 1000 [] 0 (by omega) (by rw [hm]; rfl) (by simp)
    rw [hm] at h1
    unfold impl_CutSpans_1.f cutP
    rw [g2, i2, g3 t h0 h1, i3 t h0 h1]
    refine K.pos h0 (K.pos (by omega) ?_)
    by_cases c : inl a t = true
    · rw [c]
      exact K.pos rfl (K.pos (by omega) (Ev.now _))
    · rw [Bool.eq_false_iff.2 c]
      exact K.neg Bool.false_ne_true (Ev.now _)
theorem cut_cut (a b c : List S82) : run (cutP (run (cutP a b) [] 0 1000) c) [] 0 1000 = run (cutP a (b ++ c)) [] 0 1000 := by
  refine run_eq _ _ _ _ _ (fun u h0 h1 => ?_)
  unfold cutP
  rw [inl_all _ u h0 (by omega), inl_app, Bool.not_or, Bool.and_assoc]
theorem concat2 (a b : List S82) (ha : a.length ≤ 2097152) (hb : b.length ≤ 2097152) : Ev (fun k => impl_Span_70.f k [a, b]) (a ++ b) := by
  unfold impl_Span_70.f
  have r0 : rd_L8 [a, b] 0 = a := rfl
  have r1 : rd_L8 [a, b] 1 = b := rfl
  have hl : (([a, b] : List (List S82)).length : Int) = 2 := rfl
  have w0 : wrap64 (0 + (a.length : Int)) = (a.length : Int) := by
    rw [K.wr (by omega) (by omega)]
    omega
  have w1 : wrap64 ((a.length : Int) + (b.length : Int)) = (a.length : Int) + (b.length : Int) := K.wr (by omega) (by omega)
  have w2 : wrap64 (0 + 1) = 1 := K.wr (x := 0 + 1) (by omega) (by omega)
  have w3 : wrap64 (1 + 1) = 2 := K.wr (x := 1 + 1) (by omega) (by omega)
  have hg : grow103.f ((a.length : Int) + (b.length : Int)) = some [] := by
    unfold grow103.f
    rw [if_pos (by omega)]
  rw [hl]
  refine K.succ ?_
  simp only [impl_Span_70.l0, r0, w0, w2]
  refine K.pos (by decide) (K.pos (by decide) (K.pos (by rw [hl]; decide) (K.neg (by omega) (K.succ ?_))))
  simp only [impl_Span_70.l0, r1, w1, w3]
  refine K.pos (by decide) (K.pos (by decide) (K.pos (by rw [hl]; decide) (K.neg (by omega) (K.succ ?_))))
  simp only [impl_Span_70.l0]
  refine K.neg (by decide) (K.known hg ?_)
  rw [hl]
  refine K.succ ?_
  simp only [impl_Span_70.l1, r0, w2, List.nil_append]
  refine K.pos (by decide) (K.pos (by decide) (K.pos (by rw [hl]; decide) (K.pos (by simp; omega) (K.succ ?_))))
  simp only [impl_Span_70.l1, r1, w3]
  refine K.pos (by decide) (K.pos (by decide) (K.pos (by rw [hl]; decide) (K.pos (by omega) (K.succ ?_))))
  simp only [impl_Span_70.l1]
  exact K.neg (by decide) (Ev.now _)
def planeV (sa : List S72) (si : List S74) (i : Int) : Int :=
  if 0 ≤ i ∧ i < (sa.length : Int) then (rd_T72 sa i).f0 else if (sa.length : Int) ≤ i ∧ i < (sa.length : Int) + si.length then (rd_T74 si (i - sa.length)).f0 else -1
theorem sPlane (pl : Int) (sa : List S72) (si : List S74) (rc cr vw su sh : Int) (zo : List S88) (ac : Int) (hn : (sa.length : Int) + si.length ≤ 4194304) (i : Int) : spec_PlaneOf.f pl sa si rc cr vw su sh zo ac i = some (planeV sa si i) := by
  unfold spec_PlaneOf.f planeV
  simp only [sIsSat sa (by omega), sIsSite _ _ _ _ _ _ _ _ _ _ hn, Option.bind_some, decide_eq_true_eq]
  by_cases c : 0 ≤ i ∧ i < (sa.length : Int)
  · rw [if_pos c, if_pos c, if_pos c.1, if_pos c.2]
  · rw [if_neg c, if_neg c]
    by_cases c2 : (sa.length : Int) ≤ i ∧ i < (sa.length : Int) + si.length
    · rw [if_pos c2, if_pos c2, K.wr (x := i - sa.length) (by omega) (by omega), if_pos (by omega), if_pos (by omega)]
    · rw [if_neg c2, if_neg c2]
theorem iPlane (pl : Int) (sa : List S72) (si : List S74) (rc cr vw su sh : Int) (zo : List S88) (ac : Int) (hn : (sa.length : Int) + si.length ≤ 4194304) (i : Int) : impl_PlaneOf.f pl sa si rc cr vw su sh zo ac i = some (planeV sa si i) := by
  unfold impl_PlaneOf.f planeV
  simp only [iIsSat _ _ _ _ _ _ _ _ _ _ hn, iIsSite _ _ _ _ _ _ _ _ _ _ hn, Option.bind_some, decide_eq_true_eq]
  by_cases c : 0 ≤ i ∧ i < (sa.length : Int)
  · rw [if_pos c, if_pos c, if_pos c.1, if_pos c.2]
  · rw [if_neg c, if_neg c]
    by_cases c2 : (sa.length : Int) ≤ i ∧ i < (sa.length : Int) + si.length
    · rw [if_pos c2, if_pos c2, K.wr (x := i - sa.length) (by omega) (by omega), if_pos (by omega), if_pos (by omega)]
    · rw [if_neg c2, if_neg c2]
theorem sMax (a b : Int) : spec_Max.f a b = some (mx a b) := by
  unfold spec_Max.f mx
  split <;> first | rfl | (split <;> first | rfl | (exfalso; omega))
def nearV (pl p q : Int) : Bool := decide (0 ≤ mn p q ∧ mn p q < mx p q ∧ (mx p q - mn p q = 1 ∨ mn p q = 0 ∧ mx p q ≤ 4 ∧ mx p q + 1 = pl))
theorem sNear (pl : Int) (sa : List S72) (si : List S74) (rc cr vw su sh : Int) (zo : List S88) (ac : Int) (p q : Int) (hp0 : -9223372036854775808 ≤ p) (hp1 : p ≤ 9223372036854775807) (hq0 : -9223372036854775808 ≤ q) (hq1 : q ≤ 9223372036854775807) : spec_l7Near.f pl sa si rc cr vw su sh zo ac p q = some (nearV pl p q) := by
  unfold spec_l7Near.f nearV
  simp only [sMin, sMax, Option.bind_some]
  have hm : -9223372036854775808 ≤ mn p q ∧ mn p q ≤ 9223372036854775807 := by unfold mn; split <;> omega
  have hx : -9223372036854775808 ≤ mx p q ∧ mx p q ≤ 9223372036854775807 := by unfold mx; split <;> omega
  generalize mn p q = lo at hm ⊢
  generalize mx p q = hi at hx ⊢
  by_cases c1 : lo ≥ 0
  · rw [if_pos c1]
    by_cases c2 : hi > lo
    · rw [if_pos c2, K.wr (x := hi - lo) (by omega) (by omega)]
      by_cases c3 : hi - lo = 1
      · rw [if_pos c3]
        congr 1
        exact (decide_eq_true (by omega)).symm
      · rw [if_neg c3]
        by_cases c4 : lo = 0
        · rw [if_pos c4]
          by_cases c5 : hi ≤ 4
          · rw [if_pos c5, K.wr (x := hi + 1) (by omega) (by omega)]
            congr 1
            by_cases c6 : hi + 1 = pl
            · rw [beq_iff_eq.2 c6]
              exact (decide_eq_true (by omega)).symm
            · rw [beq_eq_false_iff_ne.2 c6]
              exact (decide_eq_false (by omega)).symm
          · rw [if_neg c5]
            congr 1
            exact (decide_eq_false (by omega)).symm
        · rw [if_neg c4]
          congr 1
          exact (decide_eq_false (by omega)).symm
    · rw [if_neg c2]
      congr 1
      exact (decide_eq_false (by omega)).symm
  · rw [if_neg c1]
    congr 1
    exact (decide_eq_false (by omega)).symm
/-- The program's neighbors, the less plane first. -/
theorem near_side (pl lo hi : Int) (hle : lo ≤ hi) (hl0 : -9223372036854775808 ≤ lo) (hh1 : hi ≤ 9223372036854775807) (hpl0 : -9223372036854775808 ≤ pl) (hpl1 : pl ≤ 9223372036854775807) :
    (if lo ≥ 0 then (if (wrap64 (hi - lo)) = 1 then (some true) else (if lo = 0 then (if hi = (wrap64 (pl - 1)) then ((impl_InRange.f hi 1 4).bind fun t => (some t)) else (some false)) else (some false))) else (if lo = 0 then (if hi = (wrap64 (pl - 1)) then ((impl_InRange.f hi 1 4).bind fun t => (some t)) else (some false)) else (some false)))
      = some (decide (0 ≤ lo ∧ lo < hi ∧ (hi - lo = 1 ∨ lo = 0 ∧ hi ≤ 4 ∧ hi + 1 = pl))) := by
  simp only [InRange, Option.bind_some]
  by_cases c1 : lo ≥ 0
  · rw [if_pos c1, K.wr (x := hi - lo) (by omega) (by omega)]
    by_cases c3 : hi - lo = 1
    · rw [if_pos c3]
      congr 1
      exact (decide_eq_true (by omega)).symm
    · rw [if_neg c3]
      by_cases c4 : lo = 0
      · rw [if_pos c4]
        by_cases cm : pl = -9223372036854775808
        · have : wrap64 (pl - 1) = 9223372036854775807 := by
            rw [cm]
            unfold wrap64
            omega
          rw [this]
          by_cases c5 : hi = 9223372036854775807
          · rw [if_pos c5]
            congr 1
            exact (decide_eq_false (by omega)).trans (decide_eq_false (by omega)).symm
          · rw [if_neg c5]
            congr 1
            exact (decide_eq_false (by omega)).symm
        · rw [K.wr (x := pl - 1) (by omega) (by omega)]
          by_cases c5 : hi = pl - 1
          · rw [if_pos c5]
            congr 1
            exact decide_eq_decide.2 (by omega)
          · rw [if_neg c5]
            congr 1
            exact (decide_eq_false (by omega)).symm
      · rw [if_neg c4]
        congr 1
        exact (decide_eq_false (by omega)).symm
  · rw [if_neg c1, if_neg (by omega)]
    congr 1
    exact (decide_eq_false (by omega)).symm
theorem iNear (pl : Int) (sa : List S72) (si : List S74) (rc cr vw su sh : Int) (zo : List S88) (ac : Int) (hpl0 : -9223372036854775808 ≤ pl) (hpl1 : pl ≤ 9223372036854775807) (p q : Int) (hp0 : -9223372036854775808 ≤ p) (hp1 : p ≤ 9223372036854775807) (hq0 : -9223372036854775808 ≤ q) (hq1 : q ≤ 9223372036854775807) : impl_areNeighbors.f pl sa si rc cr vw su sh zo ac p q = some (nearV pl p q) := by
  unfold impl_areNeighbors.f nearV mn mx
  by_cases c : p > q
  · rw [if_pos c, near_side pl q p (by omega) hq0 hp1 hpl0 hpl1, if_pos (by omega), if_neg (by omega)]
  · rw [if_neg c, near_side pl p q (by omega) hp0 hq1 hpl0 hpl1, if_neg (by omega)]
    by_cases c2 : p < q
    · rw [if_pos c2]
    · have : p = q := by omega
      subst this
      rw [if_neg c2]
theorem near_self (pl p : Int) : nearV pl p p = false := by
  unfold nearV
  refine decide_eq_false (fun h => ?_)
  have h1 : mn p p = p := by unfold mn; split <;> rfl
  have h2 : mx p p = p := by unfold mx; split <;> rfl
  rw [h1, h2] at h
  omega
theorem plane_wf (sa : List S72) (si : List S74) (h1 : ∀ x ∈ sa, -9223372036854775808 ≤ x.f0 ∧ x.f0 ≤ 9223372036854775807) (h2 : ∀ x ∈ si, -9223372036854775808 ≤ x.f0 ∧ x.f0 ≤ 9223372036854775807) (i : Int) :
    -9223372036854775808 ≤ planeV sa si i ∧ planeV sa si i ≤ 9223372036854775807 := by
  unfold planeV
  split
  · rename_i h
    have hg : sa[i.toNat]? = some (sa[i.toNat]'(by omega)) := List.getElem?_eq_getElem (by omega)
    have : rd_T72 sa i = sa[i.toNat]'(by omega) := by simp only [rd_T72, List.getD_eq_getElem?_getD, hg, Option.getD_some]
    rw [this]
    exact h1 _ (List.getElem_mem _)
  · split
    · rename_i h
      have hg : si[(i - sa.length).toNat]? = some (si[(i - sa.length).toNat]'(by omega)) := List.getElem?_eq_getElem (by omega)
      have : rd_T74 si (i - sa.length) = si[(i - sa.length).toNat]'(by omega) := by simp only [rd_T74, List.getD_eq_getElem?_getD, hg, Option.getD_some]
      rw [this]
      exact h2 _ (List.getElem_mem _)
    · omega
/-- What both come to. -/
def limV (pl : Int) (sa : List S72) (si : List S74) (rc cr vw a b : Int) : Int :=
  if a = b ∨ ¬ (0 ≤ a ∧ a < (sa.length : Int) + si.length) ∨ ¬ (0 ≤ b ∧ b < (sa.length : Int) + si.length) ∨ ((sa.length : Int) ≤ a ∧ (sa.length : Int) ≤ b) then -1
  else if (sa.length : Int) ≤ a ∨ (sa.length : Int) ≤ b then (if planeV sa si a = planeV sa si b ∨ nearV pl (planeV sa si a) (planeV sa si b) = true then vw else -1)
  else if planeV sa si a = planeV sa si b then rc else if nearV pl (planeV sa si a) (planeV sa si b) = true then cr else -1
theorem sLimit (pl : Int) (sa : List S72) (si : List S74) (rc cr vw su sh : Int) (zo : List S88) (ac : Int) (hn : (sa.length : Int) + si.length ≤ 4194304) (h1 : ∀ x ∈ sa, -9223372036854775808 ≤ x.f0 ∧ x.f0 ≤ 9223372036854775807) (h2 : ∀ x ∈ si, -9223372036854775808 ≤ x.f0 ∧ x.f0 ≤ 9223372036854775807) (a b : Int) :
    Ev (fun k => spec_LimitOf.f k pl sa si rc cr vw su sh zo ac a b) (limV pl sa si rc cr vw a b) := by
  have hp := plane_wf sa si h1 h2 a
  have hq := plane_wf sa si h1 h2 b
  have hend : ∀ v, v = -1 → Ev (fun k => spec_LimitOf.j0 k a b true pl sa si rc cr vw su sh zo ac) v := by
    intro v hv
    subst hv
    refine K.succ ?_
    simp only [spec_LimitOf.j0]
    exact K.pos (by trivial) (Ev.now _)
  unfold spec_LimitOf.f spec_NodesOf.f
  simp only [Option.bind_some, l1In, sIsSite _ _ _ _ _ _ _ _ _ _ hn, decide_eq_true_eq]
  rw [K.wr (x := (sa.length : Int) + si.length) (by omega) (by omega), K.wr (x := (sa.length : Int) + si.length - 1) (by omega) (by omega)]
  by_cases ca : 0 ≤ a ∧ a < (sa.length : Int) + si.length
  · refine K.pos (by omega) ?_
    by_cases cb : 0 ≤ b ∧ b < (sa.length : Int) + si.length
    · refine K.pos (by omega) ?_
      by_cases ce : a = b
      · exact K.pos ce (hend _ (by unfold limV; rw [if_pos (Or.inl ce)]))
      · refine K.neg ce ?_
        by_cases sa_ : (sa.length : Int) ≤ a
        · refine K.pos (by omega) ?_
          by_cases sb_ : (sa.length : Int) ≤ b
          · rw [show decide ((sa.length : Int) ≤ b ∧ b < (sa.length : Int) + si.length) = true from decide_eq_true (by omega)]
            exact hend _ (by unfold limV; rw [if_pos (Or.inr (Or.inr (Or.inr ⟨sa_, sb_⟩)))])
          · rw [show decide ((sa.length : Int) ≤ b ∧ b < (sa.length : Int) + si.length) = false from decide_eq_false (by omega)]
            refine K.succ ?_
            simp only [spec_LimitOf.j0, sPlane _ _ _ _ _ _ _ _ _ _ hn, sIsSite _ _ _ _ _ _ _ _ _ _ hn, Option.bind_some]
            refine K.neg Bool.false_ne_true ?_
            rw [show decide ((sa.length : Int) ≤ a ∧ a < (sa.length : Int) + si.length) = true from decide_eq_true (by omega)]
            refine K.pos rfl (K.succ ?_)
            simp only [spec_LimitOf.j1, sNear _ _ _ _ _ _ _ _ _ _ _ _ hp.1 hp.2 hq.1 hq.2, Option.bind_some]
            refine K.pos (by trivial) ?_
            have e : limV pl sa si rc cr vw a b = if planeV sa si a = planeV sa si b ∨ nearV pl (planeV sa si a) (planeV sa si b) = true then vw else -1 := by
              unfold limV
              rw [if_neg (by omega), if_pos (Or.inl sa_)]
            by_cases c1 : planeV sa si a = planeV sa si b
            · rw [e.trans (if_pos (Or.inl c1))]
              exact K.pos c1 (Ev.now _)
            · refine K.neg c1 ?_
              by_cases c2 : nearV pl (planeV sa si a) (planeV sa si b) = true
              · rw [e.trans (if_pos (Or.inr c2))]
                exact K.pos c2 (Ev.now _)
              · rw [e.trans (if_neg (fun h => h.elim c1 c2))]
                exact K.neg c2 (Ev.now _)
        · refine K.neg (by omega) (K.succ ?_)
          simp only [spec_LimitOf.j0, sPlane _ _ _ _ _ _ _ _ _ _ hn, sIsSite _ _ _ _ _ _ _ _ _ _ hn, Option.bind_some]
          refine K.neg Bool.false_ne_true ?_
          rw [show decide ((sa.length : Int) ≤ a ∧ a < (sa.length : Int) + si.length) = false from decide_eq_false (by omega)]
          refine K.neg Bool.false_ne_true (K.succ ?_)
          simp only [spec_LimitOf.j1, sNear _ _ _ _ _ _ _ _ _ _ _ _ hp.1 hp.2 hq.1 hq.2, Option.bind_some, decide_eq_true_eq]
          by_cases sb_ : (sa.length : Int) ≤ b
          · refine K.pos (by omega) ?_
            have e : limV pl sa si rc cr vw a b = if planeV sa si a = planeV sa si b ∨ nearV pl (planeV sa si a) (planeV sa si b) = true then vw else -1 := by
              unfold limV
              rw [if_neg (by omega), if_pos (Or.inr sb_)]
            by_cases c1 : planeV sa si a = planeV sa si b
            · rw [e.trans (if_pos (Or.inl c1))]
              exact K.pos c1 (Ev.now _)
            · refine K.neg c1 ?_
              by_cases c2 : nearV pl (planeV sa si a) (planeV sa si b) = true
              · rw [e.trans (if_pos (Or.inr c2))]
                exact K.pos c2 (Ev.now _)
              · rw [e.trans (if_neg (fun h => h.elim c1 c2))]
                exact K.neg c2 (Ev.now _)
          · refine K.neg (by omega) ?_
            have e : limV pl sa si rc cr vw a b = if planeV sa si a = planeV sa si b then rc else if nearV pl (planeV sa si a) (planeV sa si b) = true then cr else -1 := by
              unfold limV
              rw [if_neg (by omega), if_neg (by omega)]
            by_cases c1 : planeV sa si a = planeV sa si b
            · rw [e.trans (if_pos c1)]
              exact K.pos c1 (Ev.now _)
            · refine K.neg c1 ?_
              by_cases c2 : nearV pl (planeV sa si a) (planeV sa si b) = true
              · rw [e.trans ((if_neg c1).trans (if_pos c2))]
                exact K.pos c2 (Ev.now _)
              · rw [e.trans ((if_neg c1).trans (if_neg c2))]
                exact K.neg c2 (Ev.now _)
    · exact K.neg (by omega) (hend _ (by unfold limV; rw [if_pos (Or.inr (Or.inr (Or.inl cb)))]))
  · exact K.neg (by omega) (hend _ (by unfold limV; rw [if_pos (Or.inr (Or.inl ca))]))
theorem iLimit (pl : Int) (sa : List S72) (si : List S74) (rc cr vw su sh : Int) (zo : List S88) (ac : Int) (hn : (sa.length : Int) + si.length ≤ 4194304) (hpl0 : -9223372036854775808 ≤ pl) (hpl1 : pl ≤ 9223372036854775807) (h1 : ∀ x ∈ sa, -9223372036854775808 ≤ x.f0 ∧ x.f0 ≤ 9223372036854775807) (h2 : ∀ x ∈ si, -9223372036854775808 ≤ x.f0 ∧ x.f0 ≤ 9223372036854775807) (a b : Int) :
    Ev (fun k => impl_LimitOf.f k pl sa si rc cr vw su sh zo ac a b) (limV pl sa si rc cr vw a b) := by
  have hp := plane_wf sa si h1 h2 a
  have hq := plane_wf sa si h1 h2 b
  have hend : ∀ x y v, v = -1 → Ev (fun k => impl_LimitOf.j0 k (planeV sa si a) (planeV sa si b) x y true pl sa si rc cr vw su sh zo ac) v := by
    intro x y v hv
    subst hv
    refine K.succ ?_
    simp only [impl_LimitOf.j0]
    exact K.pos (by trivial) (Ev.now _)
  unfold impl_LimitOf.f
  simp only [Option.bind_some, iPlane _ _ _ _ _ _ _ _ _ _ hn, iIsSat _ _ _ _ _ _ _ _ _ _ hn, iIsSite _ _ _ _ _ _ _ _ _ _ hn, decide_eq_true_eq]
  by_cases ce : a = b
  · exact K.pos ce (hend _ _ _ (by unfold limV; rw [if_pos (Or.inl ce)]))
  · refine K.neg ce ?_
    -- the way on when neither is wrong
    have hgo : ∀ x y : Bool, (x = true ↔ a < (sa.length : Int)) → (y = true ↔ b < (sa.length : Int)) → 0 ≤ a → a < (sa.length : Int) + si.length → 0 ≤ b → b < (sa.length : Int) + si.length →
        Ev (fun k => impl_LimitOf.j0 k (planeV sa si a) (planeV sa si b) x y false pl sa si rc cr vw su sh zo ac) (limV pl sa si rc cr vw a b) := by
      intro x y hx hy a0 a1 b0 b1
      refine K.succ ?_
      simp only [impl_LimitOf.j0]
      refine K.neg Bool.false_ne_true ?_
      have tail : ∀ z : Bool, (z = true ↔ x = true ∧ y = true ∧ planeV sa si a = planeV sa si b) → Ev (fun k => impl_LimitOf.j1 k (planeV sa si a) (planeV sa si b) x y z pl sa si rc cr vw su sh zo ac) (limV pl sa si rc cr vw a b) := by
        intro z hz
        have last : ∀ u : Bool, (u = true ↔ x = true ∧ y = true ∧ nearV pl (planeV sa si a) (planeV sa si b) = true) → z = false → Ev (fun k => impl_LimitOf.j2 k (planeV sa si a) (planeV sa si b) x y u pl sa si rc cr vw su sh zo ac) (limV pl sa si rc cr vw a b) := by
          intro u hu hzf
          refine K.succ ?_
          simp only [impl_LimitOf.j2, iNear _ _ _ _ _ _ _ _ _ _ hpl0 hpl1 _ _ hp.1 hp.2 hq.1 hq.2, Option.bind_some]
          cases u with
          | true =>
            have hu' := hu.1 rfl
            have ha := hx.1 hu'.1
            have hb := hy.1 hu'.2.1
            refine K.pos (by trivial) ?_
            unfold limV
            rw [if_neg (by omega), if_neg (by omega), if_neg (fun e => by
              have := hz.2 ⟨hu'.1, hu'.2.1, e⟩
              rw [hzf] at this
              cases this), if_pos hu'.2.2]
            exact Ev.now _
          | false =>
            refine K.neg Bool.false_ne_true ?_
            cases x with
            | true =>
              have ha := hx.1 rfl
              cases y with
              | true =>
                have hb := hy.1 rfl
                refine K.neg (by decide) ?_
                unfold limV
                rw [if_neg (by omega), if_neg (by omega), if_neg (fun e => by
                  have := hz.2 ⟨rfl, rfl, e⟩
                  rw [hzf] at this
                  cases this), if_neg (fun e => Bool.false_ne_true (hu.2 ⟨rfl, rfl, e⟩))]
                exact Ev.now _
              | false =>
                have hb : ¬ b < (sa.length : Int) := fun h => Bool.false_ne_true (hy.2 h)
                refine K.pos (by decide) ?_
                have e : limV pl sa si rc cr vw a b = if planeV sa si a = planeV sa si b ∨ nearV pl (planeV sa si a) (planeV sa si b) = true then vw else -1 := by
                  unfold limV
                  rw [if_neg (by omega), if_pos (by omega)]
                by_cases c1 : planeV sa si a = planeV sa si b
                · rw [e.trans (if_pos (Or.inl c1))]
                  exact K.pos c1 (Ev.now _)
                · refine K.neg c1 ?_
                  by_cases c2 : nearV pl (planeV sa si a) (planeV sa si b) = true
                  · rw [e.trans (if_pos (Or.inr c2))]
                    exact K.pos c2 (Ev.now _)
                  · rw [e.trans (if_neg (fun h => h.elim c1 c2))]
                    exact K.neg c2 (Ev.now _)
            | false =>
              have ha : ¬ a < (sa.length : Int) := fun h => Bool.false_ne_true (hx.2 h)
              cases y with
              | true =>
                have hb := hy.1 rfl
                refine K.pos (by decide) ?_
                have e : limV pl sa si rc cr vw a b = if planeV sa si a = planeV sa si b ∨ nearV pl (planeV sa si a) (planeV sa si b) = true then vw else -1 := by
                  unfold limV
                  rw [if_neg (by omega), if_pos (by omega)]
                by_cases c1 : planeV sa si a = planeV sa si b
                · rw [e.trans (if_pos (Or.inl c1))]
                  exact K.pos c1 (Ev.now _)
                · refine K.neg c1 ?_
                  by_cases c2 : nearV pl (planeV sa si a) (planeV sa si b) = true
                  · rw [e.trans (if_pos (Or.inr c2))]
                    exact K.pos c2 (Ev.now _)
                  · rw [e.trans (if_neg (fun h => h.elim c1 c2))]
                    exact K.neg c2 (Ev.now _)
              | false =>
                have hb : ¬ b < (sa.length : Int) := fun h => Bool.false_ne_true (hy.2 h)
                refine K.neg (by decide) ?_
                unfold limV
                rw [if_pos (by omega)]
                exact Ev.now _
        refine K.succ ?_
        simp only [impl_LimitOf.j1, iNear _ _ _ _ _ _ _ _ _ _ hpl0 hpl1 _ _ hp.1 hp.2 hq.1 hq.2, Option.bind_some]
        cases z with
        | true =>
          have hz' := hz.1 rfl
          have ha := hx.1 hz'.1
          have hb := hy.1 hz'.2.1
          refine K.pos (by trivial) ?_
          unfold limV
          rw [if_neg (by omega), if_neg (by omega), if_pos hz'.2.2]
          exact Ev.now _
        | false =>
          refine K.neg Bool.false_ne_true ?_
          cases x with
          | true =>
            cases y with
            | true => exact K.pos (by trivial) (K.pos (by trivial) (last _ ⟨fun h => ⟨rfl, rfl, h⟩, fun h => h.2.2⟩ rfl))
            | false => exact K.pos (by trivial) (K.neg Bool.false_ne_true (last false ⟨fun h => absurd h Bool.false_ne_true, fun h => absurd h.2.1 Bool.false_ne_true⟩ rfl))
          | false => exact K.neg Bool.false_ne_true (last false ⟨fun h => absurd h Bool.false_ne_true, fun h => absurd h.1 Bool.false_ne_true⟩ rfl)
      cases x with
      | true =>
        cases y with
        | true => exact K.pos (by trivial) (K.pos (by trivial) (tail _ ⟨fun h => ⟨rfl, rfl, beq_iff_eq.1 h⟩, fun h => beq_iff_eq.2 h.2.2⟩))
        | false => exact K.pos (by trivial) (K.neg Bool.false_ne_true (tail false ⟨fun h => absurd h Bool.false_ne_true, fun h => absurd h.2.1 Bool.false_ne_true⟩))
      | false => exact K.neg Bool.false_ne_true (tail false ⟨fun h => absurd h Bool.false_ne_true, fun h => absurd h.1 Bool.false_ne_true⟩)
    by_cases ca : 0 ≤ a ∧ a < (sa.length : Int)
    · refine K.pos ca ?_
      by_cases cb : 0 ≤ b ∧ b < (sa.length : Int)
      · exact K.pos cb (hgo _ _ ⟨fun h => (of_decide_eq_true h).2, fun h => decide_eq_true ⟨ca.1, h⟩⟩ ⟨fun h => (of_decide_eq_true h).2, fun h => decide_eq_true ⟨cb.1, h⟩⟩ (by omega) (by omega) (by omega) (by omega))
      · refine K.neg cb ?_
        by_cases cs : (sa.length : Int) ≤ b ∧ b < (sa.length : Int) + si.length
        · rw [show (!decide ((sa.length : Int) ≤ b ∧ b < (sa.length : Int) + si.length)) = false from by rw [decide_eq_true cs]; rfl]
          exact hgo _ _ ⟨fun h => (of_decide_eq_true h).2, fun h => decide_eq_true ⟨ca.1, h⟩⟩ ⟨fun h => (of_decide_eq_true h).2, fun h => by omega⟩ (by omega) (by omega) (by omega) (by omega)
        · rw [show (!decide ((sa.length : Int) ≤ b ∧ b < (sa.length : Int) + si.length)) = true from by rw [decide_eq_false cs]; rfl]
          exact hend _ _ _ (by unfold limV; rw [if_pos (Or.inr (Or.inr (Or.inl (by omega))))])
    · refine K.neg ca ?_
      by_cases cs : (sa.length : Int) ≤ a ∧ a < (sa.length : Int) + si.length
      · refine K.pos cs ?_
        by_cases cb : 0 ≤ b ∧ b < (sa.length : Int)
        · exact K.pos cb (hgo _ _ ⟨fun h => (of_decide_eq_true h).2, fun h => by omega⟩ ⟨fun h => (of_decide_eq_true h).2, fun h => decide_eq_true ⟨cb.1, h⟩⟩ (by omega) (by omega) (by omega) (by omega))
        · refine K.neg cb ?_
          by_cases cs2 : (sa.length : Int) ≤ b ∧ b < (sa.length : Int) + si.length
          · rw [show (!decide ((sa.length : Int) ≤ b ∧ b < (sa.length : Int) + si.length)) = false from by rw [decide_eq_true cs2]; rfl]
            exact hgo _ _ ⟨fun h => (of_decide_eq_true h).2, fun h => by omega⟩ ⟨fun h => (of_decide_eq_true h).2, fun h => by omega⟩ (by omega) (by omega) (by omega) (by omega)
          · rw [show (!decide ((sa.length : Int) ≤ b ∧ b < (sa.length : Int) + si.length)) = true from by rw [decide_eq_false cs2]; rfl]
            exact hend _ _ _ (by unfold limV; rw [if_pos (Or.inr (Or.inr (Or.inl (by omega))))])
      · exact K.neg cs (hend _ _ _ (by unfold limV; rw [if_pos (Or.inr (Or.inl (by omega)))]))
def midV (s w : Int) : Int := if 0 ≤ w ∧ w ≤ 359 then (s % 360 + w / 2) % 360 else s % 360
theorem sMiddle (s w : Int) : spec_MiddleOf.f s w = some (midV s w) := by
  unfold spec_MiddleOf.f midV
  simp only [l1In, sAngle, Option.bind_some, decide_eq_true_eq]
  by_cases c : 0 ≤ w ∧ w ≤ 359
  · rw [if_pos c, if_pos c, Int.tdiv_eq_ediv_of_nonneg c.1, K.wr (x := w / 2) (by omega) (by omega), K.wr (by omega) (by omega)]
  · rw [if_neg c, if_neg c]
theorem iMiddle (s w : Int) : impl_MiddleOf.f s w = some (midV s w) := by
  unfold impl_MiddleOf.f midV
  simp only [iWidth, iAngle, Option.bind_some, decide_eq_true_eq]
  by_cases c : 0 ≤ w ∧ w ≤ 359
  · rw [if_pos c, if_pos c, Int.tdiv_eq_ediv_of_nonneg c.1, K.wr (x := w / 2) (by omega) (by omega), K.wr (by omega) (by omega)]
  · rw [if_neg c, if_neg c]
theorem mid_range (s w : Int) : 0 ≤ midV s w ∧ midV s w < 360 := by
  unfold midV
  split <;> omega
def gapV (a b : Int) : Int := mn ((a % 360 - b % 360) % 360) (360 - (a % 360 - b % 360) % 360)
theorem sGap (a b : Int) : spec_GapOf.f a b = some (gapV a b) := by
  unfold spec_GapOf.f gapV
  simp only [sAngle, sMin, Option.bind_some]
  rw [K.wr (x := a % 360 - b % 360) (by omega) (by omega), K.wr (by omega) (by omega)]
theorem iGap (a b : Int) : impl_GapOf.f a b = some (gapV a b) := by
  unfold impl_GapOf.f gapV
  simp only [iAngle, Option.bind_some]
  rw [K.wr (x := a % 360 - b % 360) (by omega) (by omega), K.wr (by omega) (by omega)]
theorem gap_range (a b : Int) : 0 ≤ gapV a b ∧ gapV a b ≤ 180 := by
  unfold gapV mn
  split <;> omega
def sightOf (lim g w1 w2 : Int) : Int := if lim < 0 then 0 else if g - (w1 + w2) / 2 > lim then 0 else if g + (w1 + w2) / 2 ≤ lim then 2 else 1
def sightV (pl : Int) (sa : List S72) (si : List S74) (rc cr vw a b t : Int) : Int :=
  sightOf (limV pl sa si rc cr vw a b) (gapV (midV (nodeS sa si a t) (nodeW sa a)) (midV (nodeS sa si b t) (nodeW sa b))) (nodeW sa a) (nodeW sa b)
theorem sSight (pl : Int) (sa : List S72) (si : List S74) (rc cr vw su sh : Int) (zo : List S88) (ac : Int) (hn : (sa.length : Int) + si.length ≤ 4194304) (h1 : ∀ x ∈ sa, -9223372036854775808 ≤ x.f0 ∧ x.f0 ≤ 9223372036854775807) (h2 : ∀ x ∈ si, -9223372036854775808 ≤ x.f0 ∧ x.f0 ≤ 9223372036854775807) (a b t : Int) :
    Ev (fun k => spec_SightAt.f k pl sa si rc cr vw su sh zo ac a b t) (sightV pl sa si rc cr vw a b t) := by
  unfold spec_SightAt.f sightV
  refine Ev.bind (sLimit _ _ _ _ _ _ _ _ _ _ hn h1 h2 a b) ?_
  have ha := node_range sa si a t
  have hb := node_range sa si b t
  have hg := gap_range (midV (nodeS sa si a t) (nodeW sa a)) (midV (nodeS sa si b t) (nodeW sa b))
  generalize limV pl sa si rc cr vw a b = lim
  unfold sightOf
  by_cases c : lim < 0
  · rw [if_pos c]
    exact K.pos c (Ev.now _)
  · rw [if_neg c]
    refine K.neg c (Ev.bind (sNode _ _ _ _ _ _ _ _ _ _ hn a t) (Ev.bind (sNode _ _ _ _ _ _ _ _ _ _ hn b t) ?_))
    simp only [sMiddle, sGap, Option.bind_some]
    generalize gapV (midV (nodeS sa si a t) (nodeW sa a)) (midV (nodeS sa si b t) (nodeW sa b)) = g at hg ⊢
    generalize nodeW sa a = x at ha ⊢
    generalize nodeW sa b = y at hb ⊢
    have e : wrap64 ((wrap64 ((wrap64 (Int.tdiv x 2)) + (wrap64 (Int.tdiv y 2)))) + (wrap64 (Int.tdiv (wrap64 ((Int.tmod x 2) + (Int.tmod y 2))) 2))) = (x + y) / 2 := by
      rw [Int.tdiv_eq_ediv_of_nonneg ha.2.2.1, Int.tdiv_eq_ediv_of_nonneg hb.2.2.1, Int.tmod_eq_emod_of_nonneg ha.2.2.1, Int.tmod_eq_emod_of_nonneg hb.2.2.1, K.wr (x := x % 2 + y % 2) (by omega) (by omega), Int.tdiv_eq_ediv_of_nonneg (by omega), K.wr (x := x / 2) (by omega) (by omega), K.wr (x := y / 2) (by omega) (by omega), K.wr (x := x / 2 + y / 2) (by omega) (by omega), K.wr (x := (x % 2 + y % 2) / 2) (by omega) (by omega), K.wr (by omega) (by omega)]
      omega
    rw [e, K.wr (x := g - (x + y) / 2) (by omega) (by omega), K.wr (x := g + (x + y) / 2) (by omega) (by omega)]
    split
    · exact Ev.now _
    · split <;> exact Ev.now _
theorem iSight (pl : Int) (sa : List S72) (si : List S74) (rc cr vw su sh : Int) (zo : List S88) (ac : Int) (hn : (sa.length : Int) + si.length ≤ 4194304) (hpl0 : -9223372036854775808 ≤ pl) (hpl1 : pl ≤ 9223372036854775807) (h1 : ∀ x ∈ sa, -9223372036854775808 ≤ x.f0 ∧ x.f0 ≤ 9223372036854775807) (h2 : ∀ x ∈ si, -9223372036854775808 ≤ x.f0 ∧ x.f0 ≤ 9223372036854775807) (a b t : Int) :
    Ev (fun k => impl_SightAt.f k pl sa si rc cr vw su sh zo ac a b t) (sightV pl sa si rc cr vw a b t) := by
  unfold impl_SightAt.f sightV
  simp only [iNode _ _ _ _ _ _ _ _ _ _ hn, Option.bind_some]
  refine Ev.bind (iLimit _ _ _ _ _ _ _ _ _ _ hn hpl0 hpl1 h1 h2 a b) ?_
  have ha := node_range sa si a t
  have hb := node_range sa si b t
  have hg := gap_range (midV (nodeS sa si a t) (nodeW sa a)) (midV (nodeS sa si b t) (nodeW sa b))
  generalize limV pl sa si rc cr vw a b = lim
  simp only [iMiddle, iGap, Option.bind_some]
  generalize gapV (midV (nodeS sa si a t) (nodeW sa a)) (midV (nodeS sa si b t) (nodeW sa b)) = g at hg ⊢
  generalize nodeW sa a = x at ha ⊢
  generalize nodeW sa b = y at hb ⊢
  rw [K.wr (x := x + y) (by omega) (by omega), Int.tdiv_eq_ediv_of_nonneg (by omega), K.wr (x := (x + y) / 2) (by omega) (by omega), K.wr (x := g - (x + y) / 2) (by omega) (by omega)]
  unfold sightOf
  by_cases c : lim < 0
  · rw [if_pos c]
    refine K.pos c (K.succ ?_)
    simp only [impl_SightAt.j0]
    exact K.pos (by trivial) (Ev.now _)
  · rw [if_neg c]
    refine K.neg c (K.succ ?_)
    by_cases c2 : g - (x + y) / 2 > lim
    · rw [if_pos c2, decide_eq_true c2]
      simp only [impl_SightAt.j0]
      exact K.pos (by trivial) (Ev.now _)
    · rw [if_neg c2, decide_eq_false c2]
      simp only [impl_SightAt.j0]
      rw [K.wr (x := g + (x + y) / 2) (by omega) (by omega)]
      refine K.neg Bool.false_ne_true ?_
      split <;> exact Ev.now _
theorem sSure (pl : Int) (sa : List S72) (si : List S74) (rc cr vw su sh : Int) (zo : List S88) (ac : Int) (hn : (sa.length : Int) + si.length ≤ 4194304) (h1 : ∀ x ∈ sa, -9223372036854775808 ≤ x.f0 ∧ x.f0 ≤ 9223372036854775807) (h2 : ∀ x ∈ si, -9223372036854775808 ≤ x.f0 ∧ x.f0 ≤ 9223372036854775807) (a b t : Int) :
    Ev (fun k => spec_IsSure.f k pl sa si rc cr vw su sh zo ac a b t) (sightV pl sa si rc cr vw a b t == 2) := by
  unfold spec_IsSure.f
  exact Ev.bind (sSight _ _ _ _ _ _ _ _ _ _ hn h1 h2 a b t) (Ev.now _)
theorem iSure (pl : Int) (sa : List S72) (si : List S74) (rc cr vw su sh : Int) (zo : List S88) (ac : Int) (hn : (sa.length : Int) + si.length ≤ 4194304) (hpl0 : -9223372036854775808 ≤ pl) (hpl1 : pl ≤ 9223372036854775807) (h1 : ∀ x ∈ sa, -9223372036854775808 ≤ x.f0 ∧ x.f0 ≤ 9223372036854775807) (h2 : ∀ x ∈ si, -9223372036854775808 ≤ x.f0 ∧ x.f0 ≤ 9223372036854775807) (a b t : Int) :
    Ev (fun k => impl_IsSure.f k pl sa si rc cr vw su sh zo ac a b t) (sightV pl sa si rc cr vw a b t == 2) := by
  unfold impl_IsSure.f
  exact Ev.bind (iSight _ _ _ _ _ _ _ _ _ _ hn hpl0 hpl1 h1 h2 a b t) (Ev.now _)
def spkR (q pa pb : Int → Bool) (f t : Int) : List S82 := run (cutP (win q f t) (win pa f t ++ win pb f t)) [] 0 1000
theorem iCutB (a b : List S82) (ha : a.length ≤ 2097152) (hb : b.length ≤ 2097152) : Ev (fun k => impl_CutSpans.f k a b) (run (cutP a b) [] 0 1000) := by
  unfold impl_CutSpans.f
  obtain ⟨x, g1, g2, g3⟩ := ticksOf a ha
  obtain ⟨y, e1, e2, e3⟩ := ticksOf b hb
  refine Ev.bind g1 (Ev.bind e1 (Ev.bind (r := run (cutP a b) [] 0 1000) ?_ (Ev.now _)))
  unfold where_impl_CutSpans_1.f sw.f
  have hm : mn 1000 1000 = 1000 := by unfold mn; rfl
  have hx : mx 0 0 = 0 := by unfold mx; rfl
  rw [hx]
  refine whereRun (fun _ t => impl_CutSpans_1.f t x y) (cutP a b) 1000 (fun t h0 h1 => ?_) 1000 [] 0 (by omega) (by rw [hm]; rfl) (by simp)
  rw [hm] at h1
  unfold impl_CutSpans_1.f cutP
  rw [g2, e2, g3 t h0 h1, e3 t h0 h1]
  refine K.pos h0 (K.pos (by omega) ?_)
  cases inl a t with
  | true => exact K.pos rfl (K.pos (by omega) (Ev.now _))
  | false => exact K.neg Bool.false_ne_true (Ev.now _)
theorem iSpeak (pl : Int) (sa : List S72) (si : List S74) (rc cr vw su sh : Int) (zo : List S88) (ac : Int) (p : Int → Int → Bool) (q : Int → Bool) (i j : Int) (hp : ∀ i t, Ev (fun k => impl_MayDisturb.f k pl sa si rc cr vw su sh zo ac i t) (p i t)) (hq : ∀ t, Ev (fun k => impl_IsSure.f k pl sa si rc cr vw su sh zo ac i j t) (q t)) (a b : Int) : Ev (fun k => impl_SpeakingSpans.f k pl sa si rc cr vw su sh zo ac i j a b) (spkR q (p i) (p j) a b) := by
  have l1 := win_len q a b
  have l2 := win_len (p i) a b
  have l3 := win_len (p j) a b
  unfold impl_SpeakingSpans.f
  exact Ev.bind (iSureWn pl sa si rc cr vw su sh zo ac q i j hq a b) (Ev.bind (iQuietW pl sa si rc cr vw su sh zo ac p hp i a b) (Ev.bind (iQuietW pl sa si rc cr vw su sh zo ac p hp j a b) (Ev.bind (concat2 _ _ (by omega) (by omega)) (Ev.bind (iCutB _ _ (by omega) (by rw [List.length_append]; omega)) (Ev.now _)))))
theorem spkR_len (q pa pb : Int → Bool) (f t : Int) : (spkR q pa pb f t).length ≤ 1000 := Nat.le_trans (run_len _ 1000 [] 0) (by simp)
theorem spkR_in (q pa pb : Int → Bool) (f t u : Int) (hf : f ≤ 1000) (h0 : 0 ≤ u) (h1 : u < 1000) : inl (spkR q pa pb f t) u = (decide (f ≤ u ∧ u < t) && (q u && !(pa u || pb u))) := by
  unfold spkR
  rw [inl_all _ u h0 h1]
  unfold cutP
  rw [inl_app, (win_ok q f t u hf).2, (win_ok pa f t u hf).2, (win_ok pb f t u hf).2]
  by_cases c : f ≤ u ∧ u < t
  · rw [decide_eq_true c, decide_eq_true (show 0 ≤ u ∧ u < 1000 ∧ f ≤ u ∧ u < t by omega)]
    simp
  · rw [decide_eq_false c, decide_eq_false (show ¬ (0 ≤ u ∧ u < 1000 ∧ f ≤ u ∧ u < t) by omega)]
    simp

theorem sSureW (pl : Int) (sa : List S72) (si : List S74) (rc cr vw su sh : Int) (zo : List S88) (ac : Int) (p : Int → Bool) (i j hi : Int) (hp : ∀ t, Ev (fun k => spec_IsSure.f k pl sa si rc cr vw su sh zo ac i j t) (p t)) (hh : hi ≤ 1000) : ∀ (d : Nat) (o : List S82) (t : Int), 0 ≤ t → (hi - t).toNat = d → o.length + d ≤ 7000000000000 → Ev (fun k => spec_SureWindows.l0 k i j o hi t pl sa si rc cr vw su sh zo ac) (run p o t d) := by
  intro d
  induction d with
  | zero =>
    intro o t h0 hd ho
    refine K.succ ?_
    simp only [spec_SureWindows.l0, run]
    exact K.neg (by omega) (Ev.now _)
  | succ d ih =>
    intro o t h0 hd ho
    refine K.succ ?_
    simp only [spec_SureWindows.l0, run]
    rw [K.wr (x := t + 1) (by omega) (by omega)]
    refine K.pos (by omega) (Ev.bind (hp t) ?_)
    have hp := put_len o t
    by_cases c : p t = true
    · rw [if_pos c]
      exact K.pos c (K.known (sPut o t h0 (by omega) (by omega)) (ih (put o t) (t + 1) (by omega) (by omega) (by omega)))
    · rw [if_neg c]
      exact K.neg c (ih o (t + 1) (by omega) (by omega) (by omega))
theorem sureWins (pl : Int) (sa : List S72) (si : List S74) (rc cr vw su sh : Int) (zo : List S88) (ac : Int) (hn : (sa.length : Int) + si.length ≤ 4194304) (hpl0 : -9223372036854775808 ≤ pl) (hpl1 : pl ≤ 9223372036854775807) (h1 : ∀ x ∈ sa, -9223372036854775808 ≤ x.f0 ∧ x.f0 ≤ 9223372036854775807) (h2 : ∀ x ∈ si, -9223372036854775808 ≤ x.f0 ∧ x.f0 ≤ 9223372036854775807) (i j a b : Int) : ∃ r : List S82, r.length ≤ 1000 ∧ Ev (fun k => spec_SureWindows.f k pl sa si rc cr vw su sh zo ac i j a b) r ∧ Ev (fun k => impl_SureWindows.f k pl sa si rc cr vw su sh zo ac i j a b) r ∧ r = run (fun t => sightV pl sa si rc cr vw i j t == 2) [] (mx a 0) (mn b 1000 - mx a 0).toNat := by
  obtain ⟨lo, hi, e, h0, hh1, hr⟩ := l8 a b
  have hm : mn b 1000 ≤ 1000 := by unfold mn; split <;> omega
  have hx : 0 ≤ mx a 0 := by unfold mx; split <;> omega
  have s_ := fun t => sSure pl sa si rc cr vw su sh zo ac hn h1 h2 i j t
  have i_ := fun t => iSure pl sa si rc cr vw su sh zo ac hn hpl0 hpl1 h1 h2 i j t
  refine ⟨run (fun t => sightV pl sa si rc cr vw i j t == 2) [] lo (hi - lo).toNat, Nat.le_trans (run_len _ _ _ _) (by simp; omega), ?_, ?_, hr _⟩
  · unfold spec_SureWindows.f
    exact K.known e (sSureW pl sa si rc cr vw su sh zo ac _ i j hi s_ hh1 _ [] lo h0 rfl (by simp; omega))
  · rw [hr]
    unfold impl_SureWindows.f where_impl_SureWindows_1.f sw.f
    refine Ev.bind (whereRun (fun k t' => impl_SureWindows_1.f k t' pl sa si rc cr vw su sh zo ac i j) _ b (fun t _ _ => ?_) _ [] (mx a 0) hx rfl (by simp; omega)) (Ev.now _)
    unfold impl_SureWindows_1.f
    exact Ev.bind (i_ t) (Ev.now _)
theorem sQuiet (pl : Int) (sa : List S72) (si : List S74) (rc cr vw su sh : Int) (zo : List S88) (ac : Int) (p : Int → Bool) (i hi : Int) (hp : ∀ t, Ev (fun k => spec_MayDisturb.f k pl sa si rc cr vw su sh zo ac i t) (p t)) (hh : hi ≤ 1000) : ∀ (d : Nat) (o : List S82) (t : Int), 0 ≤ t → (hi - t).toNat = d → o.length + d ≤ 7000000000000 → Ev (fun k => spec_QuietSpans.l0 k i o hi t pl sa si rc cr vw su sh zo ac) (run p o t d) := by
  intro d
  induction d with
  | zero =>
    intro o t h0 hd ho
    refine K.succ ?_
    simp only [spec_QuietSpans.l0, run]
    exact K.neg (by omega) (Ev.now _)
  | succ d ih =>
    intro o t h0 hd ho
    refine K.succ ?_
    simp only [spec_QuietSpans.l0, run]
    rw [K.wr (x := t + 1) (by omega) (by omega)]
    refine K.pos (by omega) (Ev.bind (hp t) ?_)
    have hp := put_len o t
    by_cases c : p t = true
    · rw [if_pos c]
      exact K.pos c (K.known (sPut o t h0 (by omega) (by omega)) (ih (put o t) (t + 1) (by omega) (by omega) (by omega)))
    · rw [if_neg c]
      exact K.neg c (ih o (t + 1) (by omega) (by omega) (by omega))
theorem quiets (pl : Int) (sa : List S72) (si : List S74) (rc cr vw su sh : Int) (zo : List S88) (ac : Int) (hn : (sa.length : Int) + si.length ≤ 4194304) (hz : zo.length ≤ 1048576) (i a b : Int) : ∃ r : List S82, r.length ≤ 1000 ∧ Ev (fun k => spec_QuietSpans.f k pl sa si rc cr vw su sh zo ac i a b) r ∧ Ev (fun k => impl_QuietSpans.f k pl sa si rc cr vw su sh zo ac i a b) r := by
  obtain ⟨lo, hi, e, h0, h1, hr⟩ := l8 a b
  have hm : mn b 1000 ≤ 1000 := by unfold mn; split <;> omega
  have hx : 0 ≤ mx a 0 := by unfold mx; split <;> omega
  obtain ⟨p, hp⟩ : ∃ p : Int → Bool, ∀ t, Ev (fun k => spec_MayDisturb.f k pl sa si rc cr vw su sh zo ac i t) (p t) ∧ Ev (fun k => impl_MayDisturb.f k pl sa si rc cr vw su sh zo ac i t) (p t) :=
    ⟨fun t => (disturb pl sa si rc cr vw su sh zo ac hn hz i t).choose, fun t => ⟨(disturb pl sa si rc cr vw su sh zo ac hn hz i t).choose_spec.1, (disturb pl sa si rc cr vw su sh zo ac hn hz i t).choose_spec.2.1⟩⟩
  refine ⟨run p [] lo (hi - lo).toNat, Nat.le_trans (run_len _ _ _ _) (by simp; omega), ?_, ?_⟩
  · unfold spec_QuietSpans.f
    exact K.known e (sQuiet pl sa si rc cr vw su sh zo ac p i hi (fun t => (hp t).1) h1 _ [] lo h0 rfl (by simp; omega))
  · rw [hr]
    unfold impl_QuietSpans.f where_impl_QuietSpans_1.f sw.f
    refine Ev.bind (whereRun (fun k t' => impl_QuietSpans_1.f k t' pl sa si rc cr vw su sh zo ac i) p b (fun t _ _ => ?_) _ [] (mx a 0) hx rfl (by simp; omega)) (Ev.now _)
    unfold impl_QuietSpans_1.f
    exact Ev.bind (hp t).2 (Ev.now _)
theorem speaking (pl : Int) (sa : List S72) (si : List S74) (rc cr vw su sh : Int) (zo : List S88) (ac : Int) (hn : (sa.length : Int) + si.length ≤ 4194304) (hz : zo.length ≤ 1048576) (hpl0 : -9223372036854775808 ≤ pl) (hpl1 : pl ≤ 9223372036854775807) (h1 : ∀ x ∈ sa, -9223372036854775808 ≤ x.f0 ∧ x.f0 ≤ 9223372036854775807) (h2 : ∀ x ∈ si, -9223372036854775808 ≤ x.f0 ∧ x.f0 ≤ 9223372036854775807) (i j a b : Int) : ∃ r : List S82, r.length ≤ 1000 ∧ Ev (fun k => spec_SpeakingSpans.f k pl sa si rc cr vw su sh zo ac i j a b) r ∧ Ev (fun k => impl_SpeakingSpans.f k pl sa si rc cr vw su sh zo ac i j a b) r := by
  obtain ⟨w, hw, sw_, iw, _⟩ := sureWins pl sa si rc cr vw su sh zo ac hn hpl0 hpl1 h1 h2 i j a b
  obtain ⟨qa, ha, sa_, ia⟩ := quiets pl sa si rc cr vw su sh zo ac hn hz i a b
  obtain ⟨qb, hb, sb_, ib⟩ := quiets pl sa si rc cr vw su sh zo ac hn hz j a b
  obtain ⟨s1, _⟩ := cutBoth w qa (by omega) (by omega)
  have hl1 : (run (cutP w qa) [] 0 1000).length ≤ 1000 := Nat.le_trans (run_len _ 1000 [] 0) (by simp)
  obtain ⟨s2, _⟩ := cutBoth (run (cutP w qa) [] 0 1000) qb (by omega) (by omega)
  rw [cut_cut] at s2
  obtain ⟨_, i1⟩ := cutBoth w (qa ++ qb) (by omega) (by simp; omega)
  have hcc := concat2 qa qb (by omega) (by omega)
  refine ⟨run (cutP w (qa ++ qb)) [] 0 1000, Nat.le_trans (run_len _ 1000 [] 0) (by simp), ?_, ?_⟩
  · unfold spec_SpeakingSpans.f
    exact Ev.bind sw_ (Ev.bind sa_ (Ev.bind s1 (Ev.bind sb_ (Ev.bind s2 (Ev.now _)))))
  · unfold impl_SpeakingSpans.f
    exact Ev.bind iw (Ev.bind ia (Ev.bind ib (Ev.bind hcc (Ev.bind i1 (Ev.now _)))))

theorem and255 (n : Int) : Go.bits .and .i64 n 255 = n % 256 := by
  have h255 : (BitVec.ofInt 64 255).toNat = 2 ^ 8 - 1 := by decide
  have key : (BitVec.ofInt 64 n &&& BitVec.ofInt 64 255).toNat = (n % ((2 ^ 64 : Nat) : Int)).toNat % 2 ^ 8 := by
    rw [BitVec.toNat_and, BitVec.toNat_ofInt, h255, Nat.and_two_pow_sub_one_eq_mod]
  show IntKind.i64.wrap ((BitVec.ofInt 64 n &&& BitVec.ofInt 64 255).toNat : Nat) = n % 256
  rw [key, IntKind.wrap_i64]
  omega
theorem l1New (l : List Int) (hl : l.length ≤ 1048576) : ∃ h, Ev (fun k => spec_l1New.f k l) (l, 0, h) := by
  have loop : ∀ (d : Nat) (h i : Int), 0 ≤ i → (l.length : Int) - i = d → ∃ h', Ev (fun k => spec_l1New.l0 k l h i) (l, 0, h') := by
    intro d
    induction d with
    | zero =>
      intro h i h0 hd
      refine ⟨h, K.succ ?_⟩
      simp only [spec_l1New.l0]
      exact K.neg (by omega) (Ev.now _)
    | succ d ih =>
      intro h i h0 hd
      by_cases c : i < 4000
      · obtain ⟨h', g⟩ := ih (Go.bits .and .i64 (wrap64 ((wrap64 ((wrap64 (h * 137)) + (wrap64 (rd l i)))) + 11)) 1073741823) (i + 1) (by omega) (by omega)
        refine ⟨h', K.succ ?_⟩
        simp only [spec_l1New.l0]
        rw [K.wr (x := i + 1) (by omega) (by omega)]
        exact K.pos (by omega) (K.pos c (K.pos h0 g))
      · refine ⟨h, K.succ ?_⟩
        simp only [spec_l1New.l0]
        exact K.pos (by omega) (K.neg c (Ev.now _))
  unfold spec_l1New.f
  exact loop l.length _ 0 (by omega) (by omega)
theorem l1Byte (l : List Int) (hl : l.length ≤ 1048576) (i h : Int) (h0 : 0 ≤ i) (h1 : i ≤ (l.length : Int)) :
    ∃ v i' h', spec_l1Byte.f l i h = some (v, i', h') ∧ 0 ≤ v ∧ v ≤ 255 ∧ 0 ≤ i' ∧ i' ≤ (l.length : Int) := by
  unfold spec_l1Byte.f
  simp only [and255]
  by_cases c : i < (l.length : Int)
  · rw [if_pos c, if_pos h0, K.wr (x := i + 1) (by omega) (by omega)]
    exact ⟨_, _, _, rfl, by omega, by omega, by omega, by omega⟩
  · rw [if_neg c]
    exact ⟨_, _, _, rfl, by omega, by omega, h0, h1⟩
theorem l1Below (l : List Int) (hl : l.length ≤ 1048576) (i h : Int) (h0 : 0 ≤ i) (h1 : i ≤ (l.length : Int)) (n : Int) (hn : 0 < n) (hn2 : n ≤ 256) :
    ∃ v i' h', spec_l1Below.f l i h n = some (v, i', h') ∧ 0 ≤ v ∧ v < n ∧ 0 ≤ i' ∧ i' ≤ (l.length : Int) := by
  obtain ⟨v, i', h', e, a, b, c, d⟩ := l1Byte l hl i h h0 h1
  refine ⟨Int.tmod v n, i', h', ?_, Int.tmod_nonneg _ a, Int.tmod_lt_of_pos _ hn, c, d⟩
  unfold spec_l1Below.f
  rw [if_neg (by omega), if_pos hn2, e]
  simp only [Option.bind_some]
  rw [if_neg (by omega)]
theorem l1Once (l : List Int) (hl : l.length ≤ 1048576) (i h : Int) (h0 : 0 ≤ i) (h1 : i ≤ (l.length : Int)) (n : Int) (hn : 0 < n) (hn2 : n ≤ 256) :
    ∃ v i' h', spec_l1Once.f l i h n = some (v, i', h') ∧ 0 ≤ i' ∧ i' ≤ (l.length : Int) := by
  obtain ⟨v, i', h', e, a, b, c, d⟩ := l1Below l hl i h h0 h1 n hn hn2
  refine ⟨v == 0, i', h', ?_, c, d⟩
  unfold spec_l1Once.f
  rw [e]
  rfl
theorem l1Int (l : List Int) (hl : l.length ≤ 1048576) (i h : Int) (h0 : 0 ≤ i) (h1 : i ≤ (l.length : Int)) (xs : List Int) (hn : 0 < (xs.length : Int)) (hn2 : (xs.length : Int) ≤ 256) :
    ∃ v i' h', spec_l1Int.f l i h xs = some (v, i', h') ∧ v ∈ xs ∧ 0 ≤ i' ∧ i' ≤ (l.length : Int) := by
  obtain ⟨v, i', h', e, a, b, c, d⟩ := l1Below l hl i h h0 h1 _ hn hn2
  refine ⟨rd xs v, i', h', ?_, ?_, c, d⟩
  · unfold spec_l1Int.f
    rw [e]
    simp only [Option.bind_some]
    rw [if_pos a, if_pos b]
  · simp only [rd, List.getD_eq_getElem?_getD, List.getElem?_eq_getElem (show v.toNat < xs.length by omega), Option.getD_some]
    exact List.getElem_mem _
theorem l4Raw (l : List Int) (hl : l.length ≤ 1048576) (i h : Int) (h0 : 0 ≤ i) (h1 : i ≤ (l.length : Int)) : ∃ v i' h', spec_l4Raw.f l i h = some (v, i', h') ∧ 0 ≤ i' ∧ i' ≤ (l.length : Int) := by
  obtain ⟨b, i1, g1, e1, p1, q1⟩ := l1Once l hl i h h0 h1 6 (by omega) (by omega)
  unfold spec_l4Raw.f
  rw [e1, Option.bind_some]
  cases b with
  | true =>
    obtain ⟨v, i2, g2, e2, m2, p2, q2⟩ := l1Int l hl i1 g1 p1 q1 [(-1), 0, 1000, 1001, 9223372036854775807, (-9223372036854775808)] (by decide) (by decide)
    refine ⟨v, i2, g2, ?_, p2, q2⟩
    dsimp only
    rw [if_pos rfl, e2]
    rfl
  | false =>
    obtain ⟨v, i2, g2, e2, _, _, p2, q2⟩ := l1Below l hl i1 g1 p1 q1 40 (by omega) (by omega)
    refine ⟨v, i2, g2, ?_, p2, q2⟩
    dsimp only
    rw [if_neg Bool.false_ne_true, e2]
    rfl
def i64 (x : Int) : Prop := -9223372036854775808 ≤ x ∧ x ≤ 9223372036854775807
def skyOk (pl : Int) (sa : List S72) (si : List S74) (zo : List S88) : Prop :=
  i64 pl ∧ sa.length ≤ 8 ∧ si.length = 2 ∧ zo.length ≤ 1000 ∧ (∀ x ∈ sa, i64 x.f0 ∧ -1 ≤ x.f3 ∧ x.f3 ≤ 21) ∧ ∀ x ∈ si, i64 x.f0
def satOk (sa : List S72) : Prop := ∀ x ∈ sa, i64 x.f0 ∧ -1 ≤ x.f3 ∧ x.f3 ≤ 21
theorem sky1 (l : List Int) (hl : l.length ≤ 1048576) (pl rc cr vw su sh ac p n : Int) (hp0 : 0 ≤ p) (hp1 : p ≤ 1) : ∀ (d : Nat) (j : Int) (sa : List S72) (i h : Int), n - j = d → 0 ≤ j → n ≤ 3 → sa.length + d ≤ 8 → satOk sa → 0 ≤ i → i ≤ (l.length : Int) →
    ∃ (sa' : List S72) (i' h' : Int), sa'.length = sa.length + d ∧ satOk sa' ∧ 0 ≤ i' ∧ i' ≤ (l.length : Int) ∧ ∀ r, Ev (fun k => spec_l7Sky.l0 k (p + 1) l i' h' pl sa' rc cr vw su sh ac) r → Ev (fun k => spec_l7Sky.l1 k p n j l i h pl sa rc cr vw su sh ac) r := by
  intro d
  have w0 := Aside0.mk (K.wr (x := p + 1) (by omega) (by omega))
  induction d with
  | zero =>
    intro j sa i h hd hj hn hs ho h0 h1
    refine ⟨sa, i, h, rfl, ho, h0, h1, fun r g => K.succ ?_⟩
    simp only [spec_l7Sky.l1, w0.out]
    exact K.neg (by omega) g
  | succ d ih =>
    intro j sa i h hd hj hn hs ho h0 h1
    have w1 := Aside0.mk (K.wr (x := j + 1) (by omega) (by omega))
    obtain ⟨v1, i1, g1, e1, a1, b1, p1, q1⟩ := l1Below l hl i h h0 h1 2 (by omega) (by omega)
    obtain ⟨v2, i2, g2, e2, a2, b2, p2, q2⟩ := l1Below l hl i1 g1 p1 q1 2 (by omega) (by omega)
    obtain ⟨sa', i3, g3, k1, k2, k3, k4, k5⟩ := ih (j + 1) (sa ++ [⟨p, (wrap64 ((wrap64 (120 * j)) + (wrap64 (20 * p)))) % 360, wrap64 (10 - (wrap64 ((wrap64 (4 * p)) * v1))), v2⟩]) i2 g2 (by omega) (by omega) hn (by simp; omega) (by
      intro x hx
      rcases List.mem_append.1 hx with hx | hx
      · exact ho x hx
      · rw [List.mem_singleton] at hx
        subst hx
        exact ⟨⟨by show -9223372036854775808 ≤ p; omega, by show p ≤ 9223372036854775807; omega⟩, by show -1 ≤ v2; omega, by show v2 ≤ 21; omega⟩) p2 q2
    refine ⟨sa', i3, g3, by rw [k1]; simp; omega, k2, k3, k4, fun r g => K.succ ?_⟩
    simp only [spec_l7Sky.l1, sAngle, e1, e2, Option.bind_some, w1.out]
    exact K.pos (by omega) (K.pos (by omega) (k5 r g))
theorem l7Sky (l : List Int) (hl : l.length ≤ 1048576) (i h : Int) (h0 : 0 ≤ i) (h1 : i ≤ (l.length : Int)) : ∃ (pl : Int) (sa : List S72) (si : List S74) (rc cr vw su sh : Int) (zo : List S88) (ac i' h' : Int), skyOk pl sa si zo ∧ 0 < sa.length ∧ zo.length ≤ 8 ∧ 0 ≤ i' ∧ i' ≤ (l.length : Int) ∧ Ev (fun k => spec_l7Sky.f k l i h) (pl, sa, si, rc, cr, vw, su, sh, zo, ac, i', h') := by
  obtain ⟨v1, i1, g1, e1, a1, b1, p1, q1⟩ := l1Below l hl i h h0 h1 3 (by omega) (by omega)
  obtain ⟨v2, i2, g2, e2, a2, b2, p2, q2⟩ := l1Below l hl i1 g1 p1 q1 4 (by omega) (by omega)
  obtain ⟨v3, i3, g3, e3, a3, b3, p3, q3⟩ := l1Below l hl i2 g2 p2 q2 4 (by omega) (by omega)
  obtain ⟨v4, i4, g4, e4, a4, b4, p4, q4⟩ := l1Below l hl i3 g3 p3 q3 2 (by omega) (by omega)
  obtain ⟨v5, i5, g5, e5, a5, b5, p5, q5⟩ := l1Below l hl i4 g4 p4 q4 2 (by omega) (by omega)
  generalize hrc : wrap64 (120 + (wrap64 (10 * v1))) = rc
  generalize hcr : wrap64 (30 + (wrap64 (10 * v2))) = cr
  generalize hvw : wrap64 (50 + (wrap64 (10 * v3))) = vw
  obtain ⟨v6, i6, g6, e6, a6, b6, p6, q6⟩ := l1Below l hl i5 g5 p5 q5 2 (by omega) (by omega)
  have w6 := Aside0.mk (K.wr (x := 2 + v6) (by omega) (by omega))
  obtain ⟨sa, i7, g7, k1, k2, p7, q7, k3⟩ := sky1 l hl 2 rc cr vw v4 60 v5 0 (2 + v6) (by omega) (by omega) (2 + v6).toNat 0 [] i6 g6 (by omega) (by omega) (by omega) (by simp; omega) (by intro x hx; simp at hx) p6 q6
  obtain ⟨v8, i8, g8, e8, a8, b8, p8, q8⟩ := l1Below l hl i7 g7 p7 q7 2 (by omega) (by omega)
  have w8 := Aside0.mk (K.wr (x := 2 + v8) (by omega) (by omega))
  simp at k1
  obtain ⟨sb, i9, g9, m1, m2, p9, q9, m3⟩ := sky1 l hl 2 rc cr vw v4 60 v5 1 (2 + v8) (by omega) (by omega) (2 + v8).toNat 0 sa i8 g8 (by omega) (by omega) (by omega) (by omega) k2 p8 q8
  obtain ⟨v10, i10, g10, e10, a10, b10, p10, q10⟩ := l1Below l hl i9 g9 p9 q9 12 (by omega) (by omega)
  obtain ⟨v11, i11, g11, e11, a11, b11, p11, q11⟩ := l1Below l hl i10 g10 p10 q10 2 (by omega) (by omega)
  obtain ⟨v12, i12, g12, e12, a12, b12, p12, q12⟩ := l1Below l hl i11 g11 p11 q11 12 (by omega) (by omega)
  obtain ⟨v13, i13, g13, e13, p13, q13⟩ := l1Once l hl i12 g12 p12 q12 3 (by omega) (by omega)
  have hsi : ∀ x ∈ ([(⟨0, wrap64 (10 * v10), v11⟩ : S74), (⟨1, wrap64 (180 + (wrap64 (10 * v12))), 0⟩ : S74)] : List S74), i64 x.f0 := by
    intro x hx
    rcases List.mem_cons.1 hx with rfl | hx
    · exact ⟨by show (-9223372036854775808 : Int) ≤ 0; decide, by show (0 : Int) ≤ 9223372036854775807; decide⟩
    · rw [List.mem_singleton] at hx
      subst hx
      exact ⟨by show (-9223372036854775808 : Int) ≤ 1; decide, by show (1 : Int) ≤ 9223372036854775807; decide⟩
  have step : ∀ r, Ev (fun k => spec_l7Sky.l0 k 2 l i9 g9 2 sb rc cr vw v4 60 v5) r → Ev (fun k => spec_l7Sky.f k l i h) r := by
    intro r g
    unfold spec_l7Sky.f
    simp only [e1, e2, e3, e4, e5, Option.bind_some, hrc, hcr, hvw]
    refine K.succ ?_
    simp only [spec_l7Sky.l0, e6, Option.bind_some, w6.out]
    refine K.pos (by omega) (k3 r (K.succ ?_))
    rw [show (0 : Int) + 1 = 1 from rfl]
    simp only [spec_l7Sky.l0, e8, Option.bind_some, w8.out]
    exact K.pos (by omega) (m3 r g)
  cases v13 with
  | false =>
    refine ⟨2, sb, _, rc, cr, vw, v4, 60, [], v5, i13, g13, ⟨⟨by decide, by decide⟩, by omega, rfl, by simp, m2, hsi⟩, by omega, by simp, p13, q13, step _ (K.succ ?_)⟩
    simp only [spec_l7Sky.l0, e10, e11, e12, e13, Option.bind_some]
    exact K.neg (by omega) (K.neg Bool.false_ne_true (Ev.now _))
  | true =>
    obtain ⟨v14, i14, g14, e14, a14, b14, p14, q14⟩ := l1Below l hl i13 g13 p13 q13 2 (by omega) (by omega)
    obtain ⟨v15, i15, g15, e15, a15, b15, p15, q15⟩ := l1Below l hl i14 g14 p14 q14 36 (by omega) (by omega)
    obtain ⟨v16, i16, g16, e16, a16, b16, p16, q16⟩ := l1Below l hl i15 g15 p15 q15 5 (by omega) (by omega)
    refine ⟨2, sb, _, rc, cr, vw, v4, 60, [(⟨v14, ⟨wrap64 (10 * v15), wrap64 (10 * v16)⟩⟩ : S88)], v5, i16, g16, ⟨⟨by decide, by decide⟩, by omega, rfl, ?_, m2, hsi⟩, by omega, ?_, p16, q16, step _ (K.succ ?_)⟩
    rotate_left 2
    · simp only [spec_l7Sky.l0, e10, e11, e12, e13, e14, e15, e16, Option.bind_some]
      exact K.neg (by omega) (K.pos (by trivial) (Ev.now _))
    · simp
    · simp
theorem ten0 (l : List Int) (hl : l.length ≤ 1048576) (pl : Int) (sa : List S72) (si : List S74) (rc cr vw su sh ac : Int) : ∀ (n : Nat) (zo : List S88) (i h : Int), n ≤ 4 → zo.length + n ≤ 8 → 0 ≤ i → i ≤ (l.length : Int) → ∃ (zo' : List S88) (i' h' : Int), zo'.length ≤ 8 ∧ 0 ≤ i' ∧ i' ≤ (l.length : Int) ∧ Ev (fun k => spec_l10Sky.l0 k (n : Int) l i h pl sa si rc cr vw su sh zo ac) (pl, sa, si, rc, cr, vw, su, sh, zo', ac, i', h') := by
  intro n
  induction n with
  | zero =>
    intro zo i h hn hz h0 h1
    refine ⟨zo, i, h, by omega, h0, h1, K.succ ?_⟩
    simp only [spec_l10Sky.l0]
    exact K.neg (by omega) (Ev.now _)
  | succ n ih =>
    intro zo i h hn hz h0 h1
    obtain ⟨v1, i1, g1, e1, a1, b1, p1, q1⟩ := l1Below l hl i h h0 h1 2 (by omega) (by omega)
    obtain ⟨v2, i2, g2, e2, a2, b2, p2, q2⟩ := l1Below l hl i1 g1 p1 q1 36 (by omega) (by omega)
    obtain ⟨v3, i3, g3, e3, a3, b3, p3, q3⟩ := l1Below l hl i2 g2 p2 q2 8 (by omega) (by omega)
    obtain ⟨zo', i4, g4, k1, k2, k3, g⟩ := ih (zo ++ [(⟨v1, ⟨wrap64 (10 * v2), wrap64 (10 * v3)⟩⟩ : S88)]) i3 g3 (by omega) (by rw [List.length_append, List.length_singleton]; omega) p3 q3
    have w := Aside0.mk (K.wr (x := ((n + 1 : Nat) : Int) - 1) (by omega) (by omega))
    rw [show (n : Int) = ((n + 1 : Nat) : Int) - 1 by omega] at g
    refine ⟨zo', i4, g4, k1, k2, k3, K.succ ?_⟩
    simp only [spec_l10Sky.l0, e1, e2, e3, Option.bind_some, w.out]
    exact K.pos (by omega) (K.pos (by omega) g)
theorem l10Sky (l : List Int) (hl : l.length ≤ 1048576) (i h : Int) (h0 : 0 ≤ i) (h1 : i ≤ (l.length : Int)) : ∃ (pl : Int) (sa : List S72) (si : List S74) (rc cr vw su sh : Int) (zo : List S88) (ac i' h' : Int), skyOk pl sa si zo ∧ zo.length ≤ 8 ∧ 0 ≤ i' ∧ i' ≤ (l.length : Int) ∧ Ev (fun k => spec_l10Sky.f k l i h) (pl, sa, si, rc, cr, vw, su, sh, zo, ac, i', h') := by
  obtain ⟨pl, sa, si, rc, cr, vw, su, sh, zo, ac, i1, g1, ⟨o1, o2, o3, o4, o5, o6⟩, hs, hz, p1, q1, e1⟩ := l7Sky l hl i h h0 h1
  obtain ⟨v2, i2, g2, e2, a2, b2, p2, q2⟩ := l1Below l hl i1 g1 p1 q1 3 (by omega) (by omega)
  obtain ⟨zo', i3, g3, k1, k2, k3, g⟩ := ten0 l hl pl sa si rc cr vw su sh ac v2.toNat [] i2 g2 (by omega) (by simp; omega) p2 q2
  rw [show ((v2.toNat : Nat) : Int) = v2 by omega] at g
  refine ⟨pl, sa, si, rc, cr, vw, su, sh, zo', ac, i3, g3, ⟨o1, o2, o3, by omega, o5, o6⟩, k1, k2, k3, ?_⟩
  unfold spec_l10Sky.f
  exact Ev.bind e1 (K.known e2 g)
theorem drawQuiet (l : List Int) (hl : l.length ≤ 1048576) : ∃ (pl : Int) (sa : List S72) (si : List S74) (rc cr vw su sh : Int) (zo : List S88) (ac a f t : Int), skyOk pl sa si zo ∧ -2 ≤ f ∧ f ≤ 17 ∧ t ≤ 57 ∧ 0 ≤ a ∧ a < 8 ∧ Ev (fun k => spec_DrawQuietSpans.f k l) (pl, sa, si, rc, cr, vw, su, sh, zo, ac, a, f, t) := by
  obtain ⟨h, e0⟩ := l1New l hl
  obtain ⟨pl, sa, si, rc, cr, vw, su, sh, zo, ac, i1, g1, ok, hz, p1, q1, e1⟩ := l10Sky l hl 0 h (by omega) (by omega)
  obtain ⟨v2, i2, g2, e2, a2, b2, p2, q2⟩ := l1Below l hl i1 g1 p1 q1 8 (by omega) (by omega)
  obtain ⟨v4, i4, g4, e4, a4, b4, p4, q4⟩ := l1Below l hl i2 g2 p2 q2 20 (by omega) (by omega)
  obtain ⟨v5, i5, g5, e5, a5, b5, p5, q5⟩ := l1Below l hl i4 g4 p4 q4 40 (by omega) (by omega)
  refine ⟨pl, sa, si, rc, cr, vw, su, sh, zo, ac, v2, v4 - 2, v4 - 2 + v5, ok, by omega, by omega, by omega, a2, b2, ?_⟩
  unfold spec_DrawQuietSpans.f
  refine Ev.bind e0 (Ev.bind e1 (K.known e2 (K.known e4 (K.known e5 ?_))))
  dsimp only
  rw [K.wr (x := v4 - 2) (by omega) (by omega), K.wr (x := v4 - 2 + v5) (by omega) (by omega)]
  exact Ev.now _
theorem drawSpeak (l : List Int) (hl : l.length ≤ 1048576) : ∃ (pl : Int) (sa : List S72) (si : List S74) (rc cr vw su sh : Int) (zo : List S88) (ac a b f t : Int), skyOk pl sa si zo ∧ -2 ≤ f ∧ f ≤ 17 ∧ t ≤ 57 ∧ 0 ≤ a ∧ a < 8 ∧ 0 ≤ b ∧ b < 8 ∧ Ev (fun k => spec_DrawSpeakingSpans.f k l) (pl, sa, si, rc, cr, vw, su, sh, zo, ac, a, b, f, t) := by
  obtain ⟨h, e0⟩ := l1New l hl
  obtain ⟨pl, sa, si, rc, cr, vw, su, sh, zo, ac, a, f, t, ok, h1, h2, h3, h4, h5, e⟩ := drawQuiet l hl
  obtain ⟨v2, i2, g2, e2, a2, b2, p2, q2⟩ := l1Below l hl 0 h (by omega) (by omega) 8 (by omega) (by omega)
  refine ⟨pl, sa, si, rc, cr, vw, su, sh, zo, ac, a, v2, f, t, ok, h1, h2, h3, h4, h5, a2, b2, ?_⟩
  unfold spec_DrawSpeakingSpans.f
  exact Ev.bind e (Ev.bind e0 (K.known e2 (Ev.now _)))
theorem l5Angle (l : List Int) (hl : l.length ≤ 1048576) (i h : Int) (h0 : 0 ≤ i) (h1 : i ≤ (l.length : Int)) : ∃ v i' h', spec_l5Angle.f l i h = some (v, i', h') ∧ 0 ≤ i' ∧ i' ≤ (l.length : Int) := by
  obtain ⟨b, i1, g1, e1, p1, q1⟩ := l1Once l hl i h h0 h1 6 (by omega) (by omega)
  unfold spec_l5Angle.f
  simp only [e1, Option.bind_some]
  cases b with
  | true =>
    obtain ⟨v, i2, g2, e2, m2, p2, q2⟩ := l1Int l hl i1 g1 p1 q1 [(-1), (-360), (-361), 359, 360, 361, 9223372036854775807, (-9223372036854775808)] (by decide) (by decide)
    exact ⟨v, i2, g2, by rw [if_pos rfl, e2]; rfl, p2, q2⟩
  | false =>
    have hb : ∃ v i' h', spec_l1Below.f l i1 g1 360 = some (v, i', h') ∧ 0 ≤ i' ∧ i' ≤ (l.length : Int) := by
      obtain ⟨x, i2, g2, e2, a2, b2, p2, q2⟩ := l1Byte l hl i1 g1 p1 q1
      obtain ⟨y, i3, g3, e3, a3, b3, p3, q3⟩ := l1Byte l hl i2 g2 p2 q2
      obtain ⟨z, i4, g4, e4, a4, b4, p4, q4⟩ := l1Byte l hl i3 g3 p3 q3
      unfold spec_l1Below.f
      rw [if_neg (by decide), if_neg (by decide), e2]
      simp only [Option.bind_some, e3, e4]
      exact ⟨_, i4, g4, by first | rfl | (rw [if_neg (by decide)]), p4, q4⟩
    obtain ⟨v, i2, g2, e2, p2, q2⟩ := hb
    exact ⟨v, i2, g2, by rw [if_neg Bool.false_ne_true, e2]; rfl, p2, q2⟩
theorem l5Arc (l : List Int) (hl : l.length ≤ 1048576) (i h : Int) (h0 : 0 ≤ i) (h1 : i ≤ (l.length : Int)) : ∃ v u i' h', spec_l5Arc.f l i h = some (v, u, i', h') ∧ 0 ≤ i' ∧ i' ≤ (l.length : Int) := by
  obtain ⟨v1, i1, g1, e1, p1, q1⟩ := l5Angle l hl i h h0 h1
  obtain ⟨v2, i2, g2, e2, a2, b2, p2, q2⟩ := l1Below l hl i1 g1 p1 q1 80 (by omega) (by omega)
  obtain ⟨b, i3, g3, e3, p3, q3⟩ := l1Once l hl i2 g2 p2 q2 6 (by omega) (by omega)
  unfold spec_l5Arc.f
  simp only [e1, e2, e3, Option.bind_some]
  cases b with
  | true =>
    obtain ⟨v, i4, g4, e4, m4, p4, q4⟩ := l1Int l hl i3 g3 p3 q3 [(-1), 0, 359, 360, 9223372036854775807] (by decide) (by decide)
    exact ⟨v1, v, i4, g4, by rw [if_pos rfl, e4]; rfl, p4, q4⟩
  | false => exact ⟨v1, v2, i3, g3, by rw [if_neg Bool.false_ne_true], p3, q3⟩


theorem drawMay (l : List Int) (hl : l.length ≤ 1048576) : ∃ (pl : Int) (sa : List S72) (si : List S74) (rc cr vw su sh : Int) (zo : List S88) (ac a t : Int), skyOk pl sa si zo ∧ Ev (fun k => spec_DrawMayDisturb.f k l) (pl, sa, si, rc, cr, vw, su, sh, zo, ac, a, t) := by
  obtain ⟨h, e0⟩ := l1New l hl
  obtain ⟨pl, sa, si, rc, cr, vw, su, sh, zo, ac, i1, g1, ⟨o1, o2, o3, o4, o5, o6⟩, hz, p1, q1, e1⟩ := l10Sky l hl 0 h (by omega) (by omega)
  obtain ⟨b, i2, g2, e2, p2, q2⟩ := l1Once l hl i1 g1 p1 q1 6 (by omega) (by omega)
  cases b with
  | true =>
    obtain ⟨x, y, i3, g3, e3, p3, q3⟩ := l5Arc l hl i2 g2 p2 q2
    obtain ⟨v4, i4, g4, e4, a4, b4, p4, q4⟩ := l1Below l hl i3 g3 p3 q3 10 (by omega) (by omega)
    obtain ⟨v5, i5, g5, e5, p5, q5⟩ := l4Raw l hl i4 g4 p4 q4
    refine ⟨pl, sa, si, rc, cr, vw, su, sh, zo ++ [(⟨0, ⟨x, y⟩⟩ : S88)], ac, wrap64 (v4 - 1), v5, ⟨o1, o2, o3, by rw [List.length_append, List.length_singleton]; omega, o5, o6⟩, ?_⟩
    have hz2 : zo.length < 5864062014805 := by omega
    unfold spec_DrawMayDisturb.f
    exact Ev.bind e0 (Ev.bind e1 (K.known e2 (K.pos (by trivial) (K.known e3 (K.pos hz2 (K.known e4 (K.known e5 (Ev.now _))))))))
  | false =>
    obtain ⟨v4, i4, g4, e4, a4, b4, p4, q4⟩ := l1Below l hl i2 g2 p2 q2 10 (by omega) (by omega)
    obtain ⟨v5, i5, g5, e5, p5, q5⟩ := l4Raw l hl i4 g4 p4 q4
    refine ⟨pl, sa, si, rc, cr, vw, su, sh, zo, ac, wrap64 (v4 - 1), v5, ⟨o1, o2, o3, o4, o5, o6⟩, ?_⟩
    unfold spec_DrawMayDisturb.f
    exact Ev.bind e0 (Ev.bind e1 (K.known e2 (K.neg Bool.false_ne_true (K.known e4 (K.known e5 (Ev.now _))))))
theorem quietSky (pl : Int) (sa : List S72) (si : List S74) (rc cr vw su sh : Int) (zo : List S88) (ac : Int) (p : Int → Int → Bool) (hp : ∀ i t, Ev (fun k => impl_MayDisturb.f k pl sa si rc cr vw su sh zo ac i t) (p i t)) (hn : sa.length ≤ 1000) (n t : Int) (h0 : 0 ≤ n) (h1 : n < (sa.length : Int)) (hh : p n t = true) : ∀ (d : Nat) (i : Int), 0 ≤ i → i ≤ n → n - i = d → Ev (fun k => impl_IsQuietSky.l0 k t (sa.length : Int) i pl sa si rc cr vw su sh zo ac) false := by
  intro d
  induction d with
  | zero =>
    intro i i0 i1 hd
    have g := hp i t
    rw [show i = n by omega, hh] at g
    refine K.succ ?_
    simp only [impl_IsQuietSky.l0]
    rw [show i = n by omega]
    exact K.pos (by omega) (Ev.bind g (K.pos rfl (Ev.now _)))
  | succ d ih =>
    intro i i0 i1 hd
    have w1 := Aside0.mk (K.wr (x := i + 1) (by omega) (by omega))
    have nx := ih (i + 1) (by omega) (by omega) (by omega)
    have g := hp i t
    refine K.succ ?_
    simp only [impl_IsQuietSky.l0, w1.out]
    refine K.pos (by omega) (Ev.bind g ?_)
    cases p i t with
    | true => exact K.pos rfl (Ev.now _)
    | false => exact K.neg Bool.false_ne_true nx
theorem loopS (pl : Int) (sa : List S72) (si : List S74) (rc cr vw su sh : Int) (zo : List S88) (ac : Int) (code : List Int) (p : Int → Int → Bool) (q : Int → Bool) (a b : Int) (hp : ∀ i t, Ev (fun k => impl_MayDisturb.f k pl sa si rc cr vw su sh zo ac i t) (p i t)) (hq : ∀ t, Ev (fun k => impl_IsSure.f k pl sa si rc cr vw su sh zo ac a b t) (q t)) (f tt : Int) (hf : -2 ≤ f) (hf2 : f ≤ 17) (ht : tt ≤ 57) (g : ∀ t, tt ≤ t → Ev (fun k => laws_FnSilence.l0 k code a b tt (spkR q (p a) (p b) f tt) (win (p a) f tt) t pl sa si rc cr vw su sh zo ac) true) : ∀ (d : Nat) (t : Int), f ≤ t → 0 ≤ t → tt - t ≤ d → Ev (fun k => laws_FnSilence.l0 k code a b tt (spkR q (p a) (p b) f tt) (win (p a) f tt) t pl sa si rc cr vw su sh zo ac) true := by
  intro d
  induction d with
  | zero => intro t h0 _ hd; exact g t (by omega)
  | succ d ih =>
    intro t h0 h00 hd
    by_cases ct : t < tt
    · have l1 := inSp (spkR q (p a) (p b) f tt) (spkR_len _ _ _ _ _) t
      have l2 := inSp (win (p a) f tt) (win_len _ _ _) t
      rw [(win_ok _ f tt t (by omega)).2, decide_eq_true (show 0 ≤ t ∧ t < 1000 ∧ f ≤ t ∧ t < tt by omega), Bool.true_and] at l2
      rw [spkR_in q (p a) (p b) f tt t (by omega) h00 (by omega), decide_eq_true (show f ≤ t ∧ t < tt by omega), Bool.true_and] at l1
      have w1 := Aside0.mk (K.wr (x := t + 1) (by omega) (by omega))
      have nx := ih (t + 1) (by omega) (by omega) (by omega)
      have fin : ∀ x : Bool, x = !(p a t || p b t) → Ev (fun k => laws_FnSilence.j1 k code a b tt (spkR q (p a) (p b) f tt) (win (p a) f tt) t x pl sa si rc cr vw su sh zo ac) true := by
        intro x hx
        refine K.succ ?_
        simp only [laws_FnSilence.j1, w1.out]
        refine Ev.bind l1 ?_
        rw [← hx]
        cases x with
        | true => exact K.pos rfl (Ev.bind (hq t) (K.neg (by simp) (Ev.bind l2 (Ev.bind (hp a t) (K.neg (by simp) nx)))))
        | false => exact K.neg Bool.false_ne_true (K.neg (by simp) (Ev.bind l2 (Ev.bind (hp a t) (K.neg (by simp) nx))))
      refine K.succ ?_
      simp only [laws_FnSilence.l0]
      refine K.pos ct (Ev.bind (hp a t) ?_)
      cases c : p a t with
      | true => exact K.pos rfl (fin false (by rw [c]; rfl))
      | false => exact K.neg Bool.false_ne_true (Ev.bind (hp b t) (fin _ (by rw [c, Bool.false_or])))
    · exact g t (by omega)
theorem iMax0 (f : Int) : ∃ v, impl_Max.f 0 f = some v ∧ 0 ≤ v ∧ f ≤ v := by
  unfold impl_Max.f
  exact ⟨mx 0 f, rfl, by unfold mx; split <;> omega, by unfold mx; split <;> omega⟩
end LFnSilence
theorem FnSilence (l : List Int) : ∃ k, laws_FnSilence.f k l = some true := by
  refine K.rounds (g := fun k => laws_FnSilence.f k l) ?_
  unfold laws_FnSilence.f laws_big.f
  refine K.known rfl ?_
  by_cases c : (l.length : Int) > 1048576
  · exact K.pos (decide_eq_true c) (Ev.now _)
  refine K.neg (by simp; omega) ?_
  obtain ⟨pl, sa, si, rc, cr, vw, su, sh, zo, ac, a, b, f, tt, ⟨o1, o2, o3, o4, o5, o6⟩, hf, hf2, ht, _, _, _, _, e1⟩ := LFnSilence.drawSpeak l (by omega)
  obtain ⟨pl', sa', si', rc', cr', vw', su', sh', zo', ac', n, t, ⟨p1, p2, p3, p4, p5, p6⟩, e2⟩ := LFnSilence.drawMay l (by omega)
  have hn : (sa.length : Int) + si.length ≤ 4194304 := by omega
  have hn' : (sa'.length : Int) + si'.length ≤ 4194304 := by omega
  have h1 : ∀ x ∈ sa, -9223372036854775808 ≤ x.f0 ∧ x.f0 ≤ 9223372036854775807 := fun x hx => (o5 x hx).1
  obtain ⟨p, hp⟩ := LFnSilence.mayD pl sa si rc cr vw su sh zo ac hn (by omega)
  obtain ⟨p', hp'⟩ := LFnSilence.mayD pl' sa' si' rc' cr' vw' su' sh' zo' ac' hn' (by omega)
  have hq := fun t => LFnSilence.iSure pl sa si rc cr vw su sh zo ac hn o1.1 o1.2 h1 o6 a b t
  have s1 := LFnSilence.iSpeak pl sa si rc cr vw su sh zo ac p _ a b (fun i t => (hp i t).1) hq f tt
  obtain ⟨r, hr, s2, s3⟩ := LFnSilence.speaking pl sa si rc cr vw su sh zo ac hn (by omega) o1.1 o1.2 h1 o6 a b f tt
  have er : r = LFnSilence.spkR (fun t => LFnSilence.sightV pl sa si rc cr vw a b t == 2) (p a) (p b) f tt := LFnSilence.evOne s3 s1
  rw [er] at s2
  obtain ⟨v, hv, v0, v1⟩ := LFnSilence.iMax0 f
  refine Ev.bind e1 ?_
  dsimp only
  refine Ev.bind s1 (Ev.bind s2 (K.pos rfl (Ev.bind (LFnSilence.iQuietW pl sa si rc cr vw su sh zo ac p (fun i t => (hp i t).1) a f tt) (K.known hv ?_))))
  refine LFnSilence.loopS pl sa si rc cr vw su sh zo ac l p _ a b (fun i t => (hp i t).1) hq f tt hf hf2 ht (fun u hu => ?_) (tt - v).toNat v v1 v0 (by omega)
  refine K.succ ?_
  simp only [laws_FnSilence.l0]
  refine K.neg (by omega) (Ev.bind e2 ?_)
  dsimp only
  refine Ev.bind (hp' n t).1 ?_
  by_cases ci : 0 ≤ n ∧ n < (sa'.length : Int)
  · cases cp : p' n t with
    | true =>
      have hqs := LFnSilence.quietSky pl' sa' si' rc' cr' vw' su' sh' zo' ac' p' (fun i t => (hp' i t).1) (by omega) n t ci.1 ci.2 cp n.toNat 0 (by omega) (by omega) (by omega)
      exact K.pos rfl (K.pos ci.1 (K.pos ci.2 (Ev.bind (by unfold impl_IsQuietSky.f; exact hqs) (Ev.now _))))
    | false => exact K.neg Bool.false_ne_true (Ev.now _)
  · rw [(hp' n t).2 ci]
    exact K.neg Bool.false_ne_true (Ev.now _)

end Go.Proofs.Ytopbkdcicidajaa.Pure
