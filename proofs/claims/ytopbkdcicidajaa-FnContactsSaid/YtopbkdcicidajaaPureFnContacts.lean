/- At every code of at most 2^20 bytes, in a contact of the drawn sky both nodes see each other surely, have done so while the link was established, and disturb nobody; the plan of all contacts is a plan; and who can speak can be spoken to. -/
import Derived.Test.YtopbkdcicidajaaQFnContactsx
import Derived.Test.YtopbkdcicidajaaKKit
namespace Go.Proofs.Ytopbkdcicidajaa.Pure
open Go.RowKit Go.Proofs.Ytopbkdcicidajaa.PFnContacts Go.Proofs.YtopbkdcicidajaaW.PrintWords Go.Proofs.YtopbkdcicidajaaW.PrintLast Go.Proofs.YtopbkdcicidajaaW.PrintMore Go.Proofs.Ytopbkdcicidajaa
set_option linter.unusedSimpArgs false
set_option linter.unusedVariables false
namespace LFnContacts
theorem l1In (a b c : Int) : spec_l1In.f a b c = some (decide (b ≤ a ∧ a ≤ c)) := by
  unfold spec_l1In.f
  split <;> (try split) <;> first | rfl | (congr 1; exact decide_eq_decide.2 (by omega)) | (congr 1; exact (decide_eq_false (by omega)).symm)
theorem InRange (a b c : Int) : impl_InRange.f a b c = some (decide (b ≤ a ∧ a ≤ c)) := by
  unfold impl_InRange.f
  split <;> (try split) <;> first | rfl | (congr 1; exact decide_eq_decide.2 (by omega)) | (congr 1; exact (decide_eq_false (by omega)).symm)
theorem iWidth (n : Int) : impl_isWidth.f n = some (decide (0 ≤ n ∧ n ≤ 359)) := by
  unfold impl_isWidth.f
  simp only [InRange, Option.bind_some]
def satOk (pl : Int) (x : S72) : Prop := 0 ≤ x.f0 ∧ x.f0 < pl ∧ (0 ≤ x.f1 ∧ x.f1 ≤ 359) ∧ (-60 ≤ x.f2 ∧ x.f2 ≤ 60) ∧ (0 ≤ x.f3 ∧ x.f3 ≤ 20)
def siteOk (pl : Int) (x : S74) : Prop := 0 ≤ x.f0 ∧ x.f0 < pl ∧ (0 ≤ x.f1 ∧ x.f1 ≤ 359) ∧ (-60 ≤ x.f2 ∧ x.f2 ≤ 60)
def zoneOk (pl : Int) (x : S88) : Prop := 0 ≤ x.f0 ∧ x.f0 < pl ∧ (0 ≤ x.f1.f1 ∧ x.f1.f1 ≤ 359)
theorem iIsSat' (x : S72) (pl : Int) : ∃ b, impl_IsSat.f x.f0 x.f1 x.f2 x.f3 pl = some b ∧ (b = true ↔ satOk pl x) := by
  unfold impl_IsSat.f satOk
  simp only [InRange, Option.bind_some, decide_eq_true_eq]
  by_cases c0 : x.f0 ≥ 0
  · rw [if_pos c0]
    by_cases c1 : x.f0 < pl
    · rw [if_pos c1]
      by_cases c2 : 0 ≤ x.f1 ∧ x.f1 ≤ 359
      · rw [if_pos c2]
        by_cases c3 : -60 ≤ x.f2 ∧ x.f2 ≤ 60
        · rw [if_pos c3]
          exact ⟨_, rfl, by rw [decide_eq_true_eq]; omega⟩
        · rw [if_neg c3]
          exact ⟨_, rfl, fun h => absurd h Bool.false_ne_true, fun h => absurd h.2.2.2.1 c3⟩
      · rw [if_neg c2]
        exact ⟨_, rfl, fun h => absurd h Bool.false_ne_true, fun h => absurd h.2.2.1 c2⟩
    · rw [if_neg c1]
      exact ⟨_, rfl, fun h => absurd h Bool.false_ne_true, fun h => absurd h.2.1 c1⟩
  · rw [if_neg c0]
    exact ⟨_, rfl, fun h => absurd h Bool.false_ne_true, fun h => absurd h.1 c0⟩
def headOk (pl : Int) (sa : List S72) (si : List S74) (zo : List S88) : Prop := (1 ≤ pl ∧ pl ≤ 4) ∧ (1 ≤ (sa.length : Int) ∧ (sa.length : Int) ≤ 8) ∧ ¬ (si.length : Int) > 4 ∧ ¬ (zo.length : Int) > 4
def tailOk (rc cr vw su sh ac : Int) : Prop := (0 ≤ rc ∧ rc ≤ 180) ∧ (0 ≤ cr ∧ cr ≤ 180) ∧ (0 ≤ vw ∧ vw ≤ 180) ∧ (0 ≤ sh ∧ sh ≤ 180) ∧ (-60 ≤ su ∧ su ≤ 60) ∧ (0 ≤ ac ∧ ac ≤ 20)
theorem iTail (pl : Int) (sa : List S72) (si : List S74) (rc cr vw su sh : Int) (zo : List S88) (ac : Int) : ∃ b : Bool, Ev (fun k => impl_IsSky.l3 k [rc, cr, vw, sh] (([rc, cr, vw, sh] : List Int).length : Int) 0 pl sa si rc cr vw su sh zo ac) b ∧ (b = true ↔ tailOk rc cr vw su sh ac) := by
  have hg : ∃ b : Bool, ∀ _k : Nat, ((impl_InRange.f su (-60) 60).bind fun t228 => (if t228 = true then ((impl_InRange.f ac 0 20).bind fun t229 => (some t229)) else (some false))) = some b ∧ (b = true ↔ (-60 ≤ su ∧ su ≤ 60) ∧ (0 ≤ ac ∧ ac ≤ 20)) := by
    simp only [InRange, Option.bind_some, decide_eq_true_eq]
    by_cases c5 : -60 ≤ su ∧ su ≤ 60
    · exact ⟨decide (0 ≤ ac ∧ ac ≤ 20), fun k => ⟨by rw [if_pos c5], by rw [decide_eq_true_eq]; exact ⟨fun h => ⟨c5, h⟩, fun h => h.2⟩⟩⟩
    · exact ⟨false, fun k => ⟨by rw [if_neg c5], fun h => absurd h Bool.false_ne_true, fun h => absurd h.1 c5⟩⟩
  obtain ⟨b, hb⟩ := hg
  obtain ⟨h1, h2⟩ := K.alls (n := 4) (fun k i => impl_IsSky.l3 k [rc, cr, vw, sh] 4 i pl sa si rc cr vw su sh zo ac) (fun _ => some b) (fun j => 0 ≤ rd [rc, cr, vw, sh] j ∧ rd [rc, cr, vw, sh] j ≤ 180) (by
      intro k i hi
      simp only [impl_IsSky.l3]
      rw [if_neg (show ¬ i < 4 by omega)]
      exact (hb 0).1) (by
      intro k i i0 hi ho
      simp only [impl_IsSky.l3, InRange, Option.bind_some, decide_eq_true_eq]
      rw [if_pos (show i < 4 by omega), if_pos i0, if_pos (show i < (([rc, cr, vw, sh] : List Int).length : Int) by simp; omega), if_pos ho, K.wr (x := i + 1) (by omega) (by omega)]) (by
      intro k i i0 hi ho
      simp only [impl_IsSky.l3, InRange, Option.bind_some, decide_eq_true_eq]
      rw [if_pos (show i < 4 by omega), if_pos i0, if_pos (show i < (([rc, cr, vw, sh] : List Int).length : Int) by simp; omega), if_neg ho]) 4 0 (by omega) (by omega)
  · by_cases c : ∀ j : Int, 0 ≤ j → j < 4 → 0 ≤ rd [rc, cr, vw, sh] j ∧ rd [rc, cr, vw, sh] j ≤ 180
    · refine ⟨b, h1 c b (Ev.now _), ?_⟩
      rw [(hb 0).2]
      exact ⟨fun h => ⟨c 0 (by omega) (by omega), c 1 (by omega) (by omega), c 2 (by omega) (by omega), c 3 (by omega) (by omega), h⟩, fun h => h.2.2.2.2⟩
    · refine ⟨false, h2 c, fun h => absurd h Bool.false_ne_true, fun h => absurd (fun j j0 j1 => ?_) c⟩
      have hj : j = 0 ∨ j = 1 ∨ j = 2 ∨ j = 3 := by omega
      rcases hj with rfl | rfl | rfl | rfl
      · exact h.1
      · exact h.2.1
      · exact h.2.2.1
      · exact h.2.2.2.1
theorem iSkyI (pl : Int) (sa : List S72) (si : List S74) (rc cr vw su sh : Int) (zo : List S88) (ac : Int) (h1 : sa.length ≤ 1048576) (h2 : si.length ≤ 1048576) (h3 : zo.length ≤ 1048576) (hpl0 : -9223372036854775808 ≤ pl) (hpl1 : pl ≤ 9223372036854775807) :
    ∃ b, Ev (fun k => impl_IsSky.f k pl sa si rc cr vw su sh zo ac) b := by
  have ibad : Ev (fun k => impl_IsSky.j0 k true pl sa si rc cr vw su sh zo ac) false := by
    refine K.succ ?_
    simp only [impl_IsSky.j0]
    exact K.pos (by trivial) (Ev.now _)
  unfold impl_IsSky.f
  simp only [InRange, Option.bind_some, decide_eq_true_eq]
  by_cases hh : headOk pl sa si zo
  · obtain ⟨p1, p2, p3, p4⟩ := hh
    have hz : decide ((zo.length : Int) > 4) = false := decide_eq_false p4
    have w1 : wrap64 (pl - 1) = pl - 1 := K.wr (by omega) (by omega)
    obtain ⟨i0y, i0n⟩ := K.alls (n := sa.length) (fun k i => impl_IsSky.l0 k sa (sa.length : Int) i pl sa si rc cr vw su sh zo ac) (fun k => impl_IsSky.l1 k si (si.length : Int) 0 pl sa si rc cr vw su sh zo ac) (fun j => satOk pl (rd_T72 sa j)) (by
        intro k i hi
        simp only [impl_IsSky.l0]
        rw [if_neg hi]) (by
        intro k i i0 hi ho
        obtain ⟨b, e, hb⟩ := iIsSat' (rd_T72 sa i) pl
        simp only [impl_IsSky.l0, e, Option.bind_some]
        rw [if_pos hi, if_pos i0, if_pos hi, if_pos (hb.2 ho), K.wr (x := i + 1) (by omega) (by omega)]) (by
        intro k i i0 hi ho
        obtain ⟨b, e, hb⟩ := iIsSat' (rd_T72 sa i) pl
        simp only [impl_IsSky.l0, e, Option.bind_some]
        rw [if_pos hi, if_pos i0, if_pos hi, if_neg (fun h => ho (hb.1 h))]) sa.length 0 (by omega) (by omega)
    obtain ⟨i1y, i1n⟩ := K.alls (n := si.length) (fun k i => impl_IsSky.l1 k si (si.length : Int) i pl sa si rc cr vw su sh zo ac) (fun k => impl_IsSky.l2 k zo (zo.length : Int) 0 pl sa si rc cr vw su sh zo ac) (fun j => siteOk pl (rd_T74 si j)) (by
        intro k i hi
        simp only [impl_IsSky.l1]
        rw [if_neg hi]) (by
        intro k i i0 hi ho
        simp only [impl_IsSky.l1, InRange, Option.bind_some, decide_eq_true_eq, w1]
        unfold siteOk at ho
        rw [if_pos hi, if_pos i0, if_pos hi, if_pos (by omega), if_pos ho.2.2.1, if_pos ho.2.2.2, K.wr (x := i + 1) (by omega) (by omega)]) (by
        intro k i i0 hi ho
        simp only [impl_IsSky.l1, InRange, Option.bind_some, decide_eq_true_eq, w1]
        unfold siteOk at ho
        rw [if_pos hi, if_pos i0, if_pos hi]
        by_cases e0 : 0 ≤ (rd_T74 si i).f0 ∧ (rd_T74 si i).f0 ≤ pl - 1
        · rw [if_pos e0]
          by_cases e2 : 0 ≤ (rd_T74 si i).f1 ∧ (rd_T74 si i).f1 ≤ 359
          · rw [if_pos e2, if_neg (fun e3 => ho ⟨by omega, by omega, e2, e3⟩)]
          · rw [if_neg e2]
        · rw [if_neg e0]) si.length 0 (by omega) (by omega)
    obtain ⟨i2y, i2n⟩ := K.alls (n := zo.length) (fun k i => impl_IsSky.l2 k zo (zo.length : Int) i pl sa si rc cr vw su sh zo ac) (fun k => impl_IsSky.l3 k [rc, cr, vw, sh] (([rc, cr, vw, sh] : List Int).length : Int) 0 pl sa si rc cr vw su sh zo ac) (fun j => zoneOk pl (rd_T88 zo j)) (by
        intro k i hi
        simp only [impl_IsSky.l2, Option.bind_some]
        rw [if_neg hi]) (by
        intro k i i0 hi ho
        simp only [impl_IsSky.l2, InRange, iWidth, Option.bind_some, decide_eq_true_eq, w1]
        unfold zoneOk at ho
        rw [if_pos hi, if_pos i0, if_pos hi, if_pos (by omega), if_pos ho.2.2, K.wr (x := i + 1) (by omega) (by omega)]) (by
        intro k i i0 hi ho
        simp only [impl_IsSky.l2, InRange, iWidth, Option.bind_some, decide_eq_true_eq, w1]
        unfold zoneOk at ho
        rw [if_pos hi, if_pos i0, if_pos hi]
        by_cases e0 : 0 ≤ (rd_T88 zo i).f0 ∧ (rd_T88 zo i).f0 ≤ pl - 1
        · rw [if_pos e0, if_neg (fun e3 => ho ⟨by omega, by omega, e3⟩)]
        · rw [if_neg e0]) zo.length 0 (by omega) (by omega)
    have igo : ∀ v, Ev (fun k => impl_IsSky.l0 k sa (sa.length : Int) 0 pl sa si rc cr vw su sh zo ac) v → Ev (fun k => if 1 ≤ pl ∧ pl ≤ 4 then if 1 ≤ (sa.length : Int) ∧ (sa.length : Int) ≤ 8 then if (si.length : Int) > 4 then impl_IsSky.j0 k true pl sa si rc cr vw su sh zo ac else impl_IsSky.j0 k (decide ((zo.length : Int) > 4)) pl sa si rc cr vw su sh zo ac else impl_IsSky.j0 k true pl sa si rc cr vw su sh zo ac else impl_IsSky.j0 k true pl sa si rc cr vw su sh zo ac) v := by
      intro v hv
      refine K.pos p1 (K.pos p2 (K.neg p3 ?_))
      rw [hz]
      refine K.succ ?_
      simp only [impl_IsSky.j0]
      exact K.neg Bool.false_ne_true hv
    by_cases q0 : ∀ j : Int, 0 ≤ j → j < (sa.length : Int) → satOk pl (rd_T72 sa j)
    · by_cases q1 : ∀ j : Int, 0 ≤ j → j < (si.length : Int) → siteOk pl (rd_T74 si j)
      · by_cases q2 : ∀ j : Int, 0 ≤ j → j < (zo.length : Int) → zoneOk pl (rd_T88 zo j)
        · obtain ⟨b', t3, t4⟩ := iTail pl sa si rc cr vw su sh zo ac
          exact ⟨b', igo b' (i0y q0 b' (i1y q1 b' (i2y q2 b' t3)))⟩
        · exact ⟨false, igo _ (i0y q0 _ (i1y q1 _ (i2n q2)))⟩
      · exact ⟨false, igo _ (i0y q0 _ (i1n q1))⟩
    · exact ⟨false, igo _ (i0n q0)⟩
  · have hi : Ev (fun k => if 1 ≤ pl ∧ pl ≤ 4 then if 1 ≤ (sa.length : Int) ∧ (sa.length : Int) ≤ 8 then if (si.length : Int) > 4 then impl_IsSky.j0 k true pl sa si rc cr vw su sh zo ac else impl_IsSky.j0 k (decide ((zo.length : Int) > 4)) pl sa si rc cr vw su sh zo ac else impl_IsSky.j0 k true pl sa si rc cr vw su sh zo ac else impl_IsSky.j0 k true pl sa si rc cr vw su sh zo ac) false := by
      by_cases p1 : 1 ≤ pl ∧ pl ≤ 4
      · refine K.pos p1 ?_
        by_cases p2 : 1 ≤ (sa.length : Int) ∧ (sa.length : Int) ≤ 8
        · refine K.pos p2 ?_
          by_cases p3 : (si.length : Int) > 4
          · exact K.pos p3 ibad
          · refine K.neg p3 ?_
            have p4 : (zo.length : Int) > 4 := Decidable.byContradiction (fun p4 => hh ⟨p1, p2, p3, p4⟩)
            rw [decide_eq_true p4]
            exact ibad
        · exact K.neg p2 ibad
      · exact K.neg p1 ibad
    exact ⟨false, hi⟩
def put (o : List S82) (t : Int) : List S82 :=
  if (o.length : Int) > 0 then (if (rd_T82 o ((o.length : Int) - 1)).f1 = t then o.set ((o.length : Int) - 1).toNat ⟨(rd_T82 o ((o.length : Int) - 1)).f0, t + 1⟩ else o ++ [⟨t, t + 1⟩]) else o ++ [⟨t, t + 1⟩]
theorem put_len (o : List S82) (t : Int) : (put o t).length ≤ o.length + 1 := by
  unfold put
  (repeat' split) <;> simp
def run (p : Int → Bool) (o : List S82) (t : Int) : Nat → List S82
  | 0 => o
  | d + 1 => run p (if p t = true then put o t else o) (t + 1) d
theorem run_len (p : Int → Bool) : ∀ (d : Nat) (o : List S82) (t : Int), (run p o t d).length ≤ o.length + d := by
  intro d
  induction d with
  | zero =>
    intro o t
    simp [run]
  | succ d ih =>
    intro o t
    simp only [run]
    refine Nat.le_trans (ih _ _) ?_
    have := put_len o t
    split <;> omega
def vs (s : S82) : Bool := decide (s.f0 ≥ 0 ∧ s.f1 ≤ 1000 ∧ s.f0 < s.f1)
def ins (s : S82) (t : Int) : Bool := vs s && (decide (s.f0 ≤ t) && decide (t < s.f1))
def inl (l : List S82) (t : Int) : Bool := l.any (fun s => ins s t)
theorem iVs (s : S82) : impl_IsSpan.f s.f0 s.f1 = some (vs s) := by
  unfold impl_IsSpan.f vs
  by_cases c0 : s.f0 ≥ 0
  · rw [if_pos c0]
    by_cases c1 : s.f1 ≤ 1000
    · rw [if_pos c1]
      simp [c0, c1]
    · rw [if_neg c1]
      simp [c1]
  · rw [if_neg c0]
    simp [c0]
theorem rdDrop (l : List S82) (i : Int) (h0 : 0 ≤ i) (h1 : i < (l.length : Int)) : l.drop i.toNat = rd_T82 l i :: l.drop (i + 1).toNat := by
  rw [List.drop_eq_getElem_cons (by omega), show (i + 1).toNat = i.toNat + 1 by omega]
  simp [rd_T82, List.getD_eq_getElem?_getD, List.getElem?_eq_getElem (show i.toNat < l.length by omega)]
def last (l : List S82) (n : Int) : Int := l.foldl (fun n s => if vs s = true then (if s.f1 > n then s.f1 else n) else n) n
def mark (x : List Bool) (a : Int) : Nat → List Bool
  | 0 => x
  | d + 1 => mark (x.set a.toNat true) (a + 1) d
theorem mark_len : ∀ (d : Nat) (x : List Bool) (a : Int), (mark x a d).length = x.length := by
  intro d
  induction d with
  | zero => intro x a; rfl
  | succ d ih =>
    intro x a
    simp only [mark, ih, List.length_set]
theorem mark_get (t : Int) (h0 : 0 ≤ t) : ∀ (d : Nat) (x : List Bool) (a : Int), 0 ≤ a → t < (x.length : Int) → rdOf false (mark x a d) t = (rdOf false x t || (decide (a ≤ t) && decide (t < a + d))) := by
  intro d
  induction d with
  | zero =>
    intro x a ha ht
    have : ¬ (a ≤ t ∧ t < a + (0 : Nat)) := by omega
    rw [← Bool.decide_and, decide_eq_false this, Bool.or_false]
    rfl
  | succ d ih =>
    intro x a ha ht
    simp only [mark]
    rw [ih _ _ (by omega) (by simp; omega)]
    by_cases c : a = t
    · subst c
      have e : rdOf false (x.set a.toNat true) a = true := by
        simp only [rdOf, List.getD_eq_getElem?_getD]
        rw [List.getElem?_set_self (by omega)]
        rfl
      have e2 : (decide (a ≤ a) && decide (a < a + ((d + 1 : Nat) : Int))) = true := by
        rw [← Bool.decide_and]
        exact decide_eq_true (by omega)
      rw [e, e2, Bool.true_or, Bool.or_true]
    · have e : rdOf false (x.set a.toNat true) t = rdOf false x t := by
        simp only [rdOf, List.getD_eq_getElem?_getD]
        rw [List.getElem?_set_ne (by omega)]
      have e2 : (decide (a + 1 ≤ t) && decide (t < a + 1 + (d : Int))) = (decide (a ≤ t) && decide (t < a + ((d + 1 : Nat) : Int))) := by
        rw [← Bool.decide_and, ← Bool.decide_and]
        exact decide_eq_decide.2 (by omega)
      rw [e, e2]
def tk : List S82 → List Bool → List Bool
  | [], x => x
  | s :: l, x => tk l (if vs s = true then mark x s.f0 (s.f1 - s.f0).toNat else x)
theorem tk_len : ∀ (l : List S82) (x : List Bool), (tk l x).length = x.length := by
  intro l
  induction l with
  | nil => intro x; rfl
  | cons s l ih =>
    intro x
    simp only [tk, ih]
    split
    · exact mark_len _ _ _
    · rfl
theorem tk_get (t : Int) (h0 : 0 ≤ t) : ∀ (l : List S82) (x : List Bool), t < (x.length : Int) → rdOf false (tk l x) t = (rdOf false x t || inl l t) := by
  intro l
  induction l with
  | nil =>
    intro x ht
    simp [tk, inl]
  | cons s l ih =>
    intro x ht
    have e : inl (s :: l) t = (ins s t || inl l t) := rfl
    simp only [tk]
    by_cases c : vs s = true
    · rw [if_pos c, ih _ (by rw [mark_len]; exact ht)]
      have hv : s.f0 ≥ 0 ∧ s.f1 ≤ 1000 ∧ s.f0 < s.f1 := by
        unfold vs at c
        exact of_decide_eq_true c
      rw [mark_get t h0 _ _ _ (by omega) ht, e, Bool.or_assoc]
      have e2 : (decide (s.f0 ≤ t) && decide (t < s.f0 + ((s.f1 - s.f0).toNat : Int))) = ins s t := by
        unfold ins
        rw [c, Bool.true_and, ← Bool.decide_and, ← Bool.decide_and]
        exact decide_eq_decide.2 (by omega)
      rw [e2]
    · rw [if_neg c, ih _ ht, e]
      have e2 : ins s t = false := by
        unfold ins
        rw [Bool.eq_false_iff.2 c]
        rfl
      rw [e2, Bool.false_or]
theorem iInner (l : List S82) (i f0 b : Int) (r : List Bool) : ∀ (d : Nat) (x : List Bool) (a : Int), 0 ≤ a → b - a = d → b ≤ (x.length : Int) → x.length ≤ 1000 → 0 ≤ i → i < (l.length : Int) → l.length ≤ 2097152 →
    Ev (fun k => impl_ticks.l0 k (mark x a d) l (l.length : Int) (i + 1)) r → Ev (fun k => impl_ticks.l1 k x a l (l.length : Int) i f0 b) r := by
  intro d
  induction d with
  | zero =>
    intro x a h0 hd hb hx hi0 hi1 hl h
    refine K.succ ?_
    simp only [impl_ticks.l1]
    rw [K.wr (x := i + 1) (by omega) (by omega)]
    exact K.neg (by omega) h
  | succ d ih =>
    intro x a h0 hd hb hx hi0 hi1 hl h
    refine K.succ ?_
    simp only [impl_ticks.l1]
    rw [K.wr (x := a + 1) (by omega) (by omega)]
    exact K.pos (by omega) (K.pos h0 (K.pos (by omega) (ih (x.set a.toNat true) (a + 1) (by omega) (by omega) (by simp; omega) (by simp; omega) hi0 hi1 hl h)))
theorem iTicks (l : List S82) (hl : l.length ≤ 2097152) : ∀ (d : Nat) (i : Int) (x : List Bool), 0 ≤ i → (l.length : Int) - i = d → x.length = 1000 → Ev (fun k => impl_ticks.l0 k x l (l.length : Int) i) (tk (l.drop i.toNat) x) := by
  intro d
  induction d with
  | zero =>
    intro i x h0 hd hx
    refine K.succ ?_
    simp only [impl_ticks.l0]
    rw [List.drop_eq_nil_of_le (by omega)]
    exact K.neg (by omega) (Ev.now _)
  | succ d ih =>
    intro i x h0 hd hx
    refine K.succ ?_
    simp only [impl_ticks.l0, iVs]
    rw [K.wr (x := i + 1) (by omega) (by omega), rdDrop l i h0 (by omega)]
    refine K.pos (by omega) (K.pos h0 (K.pos (by omega) (K.known rfl ?_)))
    simp only [tk]
    by_cases c : vs (rd_T82 l i) = true
    · rw [if_pos c]
      have hv : (rd_T82 l i).f0 ≥ 0 ∧ (rd_T82 l i).f1 ≤ 1000 ∧ (rd_T82 l i).f0 < (rd_T82 l i).f1 := by
        unfold vs at c
        exact of_decide_eq_true c
      refine K.pos c (iInner l i _ _ _ ((rd_T82 l i).f1 - (rd_T82 l i).f0).toNat x _ (by omega) (by omega) (by omega) (by omega) h0 (by omega) hl ?_)
      exact ih (i + 1) _ (by omega) (by omega) (by rw [mark_len]; exact hx)
    · rw [if_neg c]
      exact K.neg c (ih (i + 1) _ (by omega) (by omega) hx)
theorem ticksOf (l : List S82) (hl : l.length ≤ 2097152) : ∃ x : List Bool, Ev (fun k => impl_ticks.f k l) x ∧ x.length = 1000 ∧ ∀ t, 0 ≤ t → t < 1000 → rdOf false x t = inl l t := by
  refine ⟨tk l (List.replicate 1000 false), ?_, ?_, ?_⟩
  · unfold impl_ticks.f
    exact K.pos (by omega) (iTicks l hl l.length 0 _ (by omega) (by omega) (List.length_replicate ..))
  · rw [tk_len, List.length_replicate]
  · intro t h0 h1
    rw [tk_get t h0 _ _ (by rw [List.length_replicate]; omega)]
    have e : rdOf false (List.replicate 1000 false) t = false := by
      simp only [rdOf, List.getD_eq_getElem?_getD, List.getElem?_replicate]
      split <;> rfl
    rw [e, Bool.false_or]
theorem whereRun (q : Nat → Int → Option Bool) (p : Int → Bool) (hi : Int) (hq : ∀ t, 0 ≤ t → t < mn hi 1000 → Ev (fun k => q k t) (p t)) : ∀ (d : Nat) (o : List S82) (t : Int), 0 ≤ t → (mn hi 1000 - t).toNat = d → o.length + d ≤ 7000000000000 → Ev (fun k => sw.l0 q k hi o t) (run p o t d) := by
  intro d
  have hm : mn hi 1000 ≤ 1000 := by unfold mn; split <;> omega
  induction d with
  | zero =>
    intro o t h0 hd ho
    refine K.succ ?_
    simp only [sw.l0, run]
    exact K.neg (by omega) (Ev.now _)
  | succ d ih =>
    intro o t h0 hd ho
    refine K.succ ?_
    simp only [sw.l0, run]
    have w0 : wrap64 (t + 1) = t + 1 := K.wr (by omega) (by omega)
    have w1 : wrap64 ((o.length : Int) - 1) = (o.length : Int) - 1 := K.wr (by omega) (by omega)
    rw [w0, w1]
    refine K.pos (by omega) (Ev.bind (hq t h0 (by omega)) ?_)
    by_cases c : p t = true
    · refine K.pos c ?_
      rw [if_pos c]
      have hp := put_len o t
      have ih' := ih (put o t) (t + 1) (by omega) (by omega)
      unfold put at ih' ⊢
      by_cases c1 : (o.length : Int) > 0
      · rw [if_pos c1] at ih' ⊢
        refine K.pos (by omega) (K.pos (by omega) (K.pos (by omega) ?_))
        by_cases c2 : (rd_T82 o ((o.length : Int) - 1)).f1 = t
        · rw [if_pos c2] at ih' ⊢
          refine K.pos c2 ?_
          rw [c2, w0]
          exact ih' (by simp; omega)
        · rw [if_neg c2] at ih' ⊢
          refine K.neg c2 (K.pos (by omega) (ih' (by simp; omega)))
      · rw [if_neg c1] at ih' ⊢
        refine K.neg (by omega) (K.pos (by omega) (ih' (by simp; omega)))
    · refine K.neg c ?_
      rw [if_neg c]
      exact ih o (t + 1) (by omega) (by omega) (by omega)
theorem inl_app (a b : List S82) (t : Int) : inl (a ++ b) t = (inl a t || inl b t) := by
  unfold inl
  rw [List.any_append]
theorem put_snoc (o : List S82) (t : Int) : (∃ q r, o = q ++ [r] ∧ r.f1 = t ∧ put o t = q ++ [⟨r.f0, t + 1⟩]) ∨ put o t = o ++ [⟨t, t + 1⟩] := by
  rcases List.eq_nil_or_concat o with rfl | ⟨q, r, rfl⟩
  · exact .inr rfl
  · have hl : ((q ++ [r]).length : Int) - 1 = (q.length : Int) := by simp
    have hrd : rd_T82 (q ++ [r]) (q.length : Int) = r := by
      simp [rd_T82, List.getD_eq_getElem?_getD]
    simp only [List.concat_eq_append]
    unfold put
    rw [if_pos (by simp), hl, hrd]
    by_cases c : r.f1 = t
    · rw [if_pos c]
      refine .inl ⟨q, r, rfl, c, ?_⟩
      simp
    · rw [if_neg c]
      exact .inr rfl
theorem ins_one (s : S82) (t : Int) : inl [s] t = ins s t := by
  simp [inl]
theorem put_ok (o : List S82) (t u : Int) (h0 : 0 ≤ t) (h1 : t < 1000) (hv : ∀ s ∈ o, vs s = true) : (∀ s ∈ put o t, vs s = true) ∧ inl (put o t) u = (inl o u || decide (u = t)) := by
  rcases put_snoc o t with ⟨q, r, rfl, hr, e⟩ | e
  · have hvr := hv r (by simp)
    unfold vs at hvr
    have hvr := of_decide_eq_true hvr
    have hn : vs (⟨r.f0, t + 1⟩ : S82) = true := by
      unfold vs
      exact decide_eq_true ⟨hvr.1, by show t + 1 ≤ 1000; omega, by show r.f0 < t + 1; omega⟩
    refine ⟨?_, ?_⟩
    · rw [e]
      intro s hs
      rcases List.mem_append.1 hs with hs | hs
      · exact hv s (by simp [hs])
      · rw [List.mem_singleton] at hs
        subst hs
        exact hn
    · rw [e, inl_app, inl_app, ins_one, ins_one, Bool.or_assoc]
      congr 1
      unfold ins
      rw [hn, hv r (by simp), Bool.true_and, Bool.true_and, ← Bool.decide_and, ← Bool.decide_and, ← Bool.decide_or]
      exact decide_eq_decide.2 (by show r.f0 ≤ u ∧ u < t + 1 ↔ (r.f0 ≤ u ∧ u < r.f1) ∨ u = t; omega)
  · have hn : vs (⟨t, t + 1⟩ : S82) = true := by
      unfold vs
      exact decide_eq_true ⟨h0, by show t + 1 ≤ 1000; omega, by show t < t + 1; omega⟩
    refine ⟨?_, ?_⟩
    · rw [e]
      intro s hs
      rcases List.mem_append.1 hs with hs | hs
      · exact hv s hs
      · rw [List.mem_singleton] at hs
        subst hs
        exact hn
    · rw [e, inl_app, ins_one]
      congr 1
      unfold ins
      rw [hn, Bool.true_and, ← Bool.decide_and]
      exact decide_eq_decide.2 (by show t ≤ u ∧ u < t + 1 ↔ u = t; omega)
theorem run_ok (p : Int → Bool) (u : Int) : ∀ (d : Nat) (o : List S82) (t : Int), 0 ≤ t → t + d ≤ 1000 → (∀ s ∈ o, vs s = true) → (∀ s ∈ run p o t d, vs s = true) ∧ inl (run p o t d) u = (inl o u || (decide (t ≤ u ∧ u < t + d) && p u)) := by
  intro d
  induction d with
  | zero =>
    intro o t h0 h1 hv
    refine ⟨hv, ?_⟩
    rw [decide_eq_false (by omega)]
    simp [run]
  | succ d ih =>
    intro o t h0 h1 hv
    simp only [run]
    by_cases c : p t = true
    · rw [if_pos c]
      obtain ⟨v1, e1⟩ := put_ok o t u h0 (by omega) hv
      obtain ⟨v2, e2⟩ := ih (put o t) (t + 1) (by omega) (by omega) v1
      refine ⟨v2, ?_⟩
      rw [e2, e1, Bool.or_assoc]
      congr 1
      by_cases hu : u = t
      · subst hu
        rw [decide_eq_true rfl, decide_eq_true (show u ≤ u ∧ u < u + ((d + 1 : Nat) : Int) by omega), c]
        rfl
      · rw [decide_eq_false hu, Bool.false_or]
        congr 1
        exact decide_eq_decide.2 (by omega)
    · rw [if_neg c]
      obtain ⟨v2, e2⟩ := ih o (t + 1) (by omega) (by omega) hv
      refine ⟨v2, ?_⟩
      rw [e2]
      congr 1
      by_cases hu : u = t
      · subst hu
        rw [Bool.eq_false_iff.2 c, Bool.and_false, Bool.and_false]
      · congr 1
        exact decide_eq_decide.2 (by omega)
theorem iIns (s : S82) (t : Int) : impl_InSpan.f s.f0 s.f1 t = some (ins s t) := by
  unfold impl_InSpan.f ins
  rw [iVs, Option.bind_some]
  cases vs s with
  | true =>
    rw [if_pos rfl]
    by_cases c : s.f0 ≤ t
    · rw [if_pos c]
      simp [c]
    · rw [if_neg c]
      simp [c]
  | false => rfl
def win (p : Int → Bool) (a b : Int) : List S82 := run p [] (mx a 0) (mn b 1000 - mx a 0).toNat
theorem win_len (p : Int → Bool) (a b : Int) : (win p a b).length ≤ 1000 := by
  have hm : mn b 1000 ≤ 1000 := by unfold mn; split <;> omega
  have hx : 0 ≤ mx a 0 := by unfold mx; split <;> omega
  exact Nat.le_trans (run_len _ _ _ _) (by simp; omega)
theorem win_ok (p : Int → Bool) (a b u : Int) (h1 : a ≤ 1000) : (∀ s ∈ win p a b, vs s = true) ∧ inl (win p a b) u = (decide (0 ≤ u ∧ u < 1000 ∧ a ≤ u ∧ u < b) && p u) := by
  have hm : mn b 1000 = if b ≤ 1000 then b else 1000 := by unfold mn; split <;> split <;> omega
  have hx : mx a 0 = if 0 ≤ a then a else 0 := by unfold mx; split <;> split <;> omega
  have h := run_ok p u (mn b 1000 - mx a 0).toNat [] (mx a 0) (by rw [hx]; split <;> omega) (by rw [hx, hm]; (repeat' split) <;> omega) (by simp)
  refine ⟨h.1, ?_⟩
  unfold win
  rw [h.2, show inl ([] : List S82) u = false from rfl, Bool.false_or]
  congr 1
  refine decide_eq_decide.2 ?_
  rw [hx, hm]
  (repeat' split) <;> omega
theorem iIsSite (pl : Int) (sa : List S72) (si : List S74) (rc cr vw su sh : Int) (zo : List S88) (ac : Int) (hn : (sa.length : Int) + si.length ≤ 4194304) (i : Int) : impl_IsSite.f pl sa si rc cr vw su sh zo ac i = some (decide ((sa.length : Int) ≤ i ∧ i < (sa.length : Int) + si.length)) := by
  unfold impl_IsSite.f impl_NodesOf.f
  simp only [Option.bind_some, InRange]
  rw [K.wr (x := (sa.length : Int) + si.length) (by omega) (by omega), K.wr (by omega) (by omega)]
  congr 1
  exact decide_eq_decide.2 (by omega)
theorem iIsSat (pl : Int) (sa : List S72) (si : List S74) (rc cr vw su sh : Int) (zo : List S88) (ac : Int) (hn : (sa.length : Int) + si.length ≤ 4194304) (i : Int) : impl_isSatellite.f pl sa si rc cr vw su sh zo ac i = some (decide (0 ≤ i ∧ i < (sa.length : Int))) := by
  unfold impl_isSatellite.f
  simp only [Option.bind_some, InRange]
  rw [K.wr (by omega) (by omega)]
  congr 1
  exact decide_eq_decide.2 (by omega)
theorem sAngle (n : Int) : spec_AngleOf.f n = some (n % 360) := by
  unfold spec_AngleOf.f spec_Mod.f
  have e : decide ((1 : Int) ≤ 360 ∧ (360 : Int) ≤ 1000000000000) = true := by decide
  simp only [l1In, e, Option.bind_some, ↓reduceIte]
  rw [if_neg (by omega)]
  have h := Int.tmod_eq_emod (a := n) (b := 360)
  have hb : -360 < Int.tmod n 360 ∧ Int.tmod n 360 < 360 := by
    rw [h]
    split <;> omega
  rw [K.wr (by omega) (by omega), Int.tmod_eq_emod_of_nonneg (by omega)]
  simp only [Option.bind_some]
  congr 1
  rw [h]
  split <;> omega
theorem iAngle (n : Int) : impl_AngleOf.f n = some (n % 360) := by
  unfold impl_AngleOf.f impl_Mod.f
  have e : decide ((1 : Int) ≤ 360 ∧ (360 : Int) ≤ 1000000000000) = true := by decide
  simp only [InRange, e, Option.bind_some, ↓reduceIte]
  rw [if_neg (by omega)]
  have h := Int.tmod_eq_emod (a := n) (b := 360)
  have hb : -360 < Int.tmod n 360 ∧ Int.tmod n 360 < 360 := by
    rw [h]
    split <;> omega
  have hd : (360 : Int) ∣ n → Int.tmod n 360 = n % 360 := by
    intro hd
    rw [h, if_pos (Or.inr hd)]
    simp
  by_cases c : Int.tmod n 360 < 0
  · rw [if_pos c, K.wr (by omega) (by omega)]
    simp only [Option.bind_some]
    congr 1
    rw [h] at c ⊢
    split at c <;> split <;> omega
  · rw [if_neg c]
    simp only [Option.bind_some]
    congr 1
    rw [h] at c ⊢
    split at c <;> split <;> omega
def placeV (ph sp t : Int) : Int := (ph % 360 + (if -60 ≤ sp ∧ sp ≤ 60 then sp else 0) * (if 0 ≤ t ∧ t ≤ 1000 then t else 0)) % 360
theorem place_bd (s t : Int) (hs : -60 ≤ s ∧ s ≤ 60) (ht : 0 ≤ t ∧ t ≤ 1000) : -60000 ≤ s * t ∧ s * t ≤ 60000 := by
  have h1 : s * t ≤ 60 * t := Int.mul_le_mul_of_nonneg_right hs.2 ht.1
  have h2 : -60 * t ≤ s * t := Int.mul_le_mul_of_nonneg_right hs.1 ht.1
  omega
theorem iPlace (a ph sp e t : Int) : impl_PlaceAt.f a ph sp e t = some (placeV ph sp t) := by
  unfold impl_PlaceAt.f placeV impl_speedOf.f
  simp only [InRange, iAngle, Option.bind_some, decide_eq_true_eq]
  by_cases ct : 0 ≤ t ∧ t ≤ 1000
  · rw [if_pos ct]
    by_cases cs : -60 ≤ sp ∧ sp ≤ 60
    · have := place_bd sp t cs ct
      rw [if_pos cs]
      simp only [Option.bind_some, if_pos ct, if_pos cs]
      rw [K.wr (x := sp * t) (by omega) (by omega), K.wr (by omega) (by omega)]
    · rw [if_neg cs]
      simp only [Option.bind_some, if_pos ct, if_neg cs]
      rw [K.wr (x := 0 * t) (by omega) (by omega), K.wr (by omega) (by omega)]
  · rw [if_neg ct]
    by_cases cs : -60 ≤ sp ∧ sp ≤ 60
    · rw [if_pos cs]
      simp only [Option.bind_some, if_neg ct]
      rw [K.wr (by omega) (by omega), Int.mul_zero, Int.add_zero]
    · rw [if_neg cs]
      simp only [Option.bind_some, if_neg ct]
      rw [K.wr (by omega) (by omega), Int.mul_zero, Int.add_zero]
theorem place_range (ph sp t : Int) : 0 ≤ placeV ph sp t ∧ placeV ph sp t < 360 := by unfold placeV; omega
/-- The arc about a place, as wide as an error says: its start and its width. -/
def widS (p e : Int) : Int := if 0 ≤ e ∧ e ≤ 360 then (p % 360 - e) % 360 else p % 360
def widW (e : Int) : Int := if 0 ≤ e ∧ e ≤ 360 then mn (2 * e) 359 else 0
theorem iWiden (p e : Int) : impl_WidenArc.f p 0 e = some (widS p e, widW e) := by
  unfold impl_WidenArc.f widS widW
  have e0 : decide ((0 : Int) ≤ 0 ∧ (0 : Int) ≤ 359) = true := by decide
  simp only [InRange, iWidth, iAngle, e0, Option.bind_some, decide_eq_true_eq, ↓reduceIte]
  by_cases c : 0 ≤ e ∧ e ≤ 360
  · rw [if_pos c, if_pos c, if_pos c, K.wr (x := p % 360 - e) (by omega) (by omega), K.wr (x := 2 * e) (by omega) (by omega), Int.zero_add, K.wr (x := 2 * e) (by omega) (by omega)]
  · rw [if_neg c, if_neg c, if_neg c]
theorem wid_range (p e : Int) : 0 ≤ widS p e ∧ widS p e < 360 ∧ 0 ≤ widW e ∧ widW e ≤ 359 := by
  unfold widS widW mn
  split <;> (try split) <;> omega
def nodeS (sa : List S72) (si : List S74) (i t : Int) : Int :=
  if 0 ≤ i ∧ i < (sa.length : Int) then widS (placeV (rd_T72 sa i).f1 (rd_T72 sa i).f2 t) (rd_T72 sa i).f3 else if (sa.length : Int) ≤ i ∧ i < (sa.length : Int) + si.length then placeV (rd_T74 si (i - sa.length)).f1 (rd_T74 si (i - sa.length)).f2 t else 0
def nodeW (sa : List S72) (i : Int) : Int :=
  if 0 ≤ i ∧ i < (sa.length : Int) then widW (rd_T72 sa i).f3 else 0
theorem iNode (pl : Int) (sa : List S72) (si : List S74) (rc cr vw su sh : Int) (zo : List S88) (ac : Int) (hn : (sa.length : Int) + si.length ≤ 4194304) (i t : Int) : impl_NodeAt.f pl sa si rc cr vw su sh zo ac i t = some (nodeS sa si i t, nodeW sa i) := by
  unfold impl_NodeAt.f nodeS nodeW impl_PlacesAt.f
  simp only [iIsSat _ _ _ _ _ _ _ _ _ _ hn, iIsSite _ _ _ _ _ _ _ _ _ _ hn, iPlace, iWiden, Option.bind_some, decide_eq_true_eq]
  by_cases c : 0 ≤ i ∧ i < (sa.length : Int)
  · rw [if_pos c, if_pos c, if_pos c.1, if_pos c.2, if_pos c]
  · rw [if_neg c, if_neg c, if_neg c]
    by_cases c2 : (sa.length : Int) ≤ i ∧ i < (sa.length : Int) + si.length
    · rw [if_pos c2, if_pos c2, K.wr (x := i - sa.length) (by omega) (by omega), if_pos (by omega), if_pos (by omega)]
    · rw [if_neg c2, if_neg c2]
theorem node_range (sa : List S72) (si : List S74) (i t : Int) : 0 ≤ nodeS sa si i t ∧ nodeS sa si i t < 360 ∧ 0 ≤ nodeW sa i ∧ nodeW sa i ≤ 359 := by
  have h1 := wid_range (placeV (rd_T72 sa i).f1 (rd_T72 sa i).f2 t) (rd_T72 sa i).f3
  have h2 := place_range (rd_T74 si (i - sa.length)).f1 (rd_T74 si (i - sa.length)).f2 t
  unfold nodeS nodeW
  split
  · exact h1
  · split <;> omega
def inArc (s w a : Int) : Prop := (a % 360 - s % 360) % 360 ≤ w
instance (s w a : Int) : Decidable (inArc s w a) := by
  unfold inArc
  infer_instance
theorem iInArc (s w a : Int) : impl_InArc.f s w a = some (decide (inArc s w a)) := by
  unfold impl_InArc.f inArc
  simp only [iAngle, Option.bind_some]
  rw [K.wr (x := a % 360 - s % 360) (by omega) (by omega)]
def meetV (s w s2 w2 : Int) : Prop := w ≥ 0 ∧ w2 ≥ 0 ∧ (inArc s w s2 ∨ inArc s2 w2 s)
instance (s w s2 w2 : Int) : Decidable (meetV s w s2 w2) := by
  unfold meetV
  infer_instance
theorem meet_iff (s w s2 w2 : Int) : (∃ j : Int, 0 ≤ j ∧ j < ((360 : Nat) : Int) ∧ (inArc s w j ∧ inArc s2 w2 j)) ↔ meetV s w s2 w2 := by
  unfold meetV inArc
  constructor
  · rintro ⟨j, h0, h1, h2, h3⟩
    refine ⟨by omega, by omega, ?_⟩
    by_cases c : (j % 360 - s % 360) % 360 ≥ (j % 360 - s2 % 360) % 360
    · exact Or.inl (by omega)
    · exact Or.inr (by omega)
  · rintro ⟨h0, h1, h | h⟩
    · exact ⟨s2 % 360, by omega, by omega, by omega, by omega⟩
    · exact ⟨s % 360, by omega, by omega, by omega, by omega⟩
theorem iMeet (s w s2 w2 : Int) : Ev (fun k => impl_ArcsMeet.f k s w s2 w2) (decide (meetV s w s2 w2)) := by
  unfold impl_ArcsMeet.f
  have key := K.anys (n := 360) (fun k i => impl_ArcsMeet.l0 k i s w s2 w2) (fun _ => some false) (fun j => inArc s w j ∧ inArc s2 w2 j) (by
    intro k i hi
    simp only [impl_ArcsMeet.l0]
    rw [if_neg (show ¬ i < 360 by omega)]) (by
    intro k i i0 hi ho
    simp only [impl_ArcsMeet.l0, iInArc, Option.bind_some, decide_eq_true_eq]
    rw [if_pos (show i < 360 by omega), if_pos ho.1, if_pos ho.2]) (by
    intro k i i0 hi ho
    simp only [impl_ArcsMeet.l0, iInArc, Option.bind_some, decide_eq_true_eq]
    rw [if_pos (show i < 360 by omega), K.wr (x := i + 1) (by omega) (by omega)]
    by_cases c : inArc s w i
    · rw [if_pos c, if_neg (fun h => ho ⟨c, h⟩)]
    · rw [if_neg c]) 360 0 (by omega) (by omega)
  by_cases c : meetV s w s2 w2
  · rw [decide_eq_true c]
    exact key.1 ((meet_iff s w s2 w2).2 c)
  · rw [decide_eq_false c]
    exact key.2 (fun h => c ((meet_iff s w s2 w2).1 h)) false (Ev.now _)
theorem iQuietW (pl : Int) (sa : List S72) (si : List S74) (rc cr vw su sh : Int) (zo : List S88) (ac : Int) (p : Int → Int → Bool) (hp : ∀ i t, Ev (fun k => impl_MayDisturb.f k pl sa si rc cr vw su sh zo ac i t) (p i t)) (i a b : Int) : Ev (fun k => impl_QuietSpans.f k pl sa si rc cr vw su sh zo ac i a b) (win (p i) a b) := by
  have hm : mn b 1000 ≤ 1000 := by unfold mn; split <;> omega
  have hx : 0 ≤ mx a 0 := by unfold mx; split <;> omega
  unfold impl_QuietSpans.f where_impl_QuietSpans_1.f sw.f
  refine Ev.bind (whereRun (fun k t' => impl_QuietSpans_1.f k t' pl sa si rc cr vw su sh zo ac i) (p i) b (fun t _ _ => ?_) _ [] (mx a 0) hx rfl (by simp; omega)) (Ev.now _)
  unfold impl_QuietSpans_1.f
  exact Ev.bind (hp i t) (Ev.now _)
theorem iSureWn (pl : Int) (sa : List S72) (si : List S74) (rc cr vw su sh : Int) (zo : List S88) (ac : Int) (q : Int → Bool) (i j : Int) (hq : ∀ t, Ev (fun k => impl_IsSure.f k pl sa si rc cr vw su sh zo ac i j t) (q t)) (a b : Int) : Ev (fun k => impl_SureWindows.f k pl sa si rc cr vw su sh zo ac i j a b) (win q a b) := by
  have hm : mn b 1000 ≤ 1000 := by unfold mn; split <;> omega
  have hx : 0 ≤ mx a 0 := by unfold mx; split <;> omega
  unfold impl_SureWindows.f where_impl_SureWindows_1.f sw.f
  refine Ev.bind (whereRun (fun k t' => impl_SureWindows_1.f k t' pl sa si rc cr vw su sh zo ac i j) q b (fun t _ _ => ?_) _ [] (mx a 0) hx rfl (by simp; omega)) (Ev.now _)
  unfold impl_SureWindows_1.f
  exact Ev.bind (hq t) (Ev.now _)
theorem inl_all (p : Int → Bool) (u : Int) (h0 : 0 ≤ u) (h1 : u < 1000) : inl (run p [] 0 1000) u = p u := by
  rw [(run_ok p u 1000 [] 0 (by omega) (by omega) (by simp)).2, decide_eq_true (by omega)]
  simp [inl]
def cutP (a b : List S82) (t : Int) : Bool := inl a t && !inl b t
theorem concat2 (a b : List S82) (ha : a.length ≤ 2097152) (hb : b.length ≤ 2097152) : Ev (fun k => impl_Span_70.f k [a, b]) (a ++ b) := by
  unfold impl_Span_70.f
  have r0 : rd_L8 [a, b] 0 = a := rfl
  have r1 : rd_L8 [a, b] 1 = b := rfl
  have hl : (([a, b] : List (List S82)).length : Int) = 2 := rfl
  have w0 : wrap64 (0 + (a.length : Int)) = (a.length : Int) := by
    rw [K.wr (by omega) (by omega)]
    omega
  have w1 : wrap64 ((a.length : Int) + (b.length : Int)) = (a.length : Int) + (b.length : Int) := K.wr (by omega) (by omega)
  have w2 : wrap64 (0 + 1) = 1 := K.wr (x := 0 + 1) (by omega) (by omega)
  have w3 : wrap64 (1 + 1) = 2 := K.wr (x := 1 + 1) (by omega) (by omega)
  have hg : grow103.f ((a.length : Int) + (b.length : Int)) = some [] := by
    unfold grow103.f
    rw [if_pos (by omega)]
  rw [hl]
  refine K.succ ?_
  simp only [impl_Span_70.l0, r0, w0, w2]
  refine K.pos (by decide) (K.pos (by decide) (K.pos (by rw [hl]; decide) (K.neg (by omega) (K.succ ?_))))
  simp only [impl_Span_70.l0, r1, w1, w3]
  refine K.pos (by decide) (K.pos (by decide) (K.pos (by rw [hl]; decide) (K.neg (by omega) (K.succ ?_))))
  simp only [impl_Span_70.l0]
  refine K.neg (by decide) (K.known hg ?_)
  rw [hl]
  refine K.succ ?_
  simp only [impl_Span_70.l1, r0, w2, List.nil_append]
  refine K.pos (by decide) (K.pos (by decide) (K.pos (by rw [hl]; decide) (K.pos (by simp; omega) (K.succ ?_))))
  simp only [impl_Span_70.l1, r1, w3]
  refine K.pos (by decide) (K.pos (by decide) (K.pos (by rw [hl]; decide) (K.pos (by omega) (K.succ ?_))))
  simp only [impl_Span_70.l1]
  exact K.neg (by decide) (Ev.now _)
def planeV (sa : List S72) (si : List S74) (i : Int) : Int :=
  if 0 ≤ i ∧ i < (sa.length : Int) then (rd_T72 sa i).f0 else if (sa.length : Int) ≤ i ∧ i < (sa.length : Int) + si.length then (rd_T74 si (i - sa.length)).f0 else -1
theorem iPlane (pl : Int) (sa : List S72) (si : List S74) (rc cr vw su sh : Int) (zo : List S88) (ac : Int) (hn : (sa.length : Int) + si.length ≤ 4194304) (i : Int) : impl_PlaneOf.f pl sa si rc cr vw su sh zo ac i = some (planeV sa si i) := by
  unfold impl_PlaneOf.f planeV
  simp only [iIsSat _ _ _ _ _ _ _ _ _ _ hn, iIsSite _ _ _ _ _ _ _ _ _ _ hn, Option.bind_some, decide_eq_true_eq]
  by_cases c : 0 ≤ i ∧ i < (sa.length : Int)
  · rw [if_pos c, if_pos c, if_pos c.1, if_pos c.2]
  · rw [if_neg c, if_neg c]
    by_cases c2 : (sa.length : Int) ≤ i ∧ i < (sa.length : Int) + si.length
    · rw [if_pos c2, if_pos c2, K.wr (x := i - sa.length) (by omega) (by omega), if_pos (by omega), if_pos (by omega)]
    · rw [if_neg c2, if_neg c2]
def nearV (pl p q : Int) : Bool := decide (0 ≤ mn p q ∧ mn p q < mx p q ∧ (mx p q - mn p q = 1 ∨ mn p q = 0 ∧ mx p q ≤ 4 ∧ mx p q + 1 = pl))
/-- The program's neighbors, the less plane first. -/
theorem near_side (pl lo hi : Int) (hle : lo ≤ hi) (hl0 : -9223372036854775808 ≤ lo) (hh1 : hi ≤ 9223372036854775807) (hpl0 : -9223372036854775808 ≤ pl) (hpl1 : pl ≤ 9223372036854775807) :
    (if lo ≥ 0 then (if (wrap64 (hi - lo)) = 1 then (some true) else (if lo = 0 then (if hi = (wrap64 (pl - 1)) then ((impl_InRange.f hi 1 4).bind fun t => (some t)) else (some false)) else (some false))) else (if lo = 0 then (if hi = (wrap64 (pl - 1)) then ((impl_InRange.f hi 1 4).bind fun t => (some t)) else (some false)) else (some false)))
      = some (decide (0 ≤ lo ∧ lo < hi ∧ (hi - lo = 1 ∨ lo = 0 ∧ hi ≤ 4 ∧ hi + 1 = pl))) := by
  simp only [InRange, Option.bind_some]
  by_cases c1 : lo ≥ 0
  · rw [if_pos c1, K.wr (x := hi - lo) (by omega) (by omega)]
    by_cases c3 : hi - lo = 1
    · rw [if_pos c3]
      congr 1
      exact (decide_eq_true (by omega)).symm
    · rw [if_neg c3]
      by_cases c4 : lo = 0
      · rw [if_pos c4]
        by_cases cm : pl = -9223372036854775808
        · have : wrap64 (pl - 1) = 9223372036854775807 := by
            rw [cm]
            unfold wrap64
            omega
          rw [this]
          by_cases c5 : hi = 9223372036854775807
          · rw [if_pos c5]
            congr 1
            exact (decide_eq_false (by omega)).trans (decide_eq_false (by omega)).symm
          · rw [if_neg c5]
            congr 1
            exact (decide_eq_false (by omega)).symm
        · rw [K.wr (x := pl - 1) (by omega) (by omega)]
          by_cases c5 : hi = pl - 1
          · rw [if_pos c5]
            congr 1
            exact decide_eq_decide.2 (by omega)
          · rw [if_neg c5]
            congr 1
            exact (decide_eq_false (by omega)).symm
      · rw [if_neg c4]
        congr 1
        exact (decide_eq_false (by omega)).symm
  · rw [if_neg c1, if_neg (by omega)]
    congr 1
    exact (decide_eq_false (by omega)).symm
theorem iNear (pl : Int) (sa : List S72) (si : List S74) (rc cr vw su sh : Int) (zo : List S88) (ac : Int) (hpl0 : -9223372036854775808 ≤ pl) (hpl1 : pl ≤ 9223372036854775807) (p q : Int) (hp0 : -9223372036854775808 ≤ p) (hp1 : p ≤ 9223372036854775807) (hq0 : -9223372036854775808 ≤ q) (hq1 : q ≤ 9223372036854775807) : impl_areNeighbors.f pl sa si rc cr vw su sh zo ac p q = some (nearV pl p q) := by
  unfold impl_areNeighbors.f nearV mn mx
  by_cases c : p > q
  · rw [if_pos c, near_side pl q p (by omega) hq0 hp1 hpl0 hpl1, if_pos (by omega), if_neg (by omega)]
  · rw [if_neg c, near_side pl p q (by omega) hp0 hq1 hpl0 hpl1, if_neg (by omega)]
    by_cases c2 : p < q
    · rw [if_pos c2]
    · have : p = q := by omega
      subst this
      rw [if_neg c2]
theorem plane_wf (sa : List S72) (si : List S74) (h1 : ∀ x ∈ sa, -9223372036854775808 ≤ x.f0 ∧ x.f0 ≤ 9223372036854775807) (h2 : ∀ x ∈ si, -9223372036854775808 ≤ x.f0 ∧ x.f0 ≤ 9223372036854775807) (i : Int) :
    -9223372036854775808 ≤ planeV sa si i ∧ planeV sa si i ≤ 9223372036854775807 := by
  unfold planeV
  split
  · rename_i h
    have hg : sa[i.toNat]? = some (sa[i.toNat]'(by omega)) := List.getElem?_eq_getElem (by omega)
    have : rd_T72 sa i = sa[i.toNat]'(by omega) := by simp only [rd_T72, List.getD_eq_getElem?_getD, hg, Option.getD_some]
    rw [this]
    exact h1 _ (List.getElem_mem _)
  · split
    · rename_i h
      have hg : si[(i - sa.length).toNat]? = some (si[(i - sa.length).toNat]'(by omega)) := List.getElem?_eq_getElem (by omega)
      have : rd_T74 si (i - sa.length) = si[(i - sa.length).toNat]'(by omega) := by simp only [rd_T74, List.getD_eq_getElem?_getD, hg, Option.getD_some]
      rw [this]
      exact h2 _ (List.getElem_mem _)
    · omega
/-- What both come to. -/
def limV (pl : Int) (sa : List S72) (si : List S74) (rc cr vw a b : Int) : Int :=
  if a = b ∨ ¬ (0 ≤ a ∧ a < (sa.length : Int) + si.length) ∨ ¬ (0 ≤ b ∧ b < (sa.length : Int) + si.length) ∨ ((sa.length : Int) ≤ a ∧ (sa.length : Int) ≤ b) then -1
  else if (sa.length : Int) ≤ a ∨ (sa.length : Int) ≤ b then (if planeV sa si a = planeV sa si b ∨ nearV pl (planeV sa si a) (planeV sa si b) = true then vw else -1)
  else if planeV sa si a = planeV sa si b then rc else if nearV pl (planeV sa si a) (planeV sa si b) = true then cr else -1
theorem iLimit (pl : Int) (sa : List S72) (si : List S74) (rc cr vw su sh : Int) (zo : List S88) (ac : Int) (hn : (sa.length : Int) + si.length ≤ 4194304) (hpl0 : -9223372036854775808 ≤ pl) (hpl1 : pl ≤ 9223372036854775807) (h1 : ∀ x ∈ sa, -9223372036854775808 ≤ x.f0 ∧ x.f0 ≤ 9223372036854775807) (h2 : ∀ x ∈ si, -9223372036854775808 ≤ x.f0 ∧ x.f0 ≤ 9223372036854775807) (a b : Int) :
    Ev (fun k => impl_LimitOf.f k pl sa si rc cr vw su sh zo ac a b) (limV pl sa si rc cr vw a b) := by
  have hp := plane_wf sa si h1 h2 a
  have hq := plane_wf sa si h1 h2 b
  have hend : ∀ x y v, v = -1 → Ev (fun k => impl_LimitOf.j0 k (planeV sa si a) (planeV sa si b) x y true pl sa si rc cr vw su sh zo ac) v := by
    intro x y v hv
    subst hv
    refine K.succ ?_
    simp only [impl_LimitOf.j0]
    exact K.pos (by trivial) (Ev.now _)
  unfold impl_LimitOf.f
  simp only [Option.bind_some, iPlane _ _ _ _ _ _ _ _ _ _ hn, iIsSat _ _ _ _ _ _ _ _ _ _ hn, iIsSite _ _ _ _ _ _ _ _ _ _ hn, decide_eq_true_eq]
  by_cases ce : a = b
  · exact K.pos ce (hend _ _ _ (by unfold limV; rw [if_pos (Or.inl ce)]))
  · refine K.neg ce ?_
    -- the way on when neither is wrong
    have hgo : ∀ x y : Bool, (x = true ↔ a < (sa.length : Int)) → (y = true ↔ b < (sa.length : Int)) → 0 ≤ a → a < (sa.length : Int) + si.length → 0 ≤ b → b < (sa.length : Int) + si.length →
        Ev (fun k => impl_LimitOf.j0 k (planeV sa si a) (planeV sa si b) x y false pl sa si rc cr vw su sh zo ac) (limV pl sa si rc cr vw a b) := by
      intro x y hx hy a0 a1 b0 b1
      refine K.succ ?_
      simp only [impl_LimitOf.j0]
      refine K.neg Bool.false_ne_true ?_
      have tail : ∀ z : Bool, (z = true ↔ x = true ∧ y = true ∧ planeV sa si a = planeV sa si b) → Ev (fun k => impl_LimitOf.j1 k (planeV sa si a) (planeV sa si b) x y z pl sa si rc cr vw su sh zo ac) (limV pl sa si rc cr vw a b) := by
        intro z hz
        have last : ∀ u : Bool, (u = true ↔ x = true ∧ y = true ∧ nearV pl (planeV sa si a) (planeV sa si b) = true) → z = false → Ev (fun k => impl_LimitOf.j2 k (planeV sa si a) (planeV sa si b) x y u pl sa si rc cr vw su sh zo ac) (limV pl sa si rc cr vw a b) := by
          intro u hu hzf
          refine K.succ ?_
          simp only [impl_LimitOf.j2, iNear _ _ _ _ _ _ _ _ _ _ hpl0 hpl1 _ _ hp.1 hp.2 hq.1 hq.2, Option.bind_some]
          cases u with
          | true =>
            have hu' := hu.1 rfl
            have ha := hx.1 hu'.1
            have hb := hy.1 hu'.2.1
            refine K.pos (by trivial) ?_
            unfold limV
            rw [if_neg (by omega), if_neg (by omega), if_neg (fun e => by
              have := hz.2 ⟨hu'.1, hu'.2.1, e⟩
              rw [hzf] at this
              cases this), if_pos hu'.2.2]
            exact Ev.now _
          | false =>
            refine K.neg Bool.false_ne_true ?_
            cases x with
            | true =>
              have ha := hx.1 rfl
              cases y with
              | true =>
                have hb := hy.1 rfl
                refine K.neg (by decide) ?_
                unfold limV
                rw [if_neg (by omega), if_neg (by omega), if_neg (fun e => by
                  have := hz.2 ⟨rfl, rfl, e⟩
                  rw [hzf] at this
                  cases this), if_neg (fun e => Bool.false_ne_true (hu.2 ⟨rfl, rfl, e⟩))]
                exact Ev.now _
              | false =>
                have hb : ¬ b < (sa.length : Int) := fun h => Bool.false_ne_true (hy.2 h)
                refine K.pos (by decide) ?_
                have e : limV pl sa si rc cr vw a b = if planeV sa si a = planeV sa si b ∨ nearV pl (planeV sa si a) (planeV sa si b) = true then vw else -1 := by
                  unfold limV
                  rw [if_neg (by omega), if_pos (by omega)]
                by_cases c1 : planeV sa si a = planeV sa si b
                · rw [e.trans (if_pos (Or.inl c1))]
                  exact K.pos c1 (Ev.now _)
                · refine K.neg c1 ?_
                  by_cases c2 : nearV pl (planeV sa si a) (planeV sa si b) = true
                  · rw [e.trans (if_pos (Or.inr c2))]
                    exact K.pos c2 (Ev.now _)
                  · rw [e.trans (if_neg (fun h => h.elim c1 c2))]
                    exact K.neg c2 (Ev.now _)
            | false =>
              have ha : ¬ a < (sa.length : Int) := fun h => Bool.false_ne_true (hx.2 h)
              cases y with
              | true =>
                have hb := hy.1 rfl
                refine K.pos (by decide) ?_
                have e : limV pl sa si rc cr vw a b = if planeV sa si a = planeV sa si b ∨ nearV pl (planeV sa si a) (planeV sa si b) = true then vw else -1 := by
                  unfold limV
                  rw [if_neg (by omega), if_pos (by omega)]
                by_cases c1 : planeV sa si a = planeV sa si b
                · rw [e.trans (if_pos (Or.inl c1))]
                  exact K.pos c1 (Ev.now _)
                · refine K.neg c1 ?_
                  by_cases c2 : nearV pl (planeV sa si a) (planeV sa si b) = true
                  · rw [e.trans (if_pos (Or.inr c2))]
                    exact K.pos c2 (Ev.now _)
                  · rw [e.trans (if_neg (fun h => h.elim c1 c2))]
                    exact K.neg c2 (Ev.now _)
              | false =>
                have hb : ¬ b < (sa.length : Int) := fun h => Bool.false_ne_true (hy.2 h)
                refine K.neg (by decide) ?_
                unfold limV
                rw [if_pos (by omega)]
                exact Ev.now _
        refine K.succ ?_
        simp only [impl_LimitOf.j1, iNear _ _ _ _ _ _ _ _ _ _ hpl0 hpl1 _ _ hp.1 hp.2 hq.1 hq.2, Option.bind_some]
        cases z with
        | true =>
          have hz' := hz.1 rfl
          have ha := hx.1 hz'.1
          have hb := hy.1 hz'.2.1
          refine K.pos (by trivial) ?_
          unfold limV
          rw [if_neg (by omega), if_neg (by omega), if_pos hz'.2.2]
          exact Ev.now _
        | false =>
          refine K.neg Bool.false_ne_true ?_
          cases x with
          | true =>
            cases y with
            | true => exact K.pos (by trivial) (K.pos (by trivial) (last _ ⟨fun h => ⟨rfl, rfl, h⟩, fun h => h.2.2⟩ rfl))
            | false => exact K.pos (by trivial) (K.neg Bool.false_ne_true (last false ⟨fun h => absurd h Bool.false_ne_true, fun h => absurd h.2.1 Bool.false_ne_true⟩ rfl))
          | false => exact K.neg Bool.false_ne_true (last false ⟨fun h => absurd h Bool.false_ne_true, fun h => absurd h.1 Bool.false_ne_true⟩ rfl)
      cases x with
      | true =>
        cases y with
        | true => exact K.pos (by trivial) (K.pos (by trivial) (tail _ ⟨fun h => ⟨rfl, rfl, beq_iff_eq.1 h⟩, fun h => beq_iff_eq.2 h.2.2⟩))
        | false => exact K.pos (by trivial) (K.neg Bool.false_ne_true (tail false ⟨fun h => absurd h Bool.false_ne_true, fun h => absurd h.2.1 Bool.false_ne_true⟩))
      | false => exact K.neg Bool.false_ne_true (tail false ⟨fun h => absurd h Bool.false_ne_true, fun h => absurd h.1 Bool.false_ne_true⟩)
    by_cases ca : 0 ≤ a ∧ a < (sa.length : Int)
    · refine K.pos ca ?_
      by_cases cb : 0 ≤ b ∧ b < (sa.length : Int)
      · exact K.pos cb (hgo _ _ ⟨fun h => (of_decide_eq_true h).2, fun h => decide_eq_true ⟨ca.1, h⟩⟩ ⟨fun h => (of_decide_eq_true h).2, fun h => decide_eq_true ⟨cb.1, h⟩⟩ (by omega) (by omega) (by omega) (by omega))
      · refine K.neg cb ?_
        by_cases cs : (sa.length : Int) ≤ b ∧ b < (sa.length : Int) + si.length
        · rw [show (!decide ((sa.length : Int) ≤ b ∧ b < (sa.length : Int) + si.length)) = false from by rw [decide_eq_true cs]; rfl]
          exact hgo _ _ ⟨fun h => (of_decide_eq_true h).2, fun h => decide_eq_true ⟨ca.1, h⟩⟩ ⟨fun h => (of_decide_eq_true h).2, fun h => by omega⟩ (by omega) (by omega) (by omega) (by omega)
        · rw [show (!decide ((sa.length : Int) ≤ b ∧ b < (sa.length : Int) + si.length)) = true from by rw [decide_eq_false cs]; rfl]
          exact hend _ _ _ (by unfold limV; rw [if_pos (Or.inr (Or.inr (Or.inl (by omega))))])
    · refine K.neg ca ?_
      by_cases cs : (sa.length : Int) ≤ a ∧ a < (sa.length : Int) + si.length
      · refine K.pos cs ?_
        by_cases cb : 0 ≤ b ∧ b < (sa.length : Int)
        · exact K.pos cb (hgo _ _ ⟨fun h => (of_decide_eq_true h).2, fun h => by omega⟩ ⟨fun h => (of_decide_eq_true h).2, fun h => decide_eq_true ⟨cb.1, h⟩⟩ (by omega) (by omega) (by omega) (by omega))
        · refine K.neg cb ?_
          by_cases cs2 : (sa.length : Int) ≤ b ∧ b < (sa.length : Int) + si.length
          · rw [show (!decide ((sa.length : Int) ≤ b ∧ b < (sa.length : Int) + si.length)) = false from by rw [decide_eq_true cs2]; rfl]
            exact hgo _ _ ⟨fun h => (of_decide_eq_true h).2, fun h => by omega⟩ ⟨fun h => (of_decide_eq_true h).2, fun h => by omega⟩ (by omega) (by omega) (by omega) (by omega)
          · rw [show (!decide ((sa.length : Int) ≤ b ∧ b < (sa.length : Int) + si.length)) = true from by rw [decide_eq_false cs2]; rfl]
            exact hend _ _ _ (by unfold limV; rw [if_pos (Or.inr (Or.inr (Or.inl (by omega))))])
      · exact K.neg cs (hend _ _ _ (by unfold limV; rw [if_pos (Or.inr (Or.inl (by omega)))]))
def midV (s w : Int) : Int := if 0 ≤ w ∧ w ≤ 359 then (s % 360 + w / 2) % 360 else s % 360
theorem iMiddle (s w : Int) : impl_MiddleOf.f s w = some (midV s w) := by
  unfold impl_MiddleOf.f midV
  simp only [iWidth, iAngle, Option.bind_some, decide_eq_true_eq]
  by_cases c : 0 ≤ w ∧ w ≤ 359
  · rw [if_pos c, if_pos c, Int.tdiv_eq_ediv_of_nonneg c.1, K.wr (x := w / 2) (by omega) (by omega), K.wr (by omega) (by omega)]
  · rw [if_neg c, if_neg c]
def gapV (a b : Int) : Int := mn ((a % 360 - b % 360) % 360) (360 - (a % 360 - b % 360) % 360)
theorem iGap (a b : Int) : impl_GapOf.f a b = some (gapV a b) := by
  unfold impl_GapOf.f gapV
  simp only [iAngle, Option.bind_some]
  rw [K.wr (x := a % 360 - b % 360) (by omega) (by omega), K.wr (by omega) (by omega)]
theorem gap_range (a b : Int) : 0 ≤ gapV a b ∧ gapV a b ≤ 180 := by
  unfold gapV mn
  split <;> omega
def sightOf (lim g w1 w2 : Int) : Int := if lim < 0 then 0 else if g - (w1 + w2) / 2 > lim then 0 else if g + (w1 + w2) / 2 ≤ lim then 2 else 1
def sightV (pl : Int) (sa : List S72) (si : List S74) (rc cr vw a b t : Int) : Int :=
  sightOf (limV pl sa si rc cr vw a b) (gapV (midV (nodeS sa si a t) (nodeW sa a)) (midV (nodeS sa si b t) (nodeW sa b))) (nodeW sa a) (nodeW sa b)
theorem iSight (pl : Int) (sa : List S72) (si : List S74) (rc cr vw su sh : Int) (zo : List S88) (ac : Int) (hn : (sa.length : Int) + si.length ≤ 4194304) (hpl0 : -9223372036854775808 ≤ pl) (hpl1 : pl ≤ 9223372036854775807) (h1 : ∀ x ∈ sa, -9223372036854775808 ≤ x.f0 ∧ x.f0 ≤ 9223372036854775807) (h2 : ∀ x ∈ si, -9223372036854775808 ≤ x.f0 ∧ x.f0 ≤ 9223372036854775807) (a b t : Int) :
    Ev (fun k => impl_SightAt.f k pl sa si rc cr vw su sh zo ac a b t) (sightV pl sa si rc cr vw a b t) := by
  unfold impl_SightAt.f sightV
  simp only [iNode _ _ _ _ _ _ _ _ _ _ hn, Option.bind_some]
  refine Ev.bind (iLimit _ _ _ _ _ _ _ _ _ _ hn hpl0 hpl1 h1 h2 a b) ?_
  have ha := node_range sa si a t
  have hb := node_range sa si b t
  have hg := gap_range (midV (nodeS sa si a t) (nodeW sa a)) (midV (nodeS sa si b t) (nodeW sa b))
  generalize limV pl sa si rc cr vw a b = lim
  simp only [iMiddle, iGap, Option.bind_some]
  generalize gapV (midV (nodeS sa si a t) (nodeW sa a)) (midV (nodeS sa si b t) (nodeW sa b)) = g at hg ⊢
  generalize nodeW sa a = x at ha ⊢
  generalize nodeW sa b = y at hb ⊢
  rw [K.wr (x := x + y) (by omega) (by omega), Int.tdiv_eq_ediv_of_nonneg (by omega), K.wr (x := (x + y) / 2) (by omega) (by omega), K.wr (x := g - (x + y) / 2) (by omega) (by omega)]
  unfold sightOf
  by_cases c : lim < 0
  · rw [if_pos c]
    refine K.pos c (K.succ ?_)
    simp only [impl_SightAt.j0]
    exact K.pos (by trivial) (Ev.now _)
  · rw [if_neg c]
    refine K.neg c (K.succ ?_)
    by_cases c2 : g - (x + y) / 2 > lim
    · rw [if_pos c2, decide_eq_true c2]
      simp only [impl_SightAt.j0]
      exact K.pos (by trivial) (Ev.now _)
    · rw [if_neg c2, decide_eq_false c2]
      simp only [impl_SightAt.j0]
      rw [K.wr (x := g + (x + y) / 2) (by omega) (by omega)]
      refine K.neg Bool.false_ne_true ?_
      split <;> exact Ev.now _
theorem iSure (pl : Int) (sa : List S72) (si : List S74) (rc cr vw su sh : Int) (zo : List S88) (ac : Int) (hn : (sa.length : Int) + si.length ≤ 4194304) (hpl0 : -9223372036854775808 ≤ pl) (hpl1 : pl ≤ 9223372036854775807) (h1 : ∀ x ∈ sa, -9223372036854775808 ≤ x.f0 ∧ x.f0 ≤ 9223372036854775807) (h2 : ∀ x ∈ si, -9223372036854775808 ≤ x.f0 ∧ x.f0 ≤ 9223372036854775807) (a b t : Int) :
    Ev (fun k => impl_IsSure.f k pl sa si rc cr vw su sh zo ac a b t) (sightV pl sa si rc cr vw a b t == 2) := by
  unfold impl_IsSure.f
  exact Ev.bind (iSight _ _ _ _ _ _ _ _ _ _ hn hpl0 hpl1 h1 h2 a b t) (Ev.now _)
def spkR (q pa pb : Int → Bool) (f t : Int) : List S82 := run (cutP (win q f t) (win pa f t ++ win pb f t)) [] 0 1000
theorem iCutB (a b : List S82) (ha : a.length ≤ 2097152) (hb : b.length ≤ 2097152) : Ev (fun k => impl_CutSpans.f k a b) (run (cutP a b) [] 0 1000) := by
  unfold impl_CutSpans.f
  obtain ⟨x, g1, g2, g3⟩ := ticksOf a ha
  obtain ⟨y, e1, e2, e3⟩ := ticksOf b hb
  refine Ev.bind g1 (Ev.bind e1 (Ev.bind (r := run (cutP a b) [] 0 1000) ?_ (Ev.now _)))
  unfold where_impl_CutSpans_1.f sw.f
  have hm : mn 1000 1000 = 1000 := by unfold mn; rfl
  have hx : mx 0 0 = 0 := by unfold mx; rfl
  rw [hx]
  refine whereRun (fun _ t => impl_CutSpans_1.f t x y) (cutP a b) 1000 (fun t h0 h1 => ?_) 1000 [] 0 (by omega) (by rw [hm]; rfl) (by simp)
  rw [hm] at h1
  unfold impl_CutSpans_1.f cutP
  rw [g2, e2, g3 t h0 h1, e3 t h0 h1]
  refine K.pos h0 (K.pos (by omega) ?_)
  cases inl a t with
  | true => exact K.pos rfl (K.pos (by omega) (Ev.now _))
  | false => exact K.neg Bool.false_ne_true (Ev.now _)
theorem iSpeak (pl : Int) (sa : List S72) (si : List S74) (rc cr vw su sh : Int) (zo : List S88) (ac : Int) (p : Int → Int → Bool) (q : Int → Bool) (i j : Int) (hp : ∀ i t, Ev (fun k => impl_MayDisturb.f k pl sa si rc cr vw su sh zo ac i t) (p i t)) (hq : ∀ t, Ev (fun k => impl_IsSure.f k pl sa si rc cr vw su sh zo ac i j t) (q t)) (a b : Int) : Ev (fun k => impl_SpeakingSpans.f k pl sa si rc cr vw su sh zo ac i j a b) (spkR q (p i) (p j) a b) := by
  have l1 := win_len q a b
  have l2 := win_len (p i) a b
  have l3 := win_len (p j) a b
  unfold impl_SpeakingSpans.f
  exact Ev.bind (iSureWn pl sa si rc cr vw su sh zo ac q i j hq a b) (Ev.bind (iQuietW pl sa si rc cr vw su sh zo ac p hp i a b) (Ev.bind (iQuietW pl sa si rc cr vw su sh zo ac p hp j a b) (Ev.bind (concat2 _ _ (by omega) (by omega)) (Ev.bind (iCutB _ _ (by omega) (by rw [List.length_append]; omega)) (Ev.now _)))))
theorem spkR_len (q pa pb : Int → Bool) (f t : Int) : (spkR q pa pb f t).length ≤ 1000 := Nat.le_trans (run_len _ 1000 [] 0) (by simp)
theorem spkR_in (q pa pb : Int → Bool) (f t u : Int) (hf : f ≤ 1000) (h0 : 0 ≤ u) (h1 : u < 1000) : inl (spkR q pa pb f t) u = (decide (f ≤ u ∧ u < t) && (q u && !(pa u || pb u))) := by
  unfold spkR
  rw [inl_all _ u h0 h1]
  unfold cutP
  rw [inl_app, (win_ok q f t u hf).2, (win_ok pa f t u hf).2, (win_ok pb f t u hf).2]
  by_cases c : f ≤ u ∧ u < t
  · rw [decide_eq_true c, decide_eq_true (show 0 ≤ u ∧ u < 1000 ∧ f ≤ u ∧ u < t by omega)]
    simp
  · rw [decide_eq_false c, decide_eq_false (show ¬ (0 ≤ u ∧ u < 1000 ∧ f ≤ u ∧ u < t) by omega)]
    simp

theorem disturbI (pl : Int) (sa : List S72) (si : List S74) (rc cr vw su sh : Int) (zo : List S88) (ac : Int) (hn : (sa.length : Int) + si.length ≤ 4194304) (hz : zo.length ≤ 1048576) (i t : Int) :
    ∃ b : Bool, Ev (fun k => impl_MayDisturb.f k pl sa si rc cr vw su sh zo ac i t) b ∧ (¬ (0 ≤ i ∧ i < (sa.length : Int)) → b = false) := by
  unfold impl_MayDisturb.f
  simp only [iIsSat _ _ _ _ _ _ _ _ _ _ hn, Option.bind_some, decide_eq_true_eq]
  by_cases c : 0 ≤ i ∧ i < (sa.length : Int)
  · rw [iNode _ _ _ _ _ _ _ _ _ _ hn]
    simp only [Option.bind_some]
    have loop : ∀ (d : Nat) (j : Int), 0 ≤ j → (zo.length : Int) - j = d → ∃ b : Bool, Ev (fun k => impl_MayDisturb.l0 k i zo (zo.length : Int) j pl sa si rc cr vw su sh zo ac (nodeS sa si i t) (nodeW sa i)) b := by
      intro d
      induction d with
      | zero =>
        intro j h0 hd
        refine ⟨false, K.succ ?_⟩
        simp only [impl_MayDisturb.l0]
        exact K.neg (by omega) (Ev.now _)
      | succ d ih =>
        intro j h0 hd
        have w1 := Aside0.mk (K.wr (x := j + 1) (by omega) (by omega))
        obtain ⟨b, g2⟩ := ih (j + 1) (by omega) (by omega)
        by_cases c2 : (rd_T88 zo j).f0 = (rd_T72 sa i).f0
        · have e := iMeet (nodeS sa si i t) (nodeW sa i) (rd_T88 zo j).f1.f0 (rd_T88 zo j).f1.f1
          by_cases c3 : meetV (nodeS sa si i t) (nodeW sa i) (rd_T88 zo j).f1.f0 (rd_T88 zo j).f1.f1
          · rw [decide_eq_true c3] at e
            refine ⟨true, K.succ ?_⟩
            simp only [impl_MayDisturb.l0]
            exact K.pos (by omega) (K.pos h0 (K.pos (by omega) (K.pos c.1 (K.pos c.2 (K.pos c2 (Ev.bind e (K.pos rfl (Ev.now _))))))))
          · rw [decide_eq_false c3] at e
            refine ⟨b, K.succ ?_⟩
            simp only [impl_MayDisturb.l0, w1.out]
            exact K.pos (by omega) (K.pos h0 (K.pos (by omega) (K.pos c.1 (K.pos c.2 (K.pos c2 (Ev.bind e (K.neg Bool.false_ne_true g2)))))))
        · refine ⟨b, K.succ ?_⟩
          simp only [impl_MayDisturb.l0, w1.out]
          exact K.pos (by omega) (K.pos h0 (K.pos (by omega) (K.pos c.1 (K.pos c.2 (K.neg c2 g2)))))
    obtain ⟨b, g⟩ := loop zo.length 0 (by omega) (by omega)
    exact ⟨b, K.pos c g, fun h => absurd c h⟩
  · exact ⟨false, K.neg c (Ev.now _), fun _ => rfl⟩
theorem mayI (pl : Int) (sa : List S72) (si : List S74) (rc cr vw su sh : Int) (zo : List S88) (ac : Int) (hn : (sa.length : Int) + si.length ≤ 4194304) (hz : zo.length ≤ 1048576) : ∃ p : Int → Int → Bool, ∀ i t, Ev (fun k => impl_MayDisturb.f k pl sa si rc cr vw su sh zo ac i t) (p i t) ∧ (¬ (0 ≤ i ∧ i < (sa.length : Int)) → p i t = false) :=
  ⟨fun i t => (disturbI pl sa si rc cr vw su sh zo ac hn hz i t).choose, fun i t => (disturbI pl sa si rc cr vw su sh zo ac hn hz i t).choose_spec⟩

theorem iJoin (l : List S82) (hl : l.length ≤ 2097152) : Ev (fun k => impl_JoinSpans.f k l) (run (inl l) [] 0 1000) := by
  unfold impl_JoinSpans.f
  obtain ⟨x, g1, g2, g3⟩ := ticksOf l hl
  refine Ev.bind g1 (Ev.bind (r := run (inl l) [] 0 1000) ?_ (Ev.now _))
  unfold where_impl_JoinSpans_1.f sw.f
  have hm : mn 1000 1000 = 1000 := by unfold mn; rfl
  have hx : mx 0 0 = 0 := by unfold mx; rfl
  rw [hx]
  refine whereRun (fun _ t => impl_JoinSpans_1.f t x) (inl l) 1000 (fun t h0 h1 => ?_) 1000 [] 0 (by omega) (by rw [hm]; rfl) (by simp)
  rw [hm] at h1
  unfold impl_JoinSpans_1.f
  rw [g2]
  refine K.pos h0 (K.pos (by omega) ?_)
  rw [g3 t h0 h1]
  exact Ev.now _
def ofS (A B : Int) (s : S82) : S53 := ⟨A, B, s.f0, s.f1⟩
def wide (l : List S82) : Prop := ∀ s ∈ l, 0 ≤ s.f0 ∧ s.f0 ≤ s.f1 ∧ s.f1 ≤ 1000
theorem wput_snoc (o : List S82) (t : Int) : (∃ q r, o = q ++ [r] ∧ r.f1 = t ∧ put o t = q ++ [⟨r.f0, t + 1⟩]) ∨ put o t = o ++ [⟨t, t + 1⟩] := by
  rcases List.eq_nil_or_concat o with rfl | ⟨q, r, rfl⟩
  · exact .inr rfl
  · have hl : ((q ++ [r]).length : Int) - 1 = (q.length : Int) := by simp
    have hrd : rd_T82 (q ++ [r]) (q.length : Int) = r := by
      simp [rd_T82, List.getD_eq_getElem?_getD]
    simp only [List.concat_eq_append]
    unfold put
    rw [if_pos (by simp), hl, hrd]
    by_cases c : r.f1 = t
    · rw [if_pos c]
      refine .inl ⟨q, r, rfl, c, ?_⟩
      simp
    · rw [if_neg c]
      exact .inr rfl
theorem wide_put (o : List S82) (t : Int) (h0 : 0 ≤ t) (h1 : t < 1000) (h : wide o) : wide (put o t) := by
  rcases wput_snoc o t with ⟨q, r, rfl, hr, e⟩ | e
  · rw [e]
    intro s hs
    rcases List.mem_append.1 hs with hs | hs
    · exact h s (by simp [hs])
    · rw [List.mem_singleton] at hs
      subst hs
      have := h r (by simp)
      exact ⟨this.1, by show r.f0 ≤ t + 1; omega, by show t + 1 ≤ 1000; omega⟩
  · rw [e]
    intro s hs
    rcases List.mem_append.1 hs with hs | hs
    · exact h s hs
    · rw [List.mem_singleton] at hs
      subst hs
      exact ⟨h0, by show t ≤ t + 1; omega, by show t + 1 ≤ 1000; omega⟩
theorem wide_run (p : Int → Bool) : ∀ (d : Nat) (o : List S82) (t : Int), 0 ≤ t → t + d ≤ 1000 → wide o → wide (run p o t d) := by
  intro d
  induction d with
  | zero => intro o t _ _ h; exact h
  | succ d ih =>
    intro o t h0 h1 h
    simp only [run]
    refine ih _ _ (by omega) (by omega) ?_
    split
    · exact wide_put o t h0 (by omega) h
    · exact h
theorem iIsSpan (a b : Int) : impl_IsSpan.f a b = some (decide (0 ≤ a ∧ b ≤ 1000 ∧ a < b)) := by
  unfold impl_IsSpan.f
  split <;> (try split) <;> first | (congr 1; exact decide_eq_decide.2 (by omega)) | (congr 1; exact (decide_eq_false (by omega)).symm)
theorem rdDropC (l : List S53) (i : Int) (h0 : 0 ≤ i) (h1 : i < (l.length : Int)) : l.drop i.toNat = rd_T53 l i :: l.drop (i + 1).toNat := by
  rw [List.drop_eq_getElem_cons (by omega), show (i + 1).toNat = i.toNat + 1 by omega]
  simp [rd_T53, List.getD_eq_getElem?_getD, List.getElem?_eq_getElem (show i.toNat < l.length by omega)]
def spk (l : List S53) (a b t : Int) : Bool := l.any fun x => decide (x.f0 = a ∧ x.f1 = b) && ins ⟨x.f2, x.f3⟩ t
theorem speakE (l : List S53) (hl : l.length ≤ 2000000000) (a b t : Int) : ∀ (d : Nat) (i : Int), 0 ≤ i → (l.length : Int) - i = d →
    Ev (fun k => impl_CanSpeak.l0 k a b t l (l.length : Int) i) (spk (l.drop i.toNat) (mn a b) (mx a b) t) := by
  intro d
  induction d with
  | zero =>
    intro i h0 hd
    rw [List.drop_eq_nil_of_le (by omega)]
    refine K.succ ?_
    simp only [impl_CanSpeak.l0]
    exact K.neg (by omega) (Ev.now _)
  | succ d ih =>
    intro i h0 hd
    have w2 := Aside0.mk (K.wr (x := i + 1) (by omega) (by omega))
    have h2 := ih (i + 1) (by omega) (by omega)
    rw [rdDropC l i h0 (by omega)]
    have hi : ∀ s t2 u : Int, impl_InSpan.f s t2 u = some (ins ⟨s, t2⟩ u) := fun s t2 u => iIns ⟨s, t2⟩ u
    have e : spk (rd_T53 l i :: l.drop (i + 1).toNat) (mn a b) (mx a b) t = ((decide ((rd_T53 l i).f0 = mn a b ∧ (rd_T53 l i).f1 = mx a b) && ins ⟨(rd_T53 l i).f2, (rd_T53 l i).f3⟩ t) || spk (l.drop (i + 1).toNat) (mn a b) (mx a b) t) := by simp [spk]
    rw [e]
    refine K.succ ?_
    simp only [impl_CanSpeak.l0, impl_spanOf.f, hi, Option.bind_some, w2.out]
    refine K.pos (by omega) (K.pos h0 (K.pos (by omega) ?_))
    by_cases c1 : (rd_T53 l i).f0 = mn a b
    · by_cases c2 : (rd_T53 l i).f1 = mx a b
      · rw [decide_eq_true ⟨c1, c2⟩, Bool.true_and]
        refine K.pos c1 (K.pos c2 ?_)
        cases ins ⟨(rd_T53 l i).f2, (rd_T53 l i).f3⟩ t with
        | true => exact K.pos rfl (Ev.now _)
        | false => exact K.neg Bool.false_ne_true h2
      · rw [decide_eq_false (fun h => c2 h.2), Bool.false_and, Bool.false_or]
        exact K.pos c1 (K.neg c2 h2)
    · rw [decide_eq_false (fun h => c1 h.1), Bool.false_and, Bool.false_or]
      exact K.neg c1 h2
def isC (x : S53) (n : Int) : Bool := decide (0 ≤ x.f0 ∧ x.f0 < x.f1 ∧ x.f1 < n ∧ 0 ≤ x.f2 ∧ x.f3 ≤ 1000 ∧ x.f2 < x.f3)
theorem iIsC (x : S53) (n : Int) : impl_IsContact.f x.f0 x.f1 x.f2 x.f3 n = some (isC x n) := by
  unfold impl_IsContact.f isC impl_spanOf.f
  simp only [iIsSpan, Option.bind_some]
  split <;> (try split) <;> (try split) <;> first | rfl | (congr 1; exact decide_eq_decide.2 (by omega)) | (congr 1; exact (decide_eq_false (by omega)).symm)
def cmp (a b : Int) : Int := if a < b then -1 else if b < a then 1 else 0
theorem compare (a b : Int) : cmp_Compare_int.f a b = some (cmp a b) := by
  unfold cmp_Compare_int.f cmp_isNaN_int.f cmp
  have h : ∀ x : Int, (x != x) = false := fun x => by simp
  simp only [h, Option.bind_some]
  rw [if_neg Bool.false_ne_true, if_neg Bool.false_ne_true]
  split
  · rfl
  · split <;> rfl
theorem or2 (a b : Int) : Ev (fun k => cmp_Or_int.f k [a, b]) (if a = 0 then b else a) := by
  unfold cmp_Or_int.f
  have e0 : rd [a, b] 0 = a := rfl
  have e1 : rd [a, b] 1 = b := rfl
  refine K.succ ?_
  simp only [cmp_Or_int.l0]
  refine K.pos (by simp) (K.pos (by omega) (K.pos (by simp) ?_))
  rw [e0]
  by_cases c : a = 0
  · rw [if_pos c]
    refine K.pos c (K.succ ?_)
    have w : wrap64 (0 + 1) = 1 := by unfold wrap64; omega
    simp only [cmp_Or_int.l0, w]
    refine K.pos (by simp) (K.pos (by omega) (K.pos (by simp) ?_))
    rw [e1]
    by_cases c2 : b = 0
    · refine K.pos c2 (K.succ ?_)
      have w2 : wrap64 (1 + 1) = 2 := by unfold wrap64; omega
      simp only [cmp_Or_int.l0, w2]
      rw [c2]
      exact K.neg (by simp) (Ev.now _)
    · exact K.neg c2 (Ev.now _)
  · rw [if_neg c]
    exact K.neg c (Ev.now _)
def bef (x y : S53) : Prop := x.f0 < y.f0 ∨ x.f0 = y.f0 ∧ (x.f1 < y.f1 ∨ x.f1 = y.f1 ∧ x.f3 < y.f2)
theorem bef_cmp (x y : S53) : bef x y ↔ ((if cmp x.f0 y.f0 = 0 then cmp x.f1 y.f1 else cmp x.f0 y.f0) < 0 ∨ (if cmp x.f0 y.f0 = 0 then cmp x.f1 y.f1 else cmp x.f0 y.f0) = 0 ∧ ¬ x.f3 ≥ y.f2) := by
  unfold bef cmp
  by_cases e0 : x.f0 = y.f0
  · rw [if_neg (show ¬ x.f0 < y.f0 by omega), if_neg (show ¬ y.f0 < x.f0 by omega), if_pos rfl]
    split
    · omega
    · split <;> omega
  · by_cases e1 : x.f0 < y.f0
    · rw [if_pos e1, if_neg (by decide)]
      omega
    · rw [if_neg e1, if_pos (show y.f0 < x.f0 by omega), if_neg (by decide)]
      omega
def okp (n : Int) : Option S53 → List S53 → Prop
  | _, [] => True
  | o, y :: q => isC y n = true ∧ (∀ x, o = some x → bef x y) ∧ okp n (some y) q
theorem planE (n : Int) : ∀ (q p : List S53), p.length + q.length ≤ 2000000000 → ∃ v : Bool, (v = true ↔ okp n p.getLast? q) ∧ Ev (fun k => impl_IsPlan.l0 k (p ++ q) n (p ++ q) ((p ++ q).length : Int) (p.length : Int)) v
  | [], p, hl => by
    refine ⟨true, by simp [okp], K.succ ?_⟩
    simp only [impl_IsPlan.l0]
    exact K.neg (by simp) (Ev.now _)
  | y :: q, p, hl => by
    simp at hl
    have w1 := Aside0.mk (K.wr (x := (p.length : Int) + 1) (by omega) (by omega))
    have w2 := Aside0.mk (K.wr (x := (p.length : Int) - 1) (by omega) (by omega))
    have hr : rd_T53 (p ++ y :: q) (p.length : Int) = y := by simp [rd_T53, List.getD_eq_getElem?_getD]
    have e2 : p ++ y :: q = (p ++ [y]) ++ q := by simp
    have e3 : (p.length : Int) + 1 = ((p ++ [y]).length : Int) := by simp
    have hlen : ((p ++ y :: q).length : Int) = (p.length : Int) + (q.length + 1) := by simp
    cases hc : isC y n with
    | false =>
      refine ⟨false, by simp [okp, hc], K.succ ?_⟩
      simp only [impl_IsPlan.l0, hr, iIsC, hc, Option.bind_some]
      exact K.pos (by omega) (K.pos (by omega) (K.pos (by omega) (K.neg Bool.false_ne_true (Ev.now _))))
    | true =>
      obtain ⟨v, hv, ih⟩ := planE n q (p ++ [y]) (by simp; omega)
      rw [← e2, ← e3] at ih
      rw [List.getLast?_concat] at hv
      rcases List.eq_nil_or_concat p with rfl | ⟨p', x, rfl⟩
      · refine ⟨v, by simp [okp, hc, hv], K.succ ?_⟩
        simp only [impl_IsPlan.l0, hr, iIsC, hc, Option.bind_some, w1.out]
        exact K.pos (by omega) (K.pos (by omega) (K.pos (by omega) (K.pos (by trivial) (K.pos (by simp) ih))))
      · have hrx : rd_T53 (p'.concat x ++ y :: q) (((p'.concat x).length : Int) - 1) = x := by
          have : ((p'.concat x).length : Int) - 1 = (p'.length : Int) := by simp
          rw [this]
          simp [rd_T53, List.getD_eq_getElem?_getD]
        have hpl : 0 < (p'.concat x).length := by simp
        have hg : (p'.concat x).getLast? = some x := by simp
        rw [hg]
        have k2 := or2 (cmp x.f0 y.f0) (cmp x.f1 y.f1)
        have k3 := bef_cmp x y
        generalize (if cmp x.f0 y.f0 = 0 then cmp x.f1 y.f1 else cmp x.f0 y.f0) = o at k2 k3
        by_cases c : bef x y
        · have k4 := k3.1 c
          refine ⟨v, by simp [okp, hc, hv, c], K.succ ?_⟩
          simp only [impl_IsPlan.l0, hr, iIsC, hc, Option.bind_some, w1.out, w2.out, hrx, compare]
          refine K.pos (by omega) (K.pos (by omega) (K.pos (by omega) (K.pos (by trivial) (K.neg (by omega) (K.pos (by omega) (K.pos (by omega) (Ev.bind k2 (K.neg (by omega) ?_))))))))
          rcases k4 with k4 | k4
          · exact K.neg (by omega) ih
          · exact K.pos k4.1 (K.neg k4.2 ih)
        · have k4 : ¬ (o < 0 ∨ o = 0 ∧ ¬ x.f3 ≥ y.f2) := fun h => c (k3.2 h)
          refine ⟨false, by simp [okp, hc, c], K.succ ?_⟩
          simp only [impl_IsPlan.l0, hr, iIsC, hc, Option.bind_some, w1.out, w2.out, hrx, compare]
          refine K.pos (by omega) (K.pos (by omega) (K.pos (by omega) (K.pos (by trivial) (K.neg (by omega) (K.pos (by omega) (K.pos (by omega) (Ev.bind k2 ?_)))))))
          by_cases c2 : o > 0
          · exact K.pos c2 (Ev.now _)
          · exact K.neg c2 (K.pos (by omega) (K.pos (by omega) (Ev.now _)))
theorem okp_in (n : Int) : ∀ (q : List S53) (o : Option S53), (∀ y ∈ q, isC y n = true) → q.Pairwise bef → (∀ x, o = some x → ∀ y ∈ q, bef x y) → okp n o q
  | [], o, _, _, _ => trivial
  | y :: q, o, h1, h2, h3 => by
    rw [List.pairwise_cons] at h2
    exact ⟨h1 y (by simp), fun x hx => h3 x hx y (by simp), okp_in n q (some y) (fun z hz => h1 z (by simp [hz])) h2.2 (fun x hx z hz => by cases hx; exact h2.1 z hz)⟩
theorem put_apart (o : List S82) (t : Int) (hp : o.Pairwise fun a b => a.f1 < b.f0) (hv : ∀ s ∈ o, vs s = true) (ht : ∀ s ∈ o, s.f1 ≤ t) : (put o t).Pairwise (fun a b => a.f1 < b.f0) ∧ ∀ s ∈ put o t, s.f1 ≤ t + 1 := by
  have hb : ∀ s ∈ o, s.f0 < s.f1 := by
    intro s hs
    have := hv s hs
    unfold vs at this
    exact (of_decide_eq_true this).2.2
  rcases List.eq_nil_or_concat o with rfl | ⟨q, r, rfl⟩
  · have e : put ([] : List S82) t = [⟨t, t + 1⟩] := by
      unfold put
      simp
    rw [e]
    simp
  · rw [List.concat_eq_append] at hp hv ht hb ⊢
    obtain ⟨hp1, _, hp3⟩ := List.pairwise_append.1 hp
    have hl : ((q ++ [r]).length : Int) - 1 = (q.length : Int) := by simp
    have hrd : rd_T82 (q ++ [r]) (q.length : Int) = r := by
      simp [rd_T82, List.getD_eq_getElem?_getD]
    unfold put
    rw [if_pos (by simp), hl, hrd]
    by_cases c : r.f1 = t
    · rw [if_pos c]
      have e : (q ++ [r]).set (q.length : Int).toNat ⟨r.f0, t + 1⟩ = q ++ [⟨r.f0, t + 1⟩] := by simp
      rw [e]
      refine ⟨List.pairwise_append.2 ⟨hp1, by simp, ?_⟩, ?_⟩
      · intro a ha b hb2
        rw [List.mem_singleton] at hb2
        subst hb2
        exact hp3 a ha r (by simp)
      · intro s hs
        rcases List.mem_append.1 hs with hs | hs
        · have := ht s (by simp [hs]); omega
        · rw [List.mem_singleton] at hs
          subst hs
          exact Int.le_refl _
    · rw [if_neg c]
      refine ⟨List.pairwise_append.2 ⟨hp, by simp, ?_⟩, ?_⟩
      · intro a ha b hb2
        rw [List.mem_singleton] at hb2
        subst hb2
        show a.f1 < t
        rcases List.mem_append.1 ha with ha | ha
        · have h1 := hp3 a ha r (by simp)
          have h2 := hb r (by simp)
          have h3 := ht r (by simp)
          omega
        · rw [List.mem_singleton] at ha
          subst ha
          have := ht a (by simp)
          omega
      · intro s hs
        rcases List.mem_append.1 hs with hs | hs
        · have := ht s hs; omega
        · rw [List.mem_singleton] at hs
          subst hs
          exact Int.le_refl _
theorem run_apart (p : Int → Bool) : ∀ (d : Nat) (o : List S82) (t : Int), 0 ≤ t → t + d ≤ 1000 → (o.Pairwise fun a b => a.f1 < b.f0) → (∀ s ∈ o, vs s = true) → (∀ s ∈ o, s.f1 ≤ t) → (run p o t d).Pairwise (fun a b => a.f1 < b.f0)
  | 0, o, t, _, _, hp, _, _ => hp
  | d + 1, o, t, h0, h1, hp, hv, ht => by
    simp only [run]
    by_cases c : p t = true
    · rw [if_pos c]
      obtain ⟨a, b⟩ := put_apart o t hp hv ht
      exact run_apart p d _ _ (by omega) (by omega) a (put_ok o t 0 h0 (by omega) hv).1 b
    · rw [if_neg c]
      exact run_apart p d _ _ (by omega) (by omega) hp hv (fun s hs => by have := ht s hs; omega)
theorem and255 (n : Int) : Go.bits .and .i64 n 255 = n % 256 := by
  have h255 : (BitVec.ofInt 64 255).toNat = 2 ^ 8 - 1 := by decide
  have key : (BitVec.ofInt 64 n &&& BitVec.ofInt 64 255).toNat = (n % ((2 ^ 64 : Nat) : Int)).toNat % 2 ^ 8 := by
    rw [BitVec.toNat_and, BitVec.toNat_ofInt, h255, Nat.and_two_pow_sub_one_eq_mod]
  show IntKind.i64.wrap ((BitVec.ofInt 64 n &&& BitVec.ofInt 64 255).toNat : Nat) = n % 256
  rw [key, IntKind.wrap_i64]
  omega
theorem l1New (l : List Int) (hl : l.length ≤ 1048576) : ∃ h, Ev (fun k => spec_l1New.f k l) (l, 0, h) := by
  have loop : ∀ (d : Nat) (h i : Int), 0 ≤ i → (l.length : Int) - i = d → ∃ h', Ev (fun k => spec_l1New.l0 k l h i) (l, 0, h') := by
    intro d
    induction d with
    | zero =>
      intro h i h0 hd
      refine ⟨h, K.succ ?_⟩
      simp only [spec_l1New.l0]
      exact K.neg (by omega) (Ev.now _)
    | succ d ih =>
      intro h i h0 hd
      by_cases c : i < 4000
      · obtain ⟨h', g⟩ := ih (Go.bits .and .i64 (wrap64 ((wrap64 ((wrap64 (h * 137)) + (wrap64 (rd l i)))) + 11)) 1073741823) (i + 1) (by omega) (by omega)
        refine ⟨h', K.succ ?_⟩
        simp only [spec_l1New.l0]
        rw [K.wr (x := i + 1) (by omega) (by omega)]
        exact K.pos (by omega) (K.pos c (K.pos h0 g))
      · refine ⟨h, K.succ ?_⟩
        simp only [spec_l1New.l0]
        exact K.pos (by omega) (K.neg c (Ev.now _))
  unfold spec_l1New.f
  exact loop l.length _ 0 (by omega) (by omega)
theorem l1Byte (l : List Int) (hl : l.length ≤ 1048576) (i h : Int) (h0 : 0 ≤ i) (h1 : i ≤ (l.length : Int)) :
    ∃ v i' h', spec_l1Byte.f l i h = some (v, i', h') ∧ 0 ≤ v ∧ v ≤ 255 ∧ 0 ≤ i' ∧ i' ≤ (l.length : Int) := by
  unfold spec_l1Byte.f
  simp only [and255]
  by_cases c : i < (l.length : Int)
  · rw [if_pos c, if_pos h0, K.wr (x := i + 1) (by omega) (by omega)]
    exact ⟨_, _, _, rfl, by omega, by omega, by omega, by omega⟩
  · rw [if_neg c]
    exact ⟨_, _, _, rfl, by omega, by omega, h0, h1⟩
theorem l1Below (l : List Int) (hl : l.length ≤ 1048576) (i h : Int) (h0 : 0 ≤ i) (h1 : i ≤ (l.length : Int)) (n : Int) (hn : 0 < n) (hn2 : n ≤ 256) :
    ∃ v i' h', spec_l1Below.f l i h n = some (v, i', h') ∧ 0 ≤ v ∧ v < n ∧ 0 ≤ i' ∧ i' ≤ (l.length : Int) := by
  obtain ⟨v, i', h', e, a, b, c, d⟩ := l1Byte l hl i h h0 h1
  refine ⟨Int.tmod v n, i', h', ?_, Int.tmod_nonneg _ a, Int.tmod_lt_of_pos _ hn, c, d⟩
  unfold spec_l1Below.f
  rw [if_neg (by omega), if_pos hn2, e]
  simp only [Option.bind_some]
  rw [if_neg (by omega)]
theorem l1Once (l : List Int) (hl : l.length ≤ 1048576) (i h : Int) (h0 : 0 ≤ i) (h1 : i ≤ (l.length : Int)) (n : Int) (hn : 0 < n) (hn2 : n ≤ 256) :
    ∃ v i' h', spec_l1Once.f l i h n = some (v, i', h') ∧ 0 ≤ i' ∧ i' ≤ (l.length : Int) := by
  obtain ⟨v, i', h', e, a, b, c, d⟩ := l1Below l hl i h h0 h1 n hn hn2
  refine ⟨v == 0, i', h', ?_, c, d⟩
  unfold spec_l1Once.f
  rw [e]
  rfl
theorem l1Int (l : List Int) (hl : l.length ≤ 1048576) (i h : Int) (h0 : 0 ≤ i) (h1 : i ≤ (l.length : Int)) (xs : List Int) (hn : 0 < (xs.length : Int)) (hn2 : (xs.length : Int) ≤ 256) :
    ∃ v i' h', spec_l1Int.f l i h xs = some (v, i', h') ∧ v ∈ xs ∧ 0 ≤ i' ∧ i' ≤ (l.length : Int) := by
  obtain ⟨v, i', h', e, a, b, c, d⟩ := l1Below l hl i h h0 h1 _ hn hn2
  refine ⟨rd xs v, i', h', ?_, ?_, c, d⟩
  · unfold spec_l1Int.f
    rw [e]
    simp only [Option.bind_some]
    rw [if_pos a, if_pos b]
  · simp only [rd, List.getD_eq_getElem?_getD, List.getElem?_eq_getElem (show v.toNat < xs.length by omega), Option.getD_some]
    exact List.getElem_mem _
theorem l4Raw (l : List Int) (hl : l.length ≤ 1048576) (i h : Int) (h0 : 0 ≤ i) (h1 : i ≤ (l.length : Int)) : ∃ v i' h', spec_l4Raw.f l i h = some (v, i', h') ∧ 0 ≤ i' ∧ i' ≤ (l.length : Int) := by
  obtain ⟨b, i1, g1, e1, p1, q1⟩ := l1Once l hl i h h0 h1 6 (by omega) (by omega)
  unfold spec_l4Raw.f
  rw [e1, Option.bind_some]
  cases b with
  | true =>
    obtain ⟨v, i2, g2, e2, m2, p2, q2⟩ := l1Int l hl i1 g1 p1 q1 [(-1), 0, 1000, 1001, 9223372036854775807, (-9223372036854775808)] (by decide) (by decide)
    refine ⟨v, i2, g2, ?_, p2, q2⟩
    dsimp only
    rw [if_pos rfl, e2]
    rfl
  | false =>
    obtain ⟨v, i2, g2, e2, _, _, p2, q2⟩ := l1Below l hl i1 g1 p1 q1 40 (by omega) (by omega)
    refine ⟨v, i2, g2, ?_, p2, q2⟩
    dsimp only
    rw [if_neg Bool.false_ne_true, e2]
    rfl
def i64 (x : Int) : Prop := -9223372036854775808 ≤ x ∧ x ≤ 9223372036854775807
def skyOk (pl : Int) (sa : List S72) (si : List S74) (zo : List S88) : Prop :=
  i64 pl ∧ sa.length ≤ 8 ∧ si.length = 2 ∧ zo.length ≤ 1000 ∧ (∀ x ∈ sa, i64 x.f0 ∧ -1 ≤ x.f3 ∧ x.f3 ≤ 21) ∧ ∀ x ∈ si, i64 x.f0
def satsOk (sa : List S72) : Prop := ∀ x ∈ sa, i64 x.f0 ∧ -1 ≤ x.f3 ∧ x.f3 ≤ 21
theorem sky1 (l : List Int) (hl : l.length ≤ 1048576) (pl rc cr vw su sh ac p n : Int) (hp0 : 0 ≤ p) (hp1 : p ≤ 1) : ∀ (d : Nat) (j : Int) (sa : List S72) (i h : Int), n - j = d → 0 ≤ j → n ≤ 3 → sa.length + d ≤ 8 → satsOk sa → 0 ≤ i → i ≤ (l.length : Int) →
    ∃ (sa' : List S72) (i' h' : Int), sa'.length = sa.length + d ∧ satsOk sa' ∧ 0 ≤ i' ∧ i' ≤ (l.length : Int) ∧ ∀ r, Ev (fun k => spec_l7Sky.l0 k (p + 1) l i' h' pl sa' rc cr vw su sh ac) r → Ev (fun k => spec_l7Sky.l1 k p n j l i h pl sa rc cr vw su sh ac) r := by
  intro d
  have w0 := Aside0.mk (K.wr (x := p + 1) (by omega) (by omega))
  induction d with
  | zero =>
    intro j sa i h hd hj hn hs ho h0 h1
    refine ⟨sa, i, h, rfl, ho, h0, h1, fun r g => K.succ ?_⟩
    simp only [spec_l7Sky.l1, w0.out]
    exact K.neg (by omega) g
  | succ d ih =>
    intro j sa i h hd hj hn hs ho h0 h1
    have w1 := Aside0.mk (K.wr (x := j + 1) (by omega) (by omega))
    obtain ⟨v1, i1, g1, e1, a1, b1, p1, q1⟩ := l1Below l hl i h h0 h1 2 (by omega) (by omega)
    obtain ⟨v2, i2, g2, e2, a2, b2, p2, q2⟩ := l1Below l hl i1 g1 p1 q1 2 (by omega) (by omega)
    obtain ⟨sa', i3, g3, k1, k2, k3, k4, k5⟩ := ih (j + 1) (sa ++ [⟨p, (wrap64 ((wrap64 (120 * j)) + (wrap64 (20 * p)))) % 360, wrap64 (10 - (wrap64 ((wrap64 (4 * p)) * v1))), v2⟩]) i2 g2 (by omega) (by omega) hn (by simp; omega) (by
      intro x hx
      rcases List.mem_append.1 hx with hx | hx
      · exact ho x hx
      · rw [List.mem_singleton] at hx
        subst hx
        exact ⟨⟨by show -9223372036854775808 ≤ p; omega, by show p ≤ 9223372036854775807; omega⟩, by show -1 ≤ v2; omega, by show v2 ≤ 21; omega⟩) p2 q2
    refine ⟨sa', i3, g3, by rw [k1]; simp; omega, k2, k3, k4, fun r g => K.succ ?_⟩
    simp only [spec_l7Sky.l1, sAngle, e1, e2, Option.bind_some, w1.out]
    exact K.pos (by omega) (K.pos (by omega) (k5 r g))
theorem l7Sky (l : List Int) (hl : l.length ≤ 1048576) (i h : Int) (h0 : 0 ≤ i) (h1 : i ≤ (l.length : Int)) : ∃ (pl : Int) (sa : List S72) (si : List S74) (rc cr vw su sh : Int) (zo : List S88) (ac i' h' : Int), skyOk pl sa si zo ∧ 0 < sa.length ∧ zo.length ≤ 8 ∧ 0 ≤ i' ∧ i' ≤ (l.length : Int) ∧ Ev (fun k => spec_l7Sky.f k l i h) (pl, sa, si, rc, cr, vw, su, sh, zo, ac, i', h') := by
  obtain ⟨v1, i1, g1, e1, a1, b1, p1, q1⟩ := l1Below l hl i h h0 h1 3 (by omega) (by omega)
  obtain ⟨v2, i2, g2, e2, a2, b2, p2, q2⟩ := l1Below l hl i1 g1 p1 q1 4 (by omega) (by omega)
  obtain ⟨v3, i3, g3, e3, a3, b3, p3, q3⟩ := l1Below l hl i2 g2 p2 q2 4 (by omega) (by omega)
  obtain ⟨v4, i4, g4, e4, a4, b4, p4, q4⟩ := l1Below l hl i3 g3 p3 q3 2 (by omega) (by omega)
  obtain ⟨v5, i5, g5, e5, a5, b5, p5, q5⟩ := l1Below l hl i4 g4 p4 q4 2 (by omega) (by omega)
  generalize hrc : wrap64 (120 + (wrap64 (10 * v1))) = rc
  generalize hcr : wrap64 (30 + (wrap64 (10 * v2))) = cr
  generalize hvw : wrap64 (50 + (wrap64 (10 * v3))) = vw
  obtain ⟨v6, i6, g6, e6, a6, b6, p6, q6⟩ := l1Below l hl i5 g5 p5 q5 2 (by omega) (by omega)
  have w6 := Aside0.mk (K.wr (x := 2 + v6) (by omega) (by omega))
  obtain ⟨sa, i7, g7, k1, k2, p7, q7, k3⟩ := sky1 l hl 2 rc cr vw v4 60 v5 0 (2 + v6) (by omega) (by omega) (2 + v6).toNat 0 [] i6 g6 (by omega) (by omega) (by omega) (by simp; omega) (by intro x hx; simp at hx) p6 q6
  obtain ⟨v8, i8, g8, e8, a8, b8, p8, q8⟩ := l1Below l hl i7 g7 p7 q7 2 (by omega) (by omega)
  have w8 := Aside0.mk (K.wr (x := 2 + v8) (by omega) (by omega))
  simp at k1
  obtain ⟨sb, i9, g9, m1, m2, p9, q9, m3⟩ := sky1 l hl 2 rc cr vw v4 60 v5 1 (2 + v8) (by omega) (by omega) (2 + v8).toNat 0 sa i8 g8 (by omega) (by omega) (by omega) (by omega) k2 p8 q8
  obtain ⟨v10, i10, g10, e10, a10, b10, p10, q10⟩ := l1Below l hl i9 g9 p9 q9 12 (by omega) (by omega)
  obtain ⟨v11, i11, g11, e11, a11, b11, p11, q11⟩ := l1Below l hl i10 g10 p10 q10 2 (by omega) (by omega)
  obtain ⟨v12, i12, g12, e12, a12, b12, p12, q12⟩ := l1Below l hl i11 g11 p11 q11 12 (by omega) (by omega)
  obtain ⟨v13, i13, g13, e13, p13, q13⟩ := l1Once l hl i12 g12 p12 q12 3 (by omega) (by omega)
  have hsi : ∀ x ∈ ([(⟨0, wrap64 (10 * v10), v11⟩ : S74), (⟨1, wrap64 (180 + (wrap64 (10 * v12))), 0⟩ : S74)] : List S74), i64 x.f0 := by
    intro x hx
    rcases List.mem_cons.1 hx with rfl | hx
    · exact ⟨by show (-9223372036854775808 : Int) ≤ 0; decide, by show (0 : Int) ≤ 9223372036854775807; decide⟩
    · rw [List.mem_singleton] at hx
      subst hx
      exact ⟨by show (-9223372036854775808 : Int) ≤ 1; decide, by show (1 : Int) ≤ 9223372036854775807; decide⟩
  have step : ∀ r, Ev (fun k => spec_l7Sky.l0 k 2 l i9 g9 2 sb rc cr vw v4 60 v5) r → Ev (fun k => spec_l7Sky.f k l i h) r := by
    intro r g
    unfold spec_l7Sky.f
    simp only [e1, e2, e3, e4, e5, Option.bind_some, hrc, hcr, hvw]
    refine K.succ ?_
    simp only [spec_l7Sky.l0, e6, Option.bind_some, w6.out]
    refine K.pos (by omega) (k3 r (K.succ ?_))
    rw [show (0 : Int) + 1 = 1 from rfl]
    simp only [spec_l7Sky.l0, e8, Option.bind_some, w8.out]
    exact K.pos (by omega) (m3 r g)
  cases v13 with
  | false =>
    refine ⟨2, sb, _, rc, cr, vw, v4, 60, [], v5, i13, g13, ⟨⟨by decide, by decide⟩, by omega, rfl, by simp, m2, hsi⟩, by omega, by simp, p13, q13, step _ (K.succ ?_)⟩
    simp only [spec_l7Sky.l0, e10, e11, e12, e13, Option.bind_some]
    exact K.neg (by omega) (K.neg Bool.false_ne_true (Ev.now _))
  | true =>
    obtain ⟨v14, i14, g14, e14, a14, b14, p14, q14⟩ := l1Below l hl i13 g13 p13 q13 2 (by omega) (by omega)
    obtain ⟨v15, i15, g15, e15, a15, b15, p15, q15⟩ := l1Below l hl i14 g14 p14 q14 36 (by omega) (by omega)
    obtain ⟨v16, i16, g16, e16, a16, b16, p16, q16⟩ := l1Below l hl i15 g15 p15 q15 5 (by omega) (by omega)
    refine ⟨2, sb, _, rc, cr, vw, v4, 60, [(⟨v14, ⟨wrap64 (10 * v15), wrap64 (10 * v16)⟩⟩ : S88)], v5, i16, g16, ⟨⟨by decide, by decide⟩, by omega, rfl, ?_, m2, hsi⟩, by omega, ?_, p16, q16, step _ (K.succ ?_)⟩
    rotate_left 2
    · simp only [spec_l7Sky.l0, e10, e11, e12, e13, e14, e15, e16, Option.bind_some]
      exact K.neg (by omega) (K.pos (by trivial) (Ev.now _))
    · simp
    · simp
theorem ten0 (l : List Int) (hl : l.length ≤ 1048576) (pl : Int) (sa : List S72) (si : List S74) (rc cr vw su sh ac : Int) : ∀ (n : Nat) (zo : List S88) (i h : Int), n ≤ 4 → zo.length + n ≤ 8 → 0 ≤ i → i ≤ (l.length : Int) → ∃ (zo' : List S88) (i' h' : Int), zo'.length ≤ 8 ∧ 0 ≤ i' ∧ i' ≤ (l.length : Int) ∧ Ev (fun k => spec_l10Sky.l0 k (n : Int) l i h pl sa si rc cr vw su sh zo ac) (pl, sa, si, rc, cr, vw, su, sh, zo', ac, i', h') := by
  intro n
  induction n with
  | zero =>
    intro zo i h hn hz h0 h1
    refine ⟨zo, i, h, by omega, h0, h1, K.succ ?_⟩
    simp only [spec_l10Sky.l0]
    exact K.neg (by omega) (Ev.now _)
  | succ n ih =>
    intro zo i h hn hz h0 h1
    obtain ⟨v1, i1, g1, e1, a1, b1, p1, q1⟩ := l1Below l hl i h h0 h1 2 (by omega) (by omega)
    obtain ⟨v2, i2, g2, e2, a2, b2, p2, q2⟩ := l1Below l hl i1 g1 p1 q1 36 (by omega) (by omega)
    obtain ⟨v3, i3, g3, e3, a3, b3, p3, q3⟩ := l1Below l hl i2 g2 p2 q2 8 (by omega) (by omega)
    obtain ⟨zo', i4, g4, k1, k2, k3, g⟩ := ih (zo ++ [(⟨v1, ⟨wrap64 (10 * v2), wrap64 (10 * v3)⟩⟩ : S88)]) i3 g3 (by omega) (by rw [List.length_append, List.length_singleton]; omega) p3 q3
    have w := Aside0.mk (K.wr (x := ((n + 1 : Nat) : Int) - 1) (by omega) (by omega))
    rw [show (n : Int) = ((n + 1 : Nat) : Int) - 1 by omega] at g
    refine ⟨zo', i4, g4, k1, k2, k3, K.succ ?_⟩
    simp only [spec_l10Sky.l0, e1, e2, e3, Option.bind_some, w.out]
    exact K.pos (by omega) (K.pos (by omega) g)
theorem l10Sky (l : List Int) (hl : l.length ≤ 1048576) (i h : Int) (h0 : 0 ≤ i) (h1 : i ≤ (l.length : Int)) : ∃ (pl : Int) (sa : List S72) (si : List S74) (rc cr vw su sh : Int) (zo : List S88) (ac i' h' : Int), skyOk pl sa si zo ∧ zo.length ≤ 8 ∧ 0 ≤ i' ∧ i' ≤ (l.length : Int) ∧ Ev (fun k => spec_l10Sky.f k l i h) (pl, sa, si, rc, cr, vw, su, sh, zo, ac, i', h') := by
  obtain ⟨pl, sa, si, rc, cr, vw, su, sh, zo, ac, i1, g1, ⟨o1, o2, o3, o4, o5, o6⟩, hs, hz, p1, q1, e1⟩ := l7Sky l hl i h h0 h1
  obtain ⟨v2, i2, g2, e2, a2, b2, p2, q2⟩ := l1Below l hl i1 g1 p1 q1 3 (by omega) (by omega)
  obtain ⟨zo', i3, g3, k1, k2, k3, g⟩ := ten0 l hl pl sa si rc cr vw su sh ac v2.toNat [] i2 g2 (by omega) (by simp; omega) p2 q2
  rw [show ((v2.toNat : Nat) : Int) = v2 by omega] at g
  refine ⟨pl, sa, si, rc, cr, vw, su, sh, zo', ac, i3, g3, ⟨o1, o2, o3, by omega, o5, o6⟩, k1, k2, k3, ?_⟩
  unfold spec_l10Sky.f
  exact Ev.bind e1 (K.known e2 g)
theorem drawQuiet (l : List Int) (hl : l.length ≤ 1048576) : ∃ (pl : Int) (sa : List S72) (si : List S74) (rc cr vw su sh : Int) (zo : List S88) (ac a f t : Int), skyOk pl sa si zo ∧ -2 ≤ f ∧ f ≤ 17 ∧ t ≤ 57 ∧ 0 ≤ a ∧ a < 8 ∧ Ev (fun k => spec_DrawQuietSpans.f k l) (pl, sa, si, rc, cr, vw, su, sh, zo, ac, a, f, t) := by
  obtain ⟨h, e0⟩ := l1New l hl
  obtain ⟨pl, sa, si, rc, cr, vw, su, sh, zo, ac, i1, g1, ok, hz, p1, q1, e1⟩ := l10Sky l hl 0 h (by omega) (by omega)
  obtain ⟨v2, i2, g2, e2, a2, b2, p2, q2⟩ := l1Below l hl i1 g1 p1 q1 8 (by omega) (by omega)
  obtain ⟨v4, i4, g4, e4, a4, b4, p4, q4⟩ := l1Below l hl i2 g2 p2 q2 20 (by omega) (by omega)
  obtain ⟨v5, i5, g5, e5, a5, b5, p5, q5⟩ := l1Below l hl i4 g4 p4 q4 40 (by omega) (by omega)
  refine ⟨pl, sa, si, rc, cr, vw, su, sh, zo, ac, v2, v4 - 2, v4 - 2 + v5, ok, by omega, by omega, by omega, a2, b2, ?_⟩
  unfold spec_DrawQuietSpans.f
  refine Ev.bind e0 (Ev.bind e1 (K.known e2 (K.known e4 (K.known e5 ?_))))
  dsimp only
  rw [K.wr (x := v4 - 2) (by omega) (by omega), K.wr (x := v4 - 2 + v5) (by omega) (by omega)]
  exact Ev.now _
theorem drawSpeak (l : List Int) (hl : l.length ≤ 1048576) : ∃ (pl : Int) (sa : List S72) (si : List S74) (rc cr vw su sh : Int) (zo : List S88) (ac a b f t : Int), skyOk pl sa si zo ∧ -2 ≤ f ∧ f ≤ 17 ∧ t ≤ 57 ∧ 0 ≤ a ∧ a < 8 ∧ 0 ≤ b ∧ b < 8 ∧ Ev (fun k => spec_DrawSpeakingSpans.f k l) (pl, sa, si, rc, cr, vw, su, sh, zo, ac, a, b, f, t) := by
  obtain ⟨h, e0⟩ := l1New l hl
  obtain ⟨pl, sa, si, rc, cr, vw, su, sh, zo, ac, a, f, t, ok, h1, h2, h3, h4, h5, e⟩ := drawQuiet l hl
  obtain ⟨v2, i2, g2, e2, a2, b2, p2, q2⟩ := l1Below l hl 0 h (by omega) (by omega) 8 (by omega) (by omega)
  refine ⟨pl, sa, si, rc, cr, vw, su, sh, zo, ac, a, v2, f, t, ok, h1, h2, h3, h4, h5, a2, b2, ?_⟩
  unfold spec_DrawSpeakingSpans.f
  exact Ev.bind e (Ev.bind e0 (K.known e2 (Ev.now _)))
theorem l5Angle (l : List Int) (hl : l.length ≤ 1048576) (i h : Int) (h0 : 0 ≤ i) (h1 : i ≤ (l.length : Int)) : ∃ v i' h', spec_l5Angle.f l i h = some (v, i', h') ∧ 0 ≤ i' ∧ i' ≤ (l.length : Int) := by
  obtain ⟨b, i1, g1, e1, p1, q1⟩ := l1Once l hl i h h0 h1 6 (by omega) (by omega)
  unfold spec_l5Angle.f
  simp only [e1, Option.bind_some]
  cases b with
  | true =>
    obtain ⟨v, i2, g2, e2, m2, p2, q2⟩ := l1Int l hl i1 g1 p1 q1 [(-1), (-360), (-361), 359, 360, 361, 9223372036854775807, (-9223372036854775808)] (by decide) (by decide)
    exact ⟨v, i2, g2, by rw [if_pos rfl, e2]; rfl, p2, q2⟩
  | false =>
    have hb : ∃ v i' h', spec_l1Below.f l i1 g1 360 = some (v, i', h') ∧ 0 ≤ i' ∧ i' ≤ (l.length : Int) := by
      obtain ⟨x, i2, g2, e2, a2, b2, p2, q2⟩ := l1Byte l hl i1 g1 p1 q1
      obtain ⟨y, i3, g3, e3, a3, b3, p3, q3⟩ := l1Byte l hl i2 g2 p2 q2
      obtain ⟨z, i4, g4, e4, a4, b4, p4, q4⟩ := l1Byte l hl i3 g3 p3 q3
      unfold spec_l1Below.f
      rw [if_neg (by decide), if_neg (by decide), e2]
      simp only [Option.bind_some, e3, e4]
      exact ⟨_, i4, g4, by first | rfl | (rw [if_neg (by decide)]), p4, q4⟩
    obtain ⟨v, i2, g2, e2, p2, q2⟩ := hb
    exact ⟨v, i2, g2, by rw [if_neg Bool.false_ne_true, e2]; rfl, p2, q2⟩
theorem l5Arc (l : List Int) (hl : l.length ≤ 1048576) (i h : Int) (h0 : 0 ≤ i) (h1 : i ≤ (l.length : Int)) : ∃ v u i' h', spec_l5Arc.f l i h = some (v, u, i', h') ∧ 0 ≤ i' ∧ i' ≤ (l.length : Int) := by
  obtain ⟨v1, i1, g1, e1, p1, q1⟩ := l5Angle l hl i h h0 h1
  obtain ⟨v2, i2, g2, e2, a2, b2, p2, q2⟩ := l1Below l hl i1 g1 p1 q1 80 (by omega) (by omega)
  obtain ⟨b, i3, g3, e3, p3, q3⟩ := l1Once l hl i2 g2 p2 q2 6 (by omega) (by omega)
  unfold spec_l5Arc.f
  simp only [e1, e2, e3, Option.bind_some]
  cases b with
  | true =>
    obtain ⟨v, i4, g4, e4, m4, p4, q4⟩ := l1Int l hl i3 g3 p3 q3 [(-1), 0, 359, 360, 9223372036854775807] (by decide) (by decide)
    exact ⟨v1, v, i4, g4, by rw [if_pos rfl, e4]; rfl, p4, q4⟩
  | false => exact ⟨v1, v2, i3, g3, by rw [if_neg Bool.false_ne_true], p3, q3⟩
theorem l6Any (l : List Int) (hl : l.length ≤ 1048576) (i h : Int) (h0 : 0 ≤ i) (h1 : i ≤ (l.length : Int)) : ∃ a b c d i' h', spec_l6Any.f l i h = some (a, b, c, d, i', h') ∧ i64 a ∧ -1 ≤ d ∧ d ≤ 21 ∧ 0 ≤ i' ∧ i' ≤ (l.length : Int) := by
  obtain ⟨v1, i1, g1, e1, a1, b1, p1, q1⟩ := l1Below l hl i h h0 h1 3 (by omega) (by omega)
  obtain ⟨v2, i2, g2, e2, a2, b2, p2, q2⟩ := l1Below l hl i1 g1 p1 q1 12 (by omega) (by omega)
  obtain ⟨v3, i3, g3, e3, m3, p3, q3⟩ := l1Int l hl i2 g2 p2 q2 [5, 10, 12, (-10), 0] (by decide) (by decide)
  obtain ⟨v4, i4, g4, e4, a4, b4, p4, q4⟩ := l1Below l hl i3 g3 p3 q3 3 (by omega) (by omega)
  obtain ⟨v5, i5, g5, e5, a5, b5, p5, q5⟩ := l1Below l hl i4 g4 p4 q4 9 (by omega) (by omega)
  have ha : i64 v1 := ⟨by omega, by omega⟩
  unfold spec_l6Any.f spec_l6Draw.f
  simp only [e1, e2, e3, e4, e5, Option.bind_some]
  by_cases c0 : v5 = 0
  · obtain ⟨v, i6, g6, e6, m6, p6, q6⟩ := l1Int l hl i5 g5 p5 q5 [(-1), 3, 9223372036854775807] (by decide) (by decide)
    refine ⟨v, _, v3, v4, i6, g6, by rw [if_pos c0, e6]; rfl, ?_, by omega, by omega, p6, q6⟩
    simp at m6
    rcases m6 with rfl | rfl | rfl <;> exact ⟨by decide, by decide⟩
  by_cases c1 : v5 = 1
  · obtain ⟨v, i6, g6, e6, p6, q6⟩ := l5Angle l hl i5 g5 p5 q5
    exact ⟨v1, v, v3, v4, i6, g6, by rw [if_neg c0, if_pos c1, e6]; rfl, ha, by omega, by omega, p6, q6⟩
  by_cases c2 : v5 = 2
  · obtain ⟨v, i6, g6, e6, m6, p6, q6⟩ := l1Int l hl i5 g5 p5 q5 [60, 61, (-60), (-61), 9223372036854775807] (by decide) (by decide)
    exact ⟨v1, _, v, v4, i6, g6, by rw [if_neg c0, if_neg c1, if_pos c2, e6]; rfl, ha, by omega, by omega, p6, q6⟩
  by_cases c3 : v5 = 3
  · obtain ⟨v, i6, g6, e6, m6, p6, q6⟩ := l1Int l hl i5 g5 p5 q5 [(-1), 20, 21] (by decide) (by decide)
    refine ⟨v1, _, v3, v, i6, g6, by rw [if_neg c0, if_neg c1, if_neg c2, if_pos c3, e6]; rfl, ha, ?_, ?_, p6, q6⟩
    · simp at m6
      omega
    · simp at m6
      omega
  · exact ⟨v1, _, v3, v4, i5, g5, by rw [if_neg c0, if_neg c1, if_neg c2, if_neg c3], ha, by omega, by omega, p5, q5⟩
theorem l7Any (l : List Int) (hl : l.length ≤ 1048576) (i h : Int) (h0 : 0 ≤ i) (h1 : i ≤ (l.length : Int)) : ∃ (pl : Int) (sa : List S72) (si : List S74) (rc cr vw su sh : Int) (zo : List S88) (ac i' h' : Int), skyOk pl sa si zo ∧ 0 ≤ i' ∧ i' ≤ (l.length : Int) ∧ Ev (fun k => spec_l7Any.f k l i h) (pl, sa, si, rc, cr, vw, su, sh, zo, ac, i', h') := by
  obtain ⟨pl, sa, si, rc, cr, vw, su, sh, zo, ac, i1, g1, ok, hs, hz8, p1, q1, e1⟩ := l7Sky l hl i h h0 h1
  obtain ⟨v, i2, g2, e2, a2, b2, p2, q2⟩ := l1Below l hl i1 g1 p1 q1 12 (by omega) (by omega)
  have ok' := ok
  obtain ⟨o1, o2, o3, o4, o5, o6⟩ := ok
  unfold spec_l7Any.f
  by_cases c0 : v = 0
  · obtain ⟨u, i3, g3, e3, m3, p3, q3⟩ := l1Int l hl i2 g2 p2 q2 [0, 1, 4, 5, (-9223372036854775808)] (by decide) (by decide)
    refine ⟨u, sa, si, rc, cr, vw, su, sh, zo, ac, i3, g3, ⟨?_, o2, o3, o4, o5, o6⟩, p3, q3, Ev.bind e1 (K.known e2 (K.pos c0 (K.known e3 (Ev.now _))))⟩
    simp at m3
    unfold i64
    omega
  by_cases c1 : v = 1
  · obtain ⟨a, b, c, d, i3, g3, e3, m1, m2, m3, p3, q3⟩ := l6Any l hl i2 g2 p2 q2
    refine ⟨pl, sa.set (0 : Int).toNat ⟨a, b, c, d⟩, si, rc, cr, vw, su, sh, zo, ac, i3, g3, ⟨o1, by rw [List.length_set]; exact o2, o3, o4, ?_, o6⟩, p3, q3, Ev.bind e1 (K.known e2 (K.neg c0 (K.pos c1 (K.known e3 (K.pos (by show 0 < (sa.length : Int); omega) (Ev.now _))))))⟩
    intro x hx
    rcases List.mem_or_eq_of_mem_set hx with hx | rfl
    · exact o5 x hx
    · exact ⟨m1, m2, m3⟩
  by_cases c2 : v = 2
  · obtain ⟨u, i3, g3, e3, p3, q3⟩ := l5Angle l hl i2 g2 p2 q2
    refine ⟨pl, sa, si.set (0 : Int).toNat ⟨(rd_T74 si 0).f0, u, (rd_T74 si 0).f2⟩, rc, cr, vw, su, sh, zo, ac, i3, g3, ⟨o1, o2, by rw [List.length_set]; exact o3, o4, o5, ?_⟩, p3, q3, Ev.bind e1 (K.known e2 (K.neg c0 (K.neg c1 (K.pos c2 (K.known e3 (K.pos (by show 0 < (si.length : Int); omega) (Ev.now _)))))))⟩
    intro x hx
    rcases List.mem_or_eq_of_mem_set hx with hx | rfl
    · exact o6 x hx
    · refine o6 (rd_T74 si 0) ?_
      simp only [rd_T74, List.getD_eq_getElem?_getD, List.getElem?_eq_getElem (show (0 : Int).toNat < si.length by rw [o3]; decide), Option.getD_some]
      exact List.getElem_mem _
  by_cases c3 : v = 3
  · obtain ⟨u, i3, g3, e3, m3, p3, q3⟩ := l1Int l hl i2 g2 p2 q2 [(-1), 180, 181] (by decide) (by decide)
    exact ⟨pl, sa, si, u, cr, vw, su, sh, zo, ac, i3, g3, ok', p3, q3, Ev.bind e1 (K.known e2 (K.neg c0 (K.neg c1 (K.neg c2 (K.pos c3 (K.known e3 (Ev.now _)))))))⟩
  by_cases c4 : v = 4
  · obtain ⟨u, i3, g3, e3, m3, p3, q3⟩ := l1Int l hl i2 g2 p2 q2 [(-1), 20, 21] (by decide) (by decide)
    exact ⟨pl, sa, si, rc, cr, vw, su, sh, zo, u, i3, g3, ok', p3, q3, Ev.bind e1 (K.known e2 (K.neg c0 (K.neg c1 (K.neg c2 (K.neg c3 (K.pos c4 (K.known e3 (Ev.now _))))))))⟩
  by_cases c5 : v = 5
  · obtain ⟨u, i3, g3, e3, a3, b3, p3, q3⟩ := l1Below l hl i2 g2 p2 q2 3 (by omega) (by omega)
    obtain ⟨x, y, i4, g4, e4, p4, q4⟩ := l5Arc l hl i3 g3 p3 q3
    have hz : zo.length < 5864062014805 := by omega
    refine ⟨pl, sa, si, rc, cr, vw, su, sh, zo ++ [⟨u, ⟨x, y⟩⟩], ac, i4, g4, ⟨o1, o2, o3, ?_, o5, o6⟩, p4, q4, Ev.bind e1 (K.known e2 (K.neg c0 (K.neg c1 (K.neg c2 (K.neg c3 (K.neg c4 (K.pos c5 (K.known e3 (K.known e4 (K.pos hz (Ev.now _)))))))))))⟩
    rw [List.length_append, List.length_singleton]
    omega
  by_cases c6 : v = 6
  · exact ⟨pl, [], si, rc, cr, vw, su, sh, zo, ac, i2, g2, ⟨o1, by simp, o3, o4, by simp, o6⟩, p2, q2, Ev.bind e1 (K.known e2 (K.neg c0 (K.neg c1 (K.neg c2 (K.neg c3 (K.neg c4 (K.neg c5 (K.pos c6 (Ev.now _)))))))))⟩
  by_cases c7 : v = 7
  · obtain ⟨u, i3, g3, e3, m3, p3, q3⟩ := l1Int l hl i2 g2 p2 q2 [61, (-60)] (by decide) (by decide)
    exact ⟨pl, sa, si, rc, cr, vw, u, sh, zo, ac, i3, g3, ok', p3, q3, Ev.bind e1 (K.known e2 (K.neg c0 (K.neg c1 (K.neg c2 (K.neg c3 (K.neg c4 (K.neg c5 (K.neg c6 (K.pos c7 (K.known e3 (Ev.now _)))))))))))⟩
  · exact ⟨pl, sa, si, rc, cr, vw, su, sh, zo, ac, i2, g2, ok', p2, q2, Ev.bind e1 (K.known e2 (K.neg c0 (K.neg c1 (K.neg c2 (K.neg c3 (K.neg c4 (K.neg c5 (K.neg c6 (K.neg c7 (Ev.now _))))))))))⟩
theorem minI (a b : Int) : ∃ v, spec_Min.f a b = some v ∧ v ≤ a ∧ v ≤ b ∧ (v = a ∨ v = b) := by
  unfold spec_Min.f
  split
  · exact ⟨b, rfl, by omega, by omega, .inr rfl⟩
  · exact ⟨a, rfl, by omega, by omega, .inl rfl⟩
theorem plan2 (l : List Int) (hl : l.length ≤ 1048576) (a b : Int) (hb0 : 0 ≤ b) (hb : b ≤ 4) : ∀ (n : Nat) (t : Int) (out : List S53) (i h : Int), 0 ≤ i → i ≤ (l.length : Int) → 0 ≤ t → t ≤ 100 → n ≤ 2 → out.length + n ≤ 200 → ∃ (out' : List S53) (i' h' : Int), out'.length ≤ out.length + n ∧ 0 ≤ i' ∧ i' ≤ (l.length : Int) ∧ ∀ r, Ev (fun k => spec_l11Plan.l1 k 4 20 out' a (b + 1) l i' h') r → Ev (fun k => spec_l11Plan.l2 k 4 20 out a b t (n : Int) l i h) r := by
  intro n
  induction n with
  | zero =>
    intro t out i h h0 h1 t0 t1 hn ho
    have w1 := Aside0.mk (K.wr (x := b + 1) (by omega) (by omega))
    refine ⟨out, i, h, by omega, h0, h1, fun r g => K.succ ?_⟩
    simp only [spec_l11Plan.l2]
    refine K.neg (by omega) (K.succ ?_)
    simp only [spec_l11Plan.j3, w1.out]
    exact K.neg Bool.false_ne_true g
  | succ n ih =>
    intro t out i h h0 h1 t0 t1 hn ho
    have w1 := Aside0.mk (K.wr (x := b + 1) (by omega) (by omega))
    by_cases c : t < 20
    · obtain ⟨v1, i1, g1, e1, a1, b1, p1, q1⟩ := l1Below l hl i h h0 h1 9 (by omega) (by omega)
      have w2 := Aside0.mk (K.wr (x := t + 2) (by omega) (by omega))
      have w3 := Aside0.mk (K.wr (x := t + 2 + v1) (by omega) (by omega))
      obtain ⟨e, e2, m1, m2, m3⟩ := minI 20 (t + 2 + v1)
      obtain ⟨v2, i2, g2, e3, a3, b3, p2, q2⟩ := l1Below l hl i1 g1 p1 q1 6 (by omega) (by omega)
      have w4 := Aside0.mk (K.wr (x := e + 1) (by omega) (by omega))
      have w5 := Aside0.mk (K.wr (x := e + 1 + v2) (by omega) (by omega))
      have w6 := Aside0.mk (K.wr (x := ((n + 1 : Nat) : Int) - 1) (by omega) (by omega))
      obtain ⟨out', i', h', k1, k2, k3, k4⟩ := ih (e + 1 + v2) (out ++ [⟨a, b, t, e⟩]) i2 g2 p2 q2 (by omega) (by omega) (by omega) (by simp; omega)
      refine ⟨out', i', h', by simp at k1; omega, k2, k3, fun r g => K.succ ?_⟩
      have g := k4 r g
      rw [show (n : Int) = ((n + 1 : Nat) : Int) - 1 by omega] at g
      simp only [spec_l11Plan.l2]
      refine K.pos (by omega) ?_
      rw [show decide (t < 20) = true from decide_eq_true c]
      refine K.succ ?_
      simp only [spec_l11Plan.j3, e1, Option.bind_some, w2.out, w3.out, e2, e3, w4.out, w5.out, w6.out]
      exact K.pos trivial (K.pos (by omega) g)
    · refine ⟨out, i, h, by omega, h0, h1, fun r g => K.succ ?_⟩
      simp only [spec_l11Plan.l2]
      refine K.pos (by omega) ?_
      rw [show decide (t < 20) = false from decide_eq_false c]
      refine K.succ ?_
      simp only [spec_l11Plan.j3, w1.out]
      exact K.neg Bool.false_ne_true g
theorem plan1 (l : List Int) (hl : l.length ≤ 1048576) (a : Int) (ha0 : 0 ≤ a) (ha : a ≤ 4) : ∀ (d : Nat) (b : Int) (out : List S53) (i h : Int), 4 - b = d → 0 ≤ b → 0 ≤ i → i ≤ (l.length : Int) → out.length + 2 * d ≤ 200 → ∃ (out' : List S53) (i' h' : Int), out'.length ≤ out.length + 2 * d ∧ 0 ≤ i' ∧ i' ≤ (l.length : Int) ∧ ∀ r, Ev (fun k => spec_l11Plan.l0 k 4 20 out' (a + 1) l i' h') r → Ev (fun k => spec_l11Plan.l1 k 4 20 out a b l i h) r := by
  intro d
  induction d with
  | zero =>
    intro b out i h hd hb h0 h1 ho
    have w1 := Aside0.mk (K.wr (x := a + 1) (by omega) (by omega))
    refine ⟨out, i, h, by omega, h0, h1, fun r g => K.succ ?_⟩
    simp only [spec_l11Plan.l1, w1.out]
    exact K.neg (by omega) g
  | succ d ih =>
    intro b out i h hd hb h0 h1 ho
    obtain ⟨v1, i1, g1, e1, a1, b1, p1, q1⟩ := l1Below l hl i h h0 h1 5 (by omega) (by omega)
    obtain ⟨v2, i2, g2, e2, a2, b2, p2, q2⟩ := l1Below l hl i1 g1 p1 q1 3 (by omega) (by omega)
    obtain ⟨o1, i3, g3, k1, k2, k3, k4⟩ := plan2 l hl a b hb (by omega) v2.toNat v1 out i2 g2 p2 q2 a1 (by omega) (by omega) (by omega)
    obtain ⟨o2, i4, g4, m1, m2, m3, m4⟩ := ih (b + 1) o1 i3 g3 (by omega) (by omega) k2 k3 (by omega)
    refine ⟨o2, i4, g4, by omega, m2, m3, fun r g => K.succ ?_⟩
    have g := k4 r (m4 r g)
    rw [show ((v2.toNat : Nat) : Int) = v2 by omega] at g
    simp only [spec_l11Plan.l1, e1, e2, Option.bind_some]
    exact K.pos (by omega) g
theorem plan0 (l : List Int) (hl : l.length ≤ 1048576) : ∀ (d : Nat) (a : Int) (out : List S53) (i h : Int), 4 - a = d → 0 ≤ a → 0 ≤ i → i ≤ (l.length : Int) → out.length + 8 * d ≤ 100 → ∃ (out' : List S53) (i' h' : Int), out'.length ≤ 100 ∧ 0 ≤ i' ∧ i' ≤ (l.length : Int) ∧ Ev (fun k => spec_l11Plan.l0 k 4 20 out a l i h) (out', i', h') := by
  intro d
  induction d with
  | zero =>
    intro a out i h hd ha h0 h1 ho
    refine ⟨out, i, h, by omega, h0, h1, K.succ ?_⟩
    simp only [spec_l11Plan.l0]
    exact K.neg (by omega) (Ev.now _)
  | succ d ih =>
    intro a out i h hd ha h0 h1 ho
    have w1 := Aside0.mk (K.wr (x := a + 1) (by omega) (by omega))
    obtain ⟨o1, i1, g1, k1, k2, k3, k4⟩ := plan1 l hl a ha (by omega) (4 - (a + 1)).toNat (a + 1) out i h (by omega) (by omega) h0 h1 (by omega)
    obtain ⟨o2, i2, g2, m1, m2, m3, m4⟩ := ih (a + 1) o1 i1 g1 (by omega) (by omega) k2 k3 (by omega)
    refine ⟨o2, i2, g2, m1, m2, m3, K.succ ?_⟩
    simp only [spec_l11Plan.l0, w1.out]
    exact K.pos (by omega) (k4 _ m4)
theorem l11Any (l : List Int) (hl : l.length ≤ 1048576) (i h : Int) (h0 : 0 ≤ i) (h1 : i ≤ (l.length : Int)) : ∃ (L : List S53) (i' h' : Int), L.length ≤ 200 ∧ 0 ≤ i' ∧ i' ≤ (l.length : Int) ∧ Ev (fun k => spec_l11Any.f k l i h) (L, i', h') := by
  obtain ⟨L, i1, g1, p0, p1, q1, e0⟩ := plan0 l hl 4 0 [] i h (by omega) (by omega) h0 h1 (by simp)
  have e0 : Ev (fun k => spec_l11Plan.f k l i h 4 20) (L, i1, g1) := by unfold spec_l11Plan.f; exact e0
  unfold spec_l11Any.f
  by_cases c : (L.length : Int) = 0
  · exact ⟨L, i1, g1, by omega, p1, q1, Ev.bind e0 (K.pos c (Ev.now _))⟩
  obtain ⟨v2, i2, g2, e2, a2, b2, p2, q2⟩ := l1Below l hl i1 g1 p1 q1 (L.length : Int) (by omega) (by omega)
  obtain ⟨v3, i3, g3, e3, a3, b3, p3, q3⟩ := l1Below l hl i2 g2 p2 q2 8 (by omega) (by omega)
  by_cases c0 : v3 = 0
  · obtain ⟨v4, i4, g4, e4, a4, b4, p4, q4⟩ := l1Below l hl i3 g3 p3 q3 5 (by omega) (by omega)
    exact ⟨_, i4, g4, by rw [List.length_set]; show L.length ≤ 200; omega, p4, q4, Ev.bind e0 (K.neg c (K.known e2 (K.known e3 (K.pos c0 (K.known e4 (K.pos a2 (K.pos b2 (Ev.now _))))))))⟩
  by_cases c1 : v3 = 1
  · obtain ⟨v4, i4, g4, e4, p4, q4⟩ := l4Raw l hl i3 g3 p3 q3
    exact ⟨_, i4, g4, by rw [List.length_set]; show L.length ≤ 200; omega, p4, q4, Ev.bind e0 (K.neg c (K.known e2 (K.known e3 (K.neg c0 (K.pos c1 (K.known e4 (K.pos a2 (K.pos b2 (Ev.now _)))))))))⟩
  by_cases c2 : v3 = 2
  · exact ⟨_, i3, g3, by rw [List.length_append, List.length_singleton]; show L.length + 1 ≤ 200; omega, p3, q3, Ev.bind e0 (K.neg c (K.known e2 (K.known e3 (K.neg c0 (K.neg c1 (K.pos c2 (K.pos a2 (K.pos b2 (K.pos (by show L.length < 4398046511104; omega) (Ev.now _))))))))))⟩
  by_cases c3 : v3 = 3
  · obtain ⟨v4, i4, g4, e4, m4, p4, q4⟩ := l1Int l hl i3 g3 p3 q3 [(-1), 4, 9223372036854775807] (by decide) (by decide)
    exact ⟨_, i4, g4, by rw [List.length_set]; show L.length ≤ 200; omega, p4, q4, Ev.bind e0 (K.neg c (K.known e2 (K.known e3 (K.neg c0 (K.neg c1 (K.neg c2 (K.pos c3 (K.known e4 (K.pos a2 (K.pos b2 (Ev.now _)))))))))))⟩
  · exact ⟨L, i3, g3, by omega, p3, q3, Ev.bind e0 (K.neg c (K.known e2 (K.known e3 (K.neg c0 (K.neg c1 (K.neg c2 (K.neg c3 (Ev.now _))))))))⟩

theorem drawCon (l : List Int) (hl : l.length ≤ 1048576) : ∃ (pl : Int) (sa : List S72) (si : List S74) (rc cr vw su sh : Int) (zo : List S88) (ac a b f t : Int), skyOk pl sa si zo ∧ -2 ≤ f ∧ f ≤ 17 ∧ t ≤ 57 ∧ 0 ≤ a ∧ a < 8 ∧ 0 ≤ b ∧ b < 8 ∧ Ev (fun k => spec_DrawContactsOf.f k l) (pl, sa, si, rc, cr, vw, su, sh, zo, ac, a, b, f, t) := by
  obtain ⟨h, e0⟩ := l1New l hl
  obtain ⟨pl, sa, si, rc, cr, vw, su, sh, zo, ac, a, b, f, t, ok, h1, h2, h3, h4, h5, h6, h7, e⟩ := drawSpeak l hl
  obtain ⟨v, i2, g2, e2, p2, q2⟩ := l1Once l hl 0 h (by omega) (by omega) 10 (by omega) (by omega)
  cases v with
  | false =>
    refine ⟨pl, sa, si, rc, cr, vw, su, sh, zo, ac, a, b, f, t, ok, h1, h2, h3, h4, h5, h6, h7, ?_⟩
    unfold spec_DrawContactsOf.f
    exact Ev.bind e (Ev.bind e0 (K.known e2 (K.neg Bool.false_ne_true (Ev.now _))))
  | true =>
    obtain ⟨pl', sa', si', rc', cr', vw', su', sh', zo', ac', i3, g3, ok', p3, q3, e3⟩ := l7Any l hl i2 g2 p2 q2
    refine ⟨pl', sa', si', rc', cr', vw', su', sh', zo', ac', a, b, f, t, ok', h1, h2, h3, h4, h5, h6, h7, ?_⟩
    unfold spec_DrawContactsOf.f
    exact Ev.bind e (Ev.bind e0 (K.known e2 (K.pos (by trivial) (Ev.bind e3 (Ev.now _)))))
theorem drawPl (l : List Int) (hl : l.length ≤ 1048576) : ∃ (pl : Int) (sa : List S72) (si : List S74) (rc cr vw su sh : Int) (zo : List S88) (ac f t : Int), skyOk pl sa si zo ∧ -2 ≤ f ∧ f ≤ 17 ∧ t ≤ 57 ∧ Ev (fun k => spec_DrawPlanOf.f k l) (pl, sa, si, rc, cr, vw, su, sh, zo, ac, f, t) := by
  obtain ⟨h, e0⟩ := l1New l hl
  obtain ⟨pl, sa, si, rc, cr, vw, su, sh, zo, ac, i1, g1, ok, hz, p1, q1, e1⟩ := l10Sky l hl 0 h (by omega) (by omega)
  obtain ⟨v4, i4, g4, e4, a4, b4, p4, q4⟩ := l1Below l hl i1 g1 p1 q1 20 (by omega) (by omega)
  obtain ⟨v5, i5, g5, e5, a5, b5, p5, q5⟩ := l1Below l hl i4 g4 p4 q4 30 (by omega) (by omega)
  refine ⟨pl, sa, si, rc, cr, vw, su, sh, zo, ac, v4 - 2, v4 - 2 + v5, ok, by omega, by omega, by omega, ?_⟩
  unfold spec_DrawPlanOf.f
  refine Ev.bind e0 (Ev.bind e1 (K.known e4 (K.known e5 ?_)))
  dsimp only
  rw [K.wr (x := v4 - 2) (by omega) (by omega), K.wr (x := v4 - 2 + v5) (by omega) (by omega)]
  exact Ev.now _
theorem drawCan (l : List Int) (hl : l.length ≤ 1048576) : ∃ (L : List S53) (a b t : Int), L.length ≤ 200 ∧ Ev (fun k => spec_DrawCanSpeak.f k l) (L, a, b, t) := by
  obtain ⟨h, e0⟩ := l1New l hl
  obtain ⟨L, i1, g1, k1, p1, q1, e1⟩ := l11Any l hl 0 h (by omega) (by omega)
  obtain ⟨v2, i2, g2, e2, a2, b2, p2, q2⟩ := l1Below l hl i1 g1 p1 q1 5 (by omega) (by omega)
  obtain ⟨v3, i3, g3, e3, a3, b3, p3, q3⟩ := l1Below l hl i2 g2 p2 q2 5 (by omega) (by omega)
  obtain ⟨v4, i4, g4, e4, a4, b4, p4, q4⟩ := l1Below l hl i3 g3 p3 q3 24 (by omega) (by omega)
  refine ⟨L, wrap64 (v2 - 1), wrap64 (v3 - 1), wrap64 (v4 - 1), k1, ?_⟩
  unfold spec_DrawCanSpeak.f
  exact Ev.bind e0 (Ev.bind e1 (K.known e2 (K.known e3 (K.known e4 (Ev.now _)))))
def shf (st : Int) (l : List S82) : List S82 := (l.filter fun s => decide (s.f0 + st < s.f1)).map fun s => ⟨s.f0 + st, s.f1⟩
theorem iShort (st : Int) (h0 : 0 ≤ st) (h1 : st ≤ 1000) : ∀ (q p o : List S82), wide (p ++ q) → p.length + q.length ≤ 1000 → o.length ≤ p.length → Ev (fun k => impl_ShortenSpans.l0 k st 0 o (p ++ q) ((p ++ q).length : Int) (p.length : Int)) (o ++ shf st q)
  | [], p, o, hw, hl, ho => by
    rw [show o ++ shf st [] = o by simp [shf]]
    refine K.succ ?_
    simp only [impl_ShortenSpans.l0]
    exact K.neg (by simp) (Ev.now _)
  | s :: q, p, o, hw, hl, ho => by
    simp at hl
    obtain ⟨s0, s1, s2⟩ := hw s (by simp)
    have hr : rd_T82 (p ++ s :: q) (p.length : Int) = s := by simp [rd_T82, List.getD_eq_getElem?_getD]
    have w1 := Aside0.mk (K.wr (x := (p.length : Int) + 1) (by omega) (by omega))
    have w2 := Aside0.mk (K.wr (x := s.f0 + st) (by omega) (by omega))
    have w3 := Aside0.mk (K.wr (x := s.f1) (by omega) (by omega))
    have e2 : p ++ s :: q = (p ++ [s]) ++ q := by simp
    have e3 : (p.length : Int) + 1 = ((p ++ [s]).length : Int) := by simp
    by_cases c : s.f0 + st < s.f1
    · have hs : shf st (s :: q) = ⟨s.f0 + st, s.f1⟩ :: shf st q := by simp [shf, c]
      have g2 := iShort st h0 h1 q (p ++ [s]) (o ++ [⟨s.f0 + st, s.f1⟩]) (by rw [← e2]; exact hw) (by simp; omega) (by simp; omega)
      rw [← e2, ← e3, List.append_assoc, List.singleton_append, ← hs] at g2
      refine K.succ ?_
      simp only [impl_ShortenSpans.l0, hr, w1.out, w2.out, w3.out, Int.sub_zero]
      exact K.pos (by simp; omega) (K.pos (by omega) (K.pos (by simp; omega) (K.pos c (K.pos (by omega) g2))))
    · have hs : shf st (s :: q) = shf st q := by simp [shf, c]
      have g2 := iShort st h0 h1 q (p ++ [s]) o (by rw [← e2]; exact hw) (by simp; omega) (by simp; omega)
      rw [← e2, ← e3, ← hs] at g2
      refine K.succ ?_
      simp only [impl_ShortenSpans.l0, hr, w1.out, w2.out, w3.out, Int.sub_zero]
      exact K.pos (by simp; omega) (K.pos (by omega) (K.pos (by simp; omega) (K.neg c g2)))
theorem shf_len (st : Int) (l : List S82) : (shf st l).length ≤ l.length := by
  unfold shf
  rw [List.length_map]
  exact List.length_filter_le _ _
def jn (u : List S82) : List S82 := run (inl u) [] 0 1000
theorem jn_len (u : List S82) : (jn u).length ≤ 1000 := by
  unfold jn
  exact Nat.le_trans (run_len _ 1000 [] 0) (by simp)
theorem jn_ok (u : List S82) : ∀ s ∈ jn u, vs s = true := by
  unfold jn
  exact (run_ok (inl u) 0 1000 [] 0 (by omega) (by omega) (by simp)).1
theorem jn_in (u : List S82) (t : Int) (h0 : 0 ≤ t) (h1 : t < 1000) : inl (jn u) t = inl u t := by
  unfold jn
  exact inl_all (inl u) t h0 h1
theorem jn_apart (u : List S82) : (jn u).Pairwise fun a b => a.f1 < b.f0 := by
  unfold jn
  exact run_apart (inl u) 1000 [] 0 (by omega) (by omega) (by simp) (by simp) (by simp)
theorem iJn (l : List S82) (hl : l.length ≤ 2097152) : Ev (fun k => impl_JoinSpans.f k l) (jn l) := by
  unfold jn
  exact iJoin l hl
theorem jn_wide (u : List S82) : wide (jn u) := by
  unfold jn
  exact wide_run _ 1000 [] 0 (by omega) (by omega) (by intro s hs; simp at hs)
theorem iShorten (l : List S82) (hl : l.length ≤ 2097152) (st : Int) : ∃ v : List S82, Ev (fun k => impl_ShortenSpans.f k l st 0) v ∧ (v = [] ∨ 0 ≤ st ∧ st ≤ 1000 ∧ v = shf st (jn l)) := by
  have j2 := iJn l hl
  have hw := jn_wide l
  have hln := jn_len l
  generalize jn l = r at j2 hw hln
  unfold impl_ShortenSpans.f
  simp only [Option.bind_some]
  by_cases c : st < 0
  · refine ⟨[], K.pos c (K.succ ?_), .inl rfl⟩
    simp only [impl_ShortenSpans.j0]
    exact K.pos trivial (Ev.now _)
  by_cases d : st > 1000
  · refine ⟨[], K.neg c (K.neg (by omega) (K.pos d (K.succ ?_))), .inl rfl⟩
    simp only [impl_ShortenSpans.j0]
    exact K.pos trivial (Ev.now _)
  have g2 := iShort st (by omega) (by omega) r [] [] hw (by simp; omega) (by simp)
  refine ⟨shf st r, K.neg c (K.neg (by omega) (K.neg d (K.succ ?_))), .inr ⟨by omega, by omega, rfl⟩⟩
  simp only [impl_ShortenSpans.j0]
  exact K.neg (by simp) (Ev.bind j2 g2)
theorem iConts (a b : Int) : ∀ (q p : List S82) (o : List S53), p.length + q.length ≤ 1000 → o.length ≤ p.length → Ev (fun k => impl_ContactsOf.l0 k a b o (p ++ q) ((p ++ q).length : Int) (p.length : Int)) (o ++ q.map (ofS (mn a b) (mx a b)))
  | [], p, o, hl, ho => by
    rw [show o ++ List.map (ofS (mn a b) (mx a b)) [] = o by simp]
    refine K.succ ?_
    simp only [impl_ContactsOf.l0]
    exact K.neg (by simp) (Ev.now _)
  | s :: q, p, o, hl, ho => by
    simp at hl
    have hr : rd_T82 (p ++ s :: q) (p.length : Int) = s := by simp [rd_T82, List.getD_eq_getElem?_getD]
    have w1 := Aside0.mk (K.wr (x := (p.length : Int) + 1) (by omega) (by omega))
    have e2 : p ++ s :: q = (p ++ [s]) ++ q := by simp
    have e3 : (p.length : Int) + 1 = ((p ++ [s]).length : Int) := by simp
    have g2 := iConts a b q (p ++ [s]) (o ++ [⟨mn a b, mx a b, s.f0, s.f1⟩]) (by simp; omega) (by simp; omega)
    have hs : (o ++ [(⟨mn a b, mx a b, s.f0, s.f1⟩ : S53)]) ++ q.map (ofS (mn a b) (mx a b)) = o ++ (s :: q).map (ofS (mn a b) (mx a b)) := by
      rw [List.append_assoc]
      rfl
    rw [← e2, ← e3, hs] at g2
    refine K.succ ?_
    simp only [impl_ContactsOf.l0, hr, w1.out]
    exact K.pos (by simp; omega) (K.pos (by omega) (K.pos (by simp; omega) (K.pos (by omega) g2)))
/-- What a list of contacts of two nodes is: nothing, or the joined speaking spans cut at their starts. -/
def GC (u : List S82) (ac i j : Int) (r : List S53) : Prop := r = [] ∨ 0 ≤ ac ∧ ac ≤ 1000 ∧ r = (shf ac (jn u)).map (ofS (mn i j) (mx i j))
theorem iContacts (pl : Int) (sa : List S72) (si : List S74) (rc cr vw su sh : Int) (zo : List S88) (ac : Int) (p : Int → Int → Bool) (q : Int → Bool) (i j : Int) (hp : ∀ i t, Ev (fun k => impl_MayDisturb.f k pl sa si rc cr vw su sh zo ac i t) (p i t)) (hq : ∀ t, Ev (fun k => impl_IsSure.f k pl sa si rc cr vw su sh zo ac i j t) (q t)) (y : Bool) (hy : Ev (fun k => impl_IsSky.f k pl sa si rc cr vw su sh zo ac) y) (a b : Int) : ∃ r, GC (spkR q (p i) (p j) a b) ac i j r ∧ Ev (fun k => impl_ContactsOf.f k pl sa si rc cr vw su sh zo ac i j a b) r := by
  unfold impl_ContactsOf.f
  simp only [Option.bind_some]
  by_cases c : i = j
  · refine ⟨[], .inl rfl, K.pos c (K.succ ?_)⟩
    simp only [impl_ContactsOf.j0]
    exact K.pos trivial (Ev.now _)
  cases y with
  | false =>
    refine ⟨[], .inl rfl, K.neg c (Ev.bind hy (K.succ ?_))⟩
    simp only [impl_ContactsOf.j0]
    exact K.pos (by simp) (Ev.now _)
  | true =>
    have w2 := iSpeak pl sa si rc cr vw su sh zo ac p q i j hp hq a b
    have hl := spkR_len q (p i) (p j) a b
    obtain ⟨u, u2, hu⟩ := iShorten (spkR q (p i) (p j) a b) (by omega) ac
    have hul : u.length ≤ 1000 := by
      rcases hu with h | h
      · rw [h]
        simp
      · rw [h.2.2]
        exact Nat.le_trans (shf_len _ _) (jn_len _)
    have v2 := iConts i j u [] [] (by simp; omega) (by simp)
    refine ⟨u.map (ofS (mn i j) (mx i j)), ?_, K.neg c (Ev.bind hy (K.succ ?_))⟩
    · rcases hu with h | h
      · rw [h]
        exact .inl rfl
      · rw [h.2.2]
        exact .inr ⟨h.1, h.2.1, rfl⟩
    · simp only [impl_ContactsOf.j0]
      exact K.neg (by simp) (Ev.bind w2 (Ev.bind u2 v2))
theorem gc_len (u : List S82) (ac i j : Int) (r : List S53) (h : GC u ac i j r) : r.length ≤ 1000 := by
  rcases h with h | h
  · rw [h]
    simp
  · rw [h.2.2, List.length_map]
    exact Nat.le_trans (shf_len _ _) (jn_len _)
theorem gc_mem (u : List S82) (ac i j : Int) (r : List S53) (h : GC u ac i j r) : ∀ x ∈ r, x.f0 = mn i j ∧ x.f1 = mx i j ∧ 0 ≤ ac ∧ ac ≤ 1000 ∧ 0 ≤ x.f2 - ac ∧ x.f2 < x.f3 ∧ x.f3 ≤ 1000 ∧ ∀ t, x.f2 - ac ≤ t → t < x.f3 → inl u t = true := by
  intro x hx
  rcases h with h | ⟨h1, h2, h3⟩
  · rw [h] at hx
    simp at hx
  · rw [h3] at hx
    obtain ⟨s, hs, rfl⟩ := List.mem_map.1 hx
    unfold shf at hs
    obtain ⟨s', hs', rfl⟩ := List.mem_map.1 hs
    obtain ⟨hm, hd⟩ := List.mem_filter.1 hs'
    have hd := of_decide_eq_true hd
    have hv := jn_ok u s' hm
    have hv' := hv
    unfold vs at hv'
    have hv' := of_decide_eq_true hv'
    refine ⟨rfl, rfl, h1, h2, ?_, hd, hv'.2.1, ?_⟩
    · show 0 ≤ s'.f0 + ac - ac
      omega
    · intro t t0 t1
      have t0 : s'.f0 + ac - ac ≤ t := t0
      have t1 : t < s'.f1 := t1
      rw [← jn_in u t (by omega) (by omega)]
      unfold inl
      rw [List.any_eq_true]
      refine ⟨s', hm, ?_⟩
      unfold ins
      rw [hv, decide_eq_true (show s'.f0 ≤ t by omega), decide_eq_true t1]
      rfl
theorem gc_apart (u : List S82) (ac i j : Int) (r : List S53) (h : GC u ac i j r) : r.Pairwise bef := by
  rcases h with h | ⟨h1, h2, h3⟩
  · rw [h]
    exact List.Pairwise.nil
  · rw [h3, List.pairwise_map]
    unfold shf
    rw [List.pairwise_map]
    refine List.Pairwise.imp ?_ ((jn_apart u).sublist List.filter_sublist)
    intro a b hab
    exact .inr ⟨rfl, .inr ⟨rfl, by show a.f1 < b.f0 + ac; omega⟩⟩
theorem loopC (pl : Int) (sa : List S72) (si : List S74) (rc cr vw su sh : Int) (zo : List S88) (ac : Int) (code : List Int) (p : Int → Int → Bool) (q : Int → Bool) (a b f tt : Int) (hp : ∀ i t, Ev (fun k => impl_MayDisturb.f k pl sa si rc cr vw su sh zo ac i t) (p i t)) (hq : ∀ t, Ev (fun k => impl_IsSure.f k pl sa si rc cr vw su sh zo ac a b t) (q t)) (hf : f ≤ 17) (r : List S53) (hr : GC (spkR q (p a) (p b) f tt) ac a b r) (g : Ev (fun k => laws_FnContacts.l0 k code a b f tt r (r.length : Int) pl sa si rc cr vw su sh zo ac) true) : ∀ (d : Nat) (n : Int), 0 ≤ n → (r.length : Int) - n = d → Ev (fun k => laws_FnContacts.l0 k code a b f tt r n pl sa si rc cr vw su sh zo ac) true := by
  have hlen := gc_len _ _ _ _ _ hr
  intro d
  induction d with
  | zero =>
    intro n h0 hd
    rw [show n = (r.length : Int) by omega]
    exact g
  | succ d ih =>
    intro n h0 hd
    have nx := ih (n + 1) (by omega) (by omega)
    have w1 := Aside0.mk (K.wr (x := n + 1) (by omega) (by omega))
    have hm : rd_T53 r n ∈ r := by
      simp only [rd_T53, List.getD_eq_getElem?_getD, List.getElem?_eq_getElem (show n.toNat < r.length by omega), Option.getD_some]
      exact List.getElem_mem _
    obtain ⟨x0, x1, c0, c1, x2, x3, x4, x5⟩ := gc_mem _ _ _ _ _ hr _ hm
    have w2 := Aside0.mk (K.wr (x := (rd_T53 r n).f2 - ac) (by omega) (by omega))
    have inner : ∀ (d : Nat) (t : Int), (rd_T53 r n).f2 - ac ≤ t → (rd_T53 r n).f3 - t = d → Ev (fun k => laws_FnContacts.l1 k code a b f tt r n t pl sa si rc cr vw su sh zo ac) true := by
      intro d
      induction d with
      | zero =>
        intro t t0 td
        refine K.succ ?_
        simp only [laws_FnContacts.l1, impl_Min.f, impl_Max.f, Option.bind_some, w1.out]
        exact K.pos h0 (K.pos (by omega) (K.neg (by omega) (K.pos x0 (K.pos x1 nx))))
      | succ d ih2 =>
        intro t t0 td
        have w3 := Aside0.mk (K.wr (x := t + 1) (by omega) (by omega))
        have nx2 := ih2 (t + 1) (by omega) (by omega)
        have hin := x5 t t0 (by omega)
        rw [spkR_in q (p a) (p b) f tt t (by omega) (by omega) (by omega)] at hin
        rw [Bool.and_eq_true, Bool.and_eq_true, decide_eq_true_eq, Bool.not_eq_true', Bool.or_eq_false_iff] at hin
        obtain ⟨⟨i0, i1⟩, i2, i3, i4⟩ := hin
        have gq := hq t
        have ga := hp a t
        have gb := hp b t
        rw [i2] at gq
        rw [i3] at ga
        rw [i4] at gb
        refine K.succ ?_
        simp only [laws_FnContacts.l1, w3.out]
        exact K.pos h0 (K.pos (by omega) (K.pos (by omega) (K.neg (by omega) (K.neg (by omega) (Ev.bind gq (K.pos rfl (Ev.bind ga (K.neg Bool.false_ne_true (Ev.bind gb (K.neg Bool.false_ne_true nx2))))))))))
    refine K.succ ?_
    simp only [laws_FnContacts.l0, w2.out]
    exact K.pos (by omega) (K.pos h0 (inner ((rd_T53 r n).f3 - ((rd_T53 r n).f2 - ac)).toNat _ (by omega) (by omega)))
/-- What a plan has come to behind the pairs below (i, j). -/
def PI (N i j : Int) (o : List S53) : Prop := (∀ y ∈ o, isC y N = true) ∧ o.Pairwise bef ∧ ∀ y ∈ o, y.f0 < i ∨ y.f0 = i ∧ y.f1 < j
theorem planIn (pl : Int) (sa : List S72) (si : List S74) (rc cr vw su sh : Int) (zo : List S88) (ac : Int) (N a b : Int) (hN : N = (sa.length : Int) + si.length) (hN2 : N ≤ 1000) (U : Int → Int → List S82) (C : Int → Int → List S53) (hC : ∀ i j, GC (U i j) ac i j (C i j) ∧ Ev (fun k => impl_ContactsOf.f k pl sa si rc cr vw su sh zo ac i j a b) (C i j)) (i : Int) (hi : 0 ≤ i) (hi2 : i < N) : ∀ (d : Nat) (j : Int) (o : List S53), N - j = d → i < j → (o.length : Int) ≤ 1000 * (1000 * i + j) → PI N i j o → ∃ o' : List S53, (o'.length : Int) ≤ 1000 * (1000 * (i + 1)) ∧ PI N (i + 1) 0 o' ∧ ∀ r, Ev (fun k => impl_PlanOf.l0 k a b o' N (i + 1) pl sa si rc cr vw su sh zo ac) r → Ev (fun k => impl_PlanOf.l1 k a b o i j N i pl sa si rc cr vw su sh zo ac) r := by
  have w0 := Aside0.mk (K.wr (x := i + 1) (by omega) (by omega))
  have wn := Aside0.mk (K.wr (x := (sa.length : Int) + si.length) (by omega) (by omega))
  intro d
  induction d with
  | zero =>
    intro j o hd hj ho hP
    refine ⟨o, by omega, ⟨hP.1, hP.2.1, fun y hy => ?_⟩, fun r g => K.succ ?_⟩
    · have := hP.2.2 y hy
      omega
    · simp only [impl_PlanOf.l1, impl_NodesOf.f, Option.bind_some, wn.out, w0.out]
      exact K.neg (by omega) g
  | succ d ih =>
    intro j o hd hj ho hP
    have w1 := Aside0.mk (K.wr (x := j + 1) (by omega) (by omega))
    obtain ⟨c1, c3⟩ := hC i j
    have cl := gc_len _ _ _ _ _ c1
    have cm := gc_mem _ _ _ _ _ c1
    have ca := gc_apart _ _ _ _ _ c1
    have m1 : mn i j = i := by unfold mn; split <;> omega
    have m2 : mx i j = j := by unfold mx; split <;> omega
    rw [m1, m2] at cm
    have hl : ((o ++ C i j).length : Int) ≤ 1000 * (1000 * i + (j + 1)) := by
      rw [List.length_append]
      omega
    have hs : o.length + (C i j).length < 4398046511104 := by omega
    have hP2 : PI N i (j + 1) (o ++ C i j) := by
      refine ⟨fun y hy => ?_, List.pairwise_append.2 ⟨hP.2.1, ca, fun x hx y hy => ?_⟩, fun y hy => ?_⟩
      · rcases List.mem_append.1 hy with hy | hy
        · exact hP.1 y hy
        · obtain ⟨x0, x1, c0, c1, x2, x3, x4, _⟩ := cm y hy
          unfold isC
          exact decide_eq_true (by omega)
      · have h1 := hP.2.2 x hx
        obtain ⟨x0, x1, _⟩ := cm y hy
        unfold bef
        omega
      · rcases List.mem_append.1 hy with hy | hy
        · have := hP.2.2 y hy
          omega
        · obtain ⟨x0, x1, _⟩ := cm y hy
          omega
    obtain ⟨o', h1, h2, h3⟩ := ih (j + 1) (o ++ C i j) (by omega) (by omega) hl hP2
    refine ⟨o', h1, h2, fun r g => K.succ ?_⟩
    simp only [impl_PlanOf.l1, impl_NodesOf.f, Option.bind_some, wn.out, w1.out]
    exact K.pos (by omega) (Ev.bind c3 (K.pos hs (h3 r g)))
theorem planOut (pl : Int) (sa : List S72) (si : List S74) (rc cr vw su sh : Int) (zo : List S88) (ac : Int) (N a b : Int) (hN : N = (sa.length : Int) + si.length) (hN2 : N ≤ 1000) (U : Int → Int → List S82) (C : Int → Int → List S53) (hC : ∀ i j, GC (U i j) ac i j (C i j) ∧ Ev (fun k => impl_ContactsOf.f k pl sa si rc cr vw su sh zo ac i j a b) (C i j)) : ∀ (d : Nat) (i : Int) (o : List S53), N - i = d → 0 ≤ i → (o.length : Int) ≤ 1000 * (1000 * i) → PI N i 0 o → ∃ v : List S53, v.length ≤ 1000000000 ∧ okp N none v ∧ Ev (fun k => impl_PlanOf.l0 k a b o N i pl sa si rc cr vw su sh zo ac) v := by
  intro d
  induction d with
  | zero =>
    intro i o hd hi ho hP
    refine ⟨o, by omega, okp_in N o none hP.1 hP.2.1 (by simp), K.succ ?_⟩
    simp only [impl_PlanOf.l0]
    exact K.neg (by omega) (Ev.now _)
  | succ d ih =>
    intro i o hd hi ho hP
    have w1 := Aside0.mk (K.wr (x := i + 1) (by omega) (by omega))
    obtain ⟨o', h1, h2, h3⟩ := planIn pl sa si rc cr vw su sh zo ac N a b hN hN2 U C hC i hi (by omega) (N - (i + 1)).toNat (i + 1) o (by omega) (by omega) (by omega) ⟨hP.1, hP.2.1, fun y hy => by have := hP.2.2 y hy; have := hP.1 y hy; unfold isC at this; have := of_decide_eq_true this; omega⟩
    obtain ⟨v, hv, hk, g2⟩ := ih (i + 1) o' (by omega) (by omega) h1 h2
    refine ⟨v, hv, hk, K.succ ?_⟩
    simp only [impl_PlanOf.l0, w1.out]
    exact K.pos (by omega) (h3 v g2)
end LFnContacts
theorem FnContacts (l : List Int) : ∃ k, laws_FnContacts.f k l = some true := by
  refine K.rounds (g := fun k => laws_FnContacts.f k l) ?_
  unfold laws_FnContacts.f laws_big.f
  refine K.known rfl ?_
  by_cases c : (l.length : Int) > 1048576
  · exact K.pos (decide_eq_true c) (Ev.now _)
  refine K.neg (by simp; omega) ?_
  obtain ⟨pl, sa, si, rc, cr, vw, su, sh, zo, ac, a, b, f, tt, ⟨o1, o2, o3, o4, o5, o6⟩, hf, hf2, ht, _, _, _, _, e1⟩ := LFnContacts.drawCon l (by omega)
  obtain ⟨pl', sa', si', rc', cr', vw', su', sh', zo', ac', f', t', ⟨p1, p2, p3, p4, p5, p6⟩, _, _, _, e2⟩ := LFnContacts.drawPl l (by omega)
  obtain ⟨L, x, y, t, hL, e3⟩ := LFnContacts.drawCan l (by omega)
  have hn : (sa.length : Int) + si.length ≤ 4194304 := by omega
  have hn' : (sa'.length : Int) + si'.length ≤ 4194304 := by omega
  have h1 : ∀ x ∈ sa, -9223372036854775808 ≤ x.f0 ∧ x.f0 ≤ 9223372036854775807 := fun x hx => (o5 x hx).1
  have h1' : ∀ x ∈ sa', -9223372036854775808 ≤ x.f0 ∧ x.f0 ≤ 9223372036854775807 := fun x hx => (p5 x hx).1
  obtain ⟨p, hp⟩ := LFnContacts.mayI pl sa si rc cr vw su sh zo ac hn (by omega)
  obtain ⟨p', hp'⟩ := LFnContacts.mayI pl' sa' si' rc' cr' vw' su' sh' zo' ac' hn' (by omega)
  have hq := fun i j t => LFnContacts.iSure pl sa si rc cr vw su sh zo ac hn o1.1 o1.2 h1 o6 i j t
  have hq' := fun i j t => LFnContacts.iSure pl' sa' si' rc' cr' vw' su' sh' zo' ac' hn' p1.1 p1.2 h1' p6 i j t
  obtain ⟨sk, hsk⟩ := LFnContacts.iSkyI pl sa si rc cr vw su sh zo ac (by omega) (by omega) (by omega) o1.1 o1.2
  obtain ⟨sk', hsk'⟩ := LFnContacts.iSkyI pl' sa' si' rc' cr' vw' su' sh' zo' ac' (by omega) (by omega) (by omega) p1.1 p1.2
  obtain ⟨r, hr, er⟩ := LFnContacts.iContacts pl sa si rc cr vw su sh zo ac p _ a b (fun i t => (hp i t).1) (hq a b) sk hsk f tt
  obtain ⟨C, hC⟩ := Classical.axiomOfChoice (fun i => Classical.axiomOfChoice (fun j => LFnContacts.iContacts pl' sa' si' rc' cr' vw' su' sh' zo' ac' p' _ i j (fun i t => (hp' i t).1) (hq' i j) sk' hsk' f' t'))
  have wn := Aside0.mk (K.wr (x := (sa'.length : Int) + si'.length) (by omega) (by omega))
  have hN : (sa'.length : Int) + si'.length ≤ 1000 := by omega
  have hNt : (sa'.length : Int) + si'.length - 0 = (((sa'.length : Int) + si'.length).toNat : Int) := by omega
  obtain ⟨v, hv, hk, g⟩ := LFnContacts.planOut pl' sa' si' rc' cr' vw' su' sh' zo' ac' _ f' t' rfl hN _ C hC ((sa'.length : Int) + si'.length).toNat 0 [] hNt (Int.le_refl 0) (by simp) ⟨by simp, by simp, by simp⟩
  obtain ⟨vp, hvp, gp⟩ := LFnContacts.planE ((sa'.length : Int) + si'.length) v [] (by rw [List.length_nil]; omega)
  have : vp = true := hvp.2 hk
  subst this
  refine Ev.bind e1 ?_
  dsimp only
  refine Ev.bind er ?_
  refine LFnContacts.loopC pl sa si rc cr vw su sh zo ac l p _ a b f tt (fun i t => (hp i t).1) (hq a b) hf2 r hr ?_ r.length 0 (by omega) (by omega)
  refine K.succ ?_
  simp only [laws_FnContacts.l0]
  refine K.neg (by omega) (Ev.bind e2 ?_)
  dsimp only
  have gpl : Ev (fun k => impl_PlanOf.f k pl' sa' si' rc' cr' vw' su' sh' zo' ac' f' t') v := by
    unfold impl_PlanOf.f impl_NodesOf.f
    refine K.known rfl ?_
    rw [wn.out]
    exact g
  refine Ev.bind gpl (Ev.bind e3 ?_)
  dsimp only
  have hnod : impl_NodesOf.f pl' sa' si' rc' cr' vw' su' sh' zo' ac' = some ((sa'.length : Int) + si'.length) := by
    unfold impl_NodesOf.f
    rw [wn.out]
  refine K.known hnod (Ev.bind (by unfold impl_IsPlan.f; exact gp) (K.pos rfl ?_))
  have s1 := LFnContacts.speakE L (by omega) x y t L.length 0 (by omega) (by omega)
  have s2 := LFnContacts.speakE L (by omega) y x t L.length 0 (by omega) (by omega)
  have hm : LFnContacts.spk (L.drop (0 : Int).toNat) (mn y x) (mx y x) t = LFnContacts.spk (L.drop (0 : Int).toNat) (mn x y) (mx x y) t := by
    rw [show mn y x = mn x y from by unfold mn; split <;> split <;> omega, show mx y x = mx x y from by unfold mx; split <;> split <;> omega]
  rw [hm] at s2
  refine Ev.bind (by unfold impl_CanSpeak.f; exact s1) (Ev.bind (by unfold impl_CanSpeak.f; exact s2) ?_)
  rw [beq_self_eq_true]
  exact Ev.now _

end Go.Proofs.Ytopbkdcicidajaa.Pure
