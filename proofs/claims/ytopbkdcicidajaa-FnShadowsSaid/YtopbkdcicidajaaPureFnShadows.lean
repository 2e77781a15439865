/- At every code of at most 2^20 bytes, every tick of the drawn sky is lit or dark, the deepest shadow has no sun wherever the satellite may be, and the longest dark is no more than all the dark ticks. -/
import Derived.Test.YtopbkdcicidajaaQFnShadowsx
import Derived.Test.YtopbkdcicidajaaKKit
namespace Go.Proofs.Ytopbkdcicidajaa.Pure
open Go.RowKit Go.Proofs.Ytopbkdcicidajaa.PFnShadows Go.Proofs.YtopbkdcicidajaaW.PrintWords Go.Proofs.YtopbkdcicidajaaW.PrintLast Go.Proofs.YtopbkdcicidajaaW.PrintMore Go.Proofs.Ytopbkdcicidajaa
set_option linter.unusedSimpArgs false
set_option linter.unusedVariables false
namespace LFnShadows
theorem l1In (a b c : Int) : spec_l1In.f a b c = some (decide (b ≤ a ∧ a ≤ c)) := by
  unfold spec_l1In.f
  split <;> (try split) <;> first | rfl | (congr 1; exact decide_eq_decide.2 (by omega)) | (congr 1; exact (decide_eq_false (by omega)).symm)
theorem InRange (a b c : Int) : impl_InRange.f a b c = some (decide (b ≤ a ∧ a ≤ c)) := by
  unfold impl_InRange.f
  split <;> (try split) <;> first | rfl | (congr 1; exact decide_eq_decide.2 (by omega)) | (congr 1; exact (decide_eq_false (by omega)).symm)
theorem iIsSite (pl : Int) (sa : List S72) (si : List S74) (rc cr vw su sh : Int) (zo : List S88) (ac : Int) (hn : (sa.length : Int) + si.length ≤ 4194304) (i : Int) : impl_IsSite.f pl sa si rc cr vw su sh zo ac i = some (decide ((sa.length : Int) ≤ i ∧ i < (sa.length : Int) + si.length)) := by
  unfold impl_IsSite.f impl_NodesOf.f
  simp only [Option.bind_some, InRange]
  rw [K.wr (x := (sa.length : Int) + si.length) (by omega) (by omega), K.wr (by omega) (by omega)]
  congr 1
  exact decide_eq_decide.2 (by omega)
theorem iIsSat (pl : Int) (sa : List S72) (si : List S74) (rc cr vw su sh : Int) (zo : List S88) (ac : Int) (hn : (sa.length : Int) + si.length ≤ 4194304) (i : Int) : impl_isSatellite.f pl sa si rc cr vw su sh zo ac i = some (decide (0 ≤ i ∧ i < (sa.length : Int))) := by
  unfold impl_isSatellite.f
  simp only [Option.bind_some, InRange]
  rw [K.wr (by omega) (by omega)]
  congr 1
  exact decide_eq_decide.2 (by omega)
theorem sIsSat (sa : List S72) (hn : (sa.length : Int) ≤ 4194304) (i : Int) : spec_l1In.f i 0 (wrap64 ((sa.length : Int) - 1)) = some (decide (0 ≤ i ∧ i < (sa.length : Int))) := by
  rw [l1In, K.wr (by omega) (by omega)]
  congr 1
  exact decide_eq_decide.2 (by omega)
theorem sAngle (n : Int) : spec_AngleOf.f n = some (n % 360) := by
  unfold spec_AngleOf.f spec_Mod.f
  have e : decide ((1 : Int) ≤ 360 ∧ (360 : Int) ≤ 1000000000000) = true := by decide
  simp only [l1In, e, Option.bind_some, ↓reduceIte]
  rw [if_neg (by omega)]
  have h := Int.tmod_eq_emod (a := n) (b := 360)
  have hb : -360 < Int.tmod n 360 ∧ Int.tmod n 360 < 360 := by
    rw [h]
    split <;> omega
  rw [K.wr (by omega) (by omega), Int.tmod_eq_emod_of_nonneg (by omega)]
  simp only [Option.bind_some]
  congr 1
  rw [h]
  split <;> omega
theorem iAngle (n : Int) : impl_AngleOf.f n = some (n % 360) := by
  unfold impl_AngleOf.f impl_Mod.f
  have e : decide ((1 : Int) ≤ 360 ∧ (360 : Int) ≤ 1000000000000) = true := by decide
  simp only [InRange, e, Option.bind_some, ↓reduceIte]
  rw [if_neg (by omega)]
  have h := Int.tmod_eq_emod (a := n) (b := 360)
  have hb : -360 < Int.tmod n 360 ∧ Int.tmod n 360 < 360 := by
    rw [h]
    split <;> omega
  have hd : (360 : Int) ∣ n → Int.tmod n 360 = n % 360 := by
    intro hd
    rw [h, if_pos (Or.inr hd)]
    simp
  by_cases c : Int.tmod n 360 < 0
  · rw [if_pos c, K.wr (by omega) (by omega)]
    simp only [Option.bind_some]
    congr 1
    rw [h] at c ⊢
    split at c <;> split <;> omega
  · rw [if_neg c]
    simp only [Option.bind_some]
    congr 1
    rw [h] at c ⊢
    split at c <;> split <;> omega
def placeV (ph sp t : Int) : Int := (ph % 360 + (if -60 ≤ sp ∧ sp ≤ 60 then sp else 0) * (if 0 ≤ t ∧ t ≤ 1000 then t else 0)) % 360
theorem place_bd (s t : Int) (hs : -60 ≤ s ∧ s ≤ 60) (ht : 0 ≤ t ∧ t ≤ 1000) : -60000 ≤ s * t ∧ s * t ≤ 60000 := by
  have h1 : s * t ≤ 60 * t := Int.mul_le_mul_of_nonneg_right hs.2 ht.1
  have h2 : -60 * t ≤ s * t := Int.mul_le_mul_of_nonneg_right hs.1 ht.1
  omega
theorem iPlace (a ph sp e t : Int) : impl_PlaceAt.f a ph sp e t = some (placeV ph sp t) := by
  unfold impl_PlaceAt.f placeV impl_speedOf.f
  simp only [InRange, iAngle, Option.bind_some, decide_eq_true_eq]
  by_cases ct : 0 ≤ t ∧ t ≤ 1000
  · rw [if_pos ct]
    by_cases cs : -60 ≤ sp ∧ sp ≤ 60
    · have := place_bd sp t cs ct
      rw [if_pos cs]
      simp only [Option.bind_some, if_pos ct, if_pos cs]
      rw [K.wr (x := sp * t) (by omega) (by omega), K.wr (by omega) (by omega)]
    · rw [if_neg cs]
      simp only [Option.bind_some, if_pos ct, if_neg cs]
      rw [K.wr (x := 0 * t) (by omega) (by omega), K.wr (by omega) (by omega)]
  · rw [if_neg ct]
    by_cases cs : -60 ≤ sp ∧ sp ≤ 60
    · rw [if_pos cs]
      simp only [Option.bind_some, if_neg ct]
      rw [K.wr (by omega) (by omega), Int.mul_zero, Int.add_zero]
    · rw [if_neg cs]
      simp only [Option.bind_some, if_neg ct]
      rw [K.wr (by omega) (by omega), Int.mul_zero, Int.add_zero]
theorem place_range (ph sp t : Int) : 0 ≤ placeV ph sp t ∧ placeV ph sp t < 360 := by unfold placeV; omega
theorem iWidth (n : Int) : impl_isWidth.f n = some (decide (0 ≤ n ∧ n ≤ 359)) := by
  unfold impl_isWidth.f
  simp only [InRange, Option.bind_some]
/-- The arc about a place, as wide as an error says: its start and its width. -/
def widS (p e : Int) : Int := if 0 ≤ e ∧ e ≤ 360 then (p % 360 - e) % 360 else p % 360
def widW (e : Int) : Int := if 0 ≤ e ∧ e ≤ 360 then mn (2 * e) 359 else 0
theorem iWiden (p e : Int) : impl_WidenArc.f p 0 e = some (widS p e, widW e) := by
  unfold impl_WidenArc.f widS widW
  have e0 : decide ((0 : Int) ≤ 0 ∧ (0 : Int) ≤ 359) = true := by decide
  simp only [InRange, iWidth, iAngle, e0, Option.bind_some, decide_eq_true_eq, ↓reduceIte]
  by_cases c : 0 ≤ e ∧ e ≤ 360
  · rw [if_pos c, if_pos c, if_pos c, K.wr (x := p % 360 - e) (by omega) (by omega), K.wr (x := 2 * e) (by omega) (by omega), Int.zero_add, K.wr (x := 2 * e) (by omega) (by omega)]
  · rw [if_neg c, if_neg c, if_neg c]
theorem wid_range (p e : Int) : 0 ≤ widS p e ∧ widS p e < 360 ∧ 0 ≤ widW e ∧ widW e ≤ 359 := by
  unfold widS widW mn
  split <;> (try split) <;> omega
def nodeS (sa : List S72) (si : List S74) (i t : Int) : Int :=
  if 0 ≤ i ∧ i < (sa.length : Int) then widS (placeV (rd_T72 sa i).f1 (rd_T72 sa i).f2 t) (rd_T72 sa i).f3 else if (sa.length : Int) ≤ i ∧ i < (sa.length : Int) + si.length then placeV (rd_T74 si (i - sa.length)).f1 (rd_T74 si (i - sa.length)).f2 t else 0
def nodeW (sa : List S72) (i : Int) : Int :=
  if 0 ≤ i ∧ i < (sa.length : Int) then widW (rd_T72 sa i).f3 else 0
theorem iNode (pl : Int) (sa : List S72) (si : List S74) (rc cr vw su sh : Int) (zo : List S88) (ac : Int) (hn : (sa.length : Int) + si.length ≤ 4194304) (i t : Int) : impl_NodeAt.f pl sa si rc cr vw su sh zo ac i t = some (nodeS sa si i t, nodeW sa i) := by
  unfold impl_NodeAt.f nodeS nodeW impl_PlacesAt.f
  simp only [iIsSat _ _ _ _ _ _ _ _ _ _ hn, iIsSite _ _ _ _ _ _ _ _ _ _ hn, iPlace, iWiden, Option.bind_some, decide_eq_true_eq]
  by_cases c : 0 ≤ i ∧ i < (sa.length : Int)
  · rw [if_pos c, if_pos c, if_pos c.1, if_pos c.2, if_pos c]
  · rw [if_neg c, if_neg c, if_neg c]
    by_cases c2 : (sa.length : Int) ≤ i ∧ i < (sa.length : Int) + si.length
    · rw [if_pos c2, if_pos c2, K.wr (x := i - sa.length) (by omega) (by omega), if_pos (by omega), if_pos (by omega)]
    · rw [if_neg c2, if_neg c2]
theorem node_range (sa : List S72) (si : List S74) (i t : Int) : 0 ≤ nodeS sa si i t ∧ nodeS sa si i t < 360 ∧ 0 ≤ nodeW sa i ∧ nodeW sa i ≤ 359 := by
  have h1 := wid_range (placeV (rd_T72 sa i).f1 (rd_T72 sa i).f2 t) (rd_T72 sa i).f3
  have h2 := place_range (rd_T74 si (i - sa.length)).f1 (rd_T74 si (i - sa.length)).f2 t
  unfold nodeS nodeW
  split
  · exact h1
  · split <;> omega
theorem iSun (pl : Int) (sa : List S72) (si : List S74) (rc cr vw su sh : Int) (zo : List S88) (ac : Int) (t : Int) : impl_SunAt.f pl sa si rc cr vw su sh zo ac t = some (placeV 0 su t) := by
  unfold impl_SunAt.f
  rw [iPlace]
  rfl
def midV (s w : Int) : Int := if 0 ≤ w ∧ w ≤ 359 then (s % 360 + w / 2) % 360 else s % 360
theorem iMiddle (s w : Int) : impl_MiddleOf.f s w = some (midV s w) := by
  unfold impl_MiddleOf.f midV
  simp only [iWidth, iAngle, Option.bind_some, decide_eq_true_eq]
  by_cases c : 0 ≤ w ∧ w ≤ 359
  · rw [if_pos c, if_pos c, Int.tdiv_eq_ediv_of_nonneg c.1, K.wr (x := w / 2) (by omega) (by omega), K.wr (by omega) (by omega)]
  · rw [if_neg c, if_neg c]
theorem mid_range (s w : Int) : 0 ≤ midV s w ∧ midV s w < 360 := by
  unfold midV
  split <;> omega
def gapV (a b : Int) : Int := mn ((a % 360 - b % 360) % 360) (360 - (a % 360 - b % 360) % 360)
theorem iGap (a b : Int) : impl_GapOf.f a b = some (gapV a b) := by
  unfold impl_GapOf.f gapV
  simp only [iAngle, Option.bind_some]
  rw [K.wr (x := a % 360 - b % 360) (by omega) (by omega), K.wr (by omega) (by omega)]
theorem gap_range (a b : Int) : 0 ≤ gapV a b ∧ gapV a b ≤ 180 := by
  unfold gapV mn
  split <;> omega
def shadV (sa : List S72) (si : List S74) (su sh i t : Int) : Int :=
  if 0 ≤ i ∧ i < (sa.length : Int) then
    (if gapV (midV (nodeS sa si i t) (nodeW sa i)) (placeV 0 su t + 180) - nodeW sa i / 2 > sh then 0 else if gapV (midV (nodeS sa si i t) (nodeW sa i)) (placeV 0 su t + 180) + nodeW sa i / 2 ≤ sh then 2 else 1)
  else 0
theorem iShadow (pl : Int) (sa : List S72) (si : List S74) (rc cr vw su sh : Int) (zo : List S88) (ac : Int) (hn : (sa.length : Int) + si.length ≤ 4194304) (i t : Int) : impl_ShadowAt.f pl sa si rc cr vw su sh zo ac i t = some (shadV sa si su sh i t) := by
  unfold impl_ShadowAt.f shadV
  simp only [iIsSat _ _ _ _ _ _ _ _ _ _ hn, Option.bind_some, decide_eq_true_eq]
  have hw := node_range sa si i t
  have hs := place_range 0 su t
  have hg := gap_range (midV (nodeS sa si i t) (nodeW sa i)) (placeV 0 su t + 180)
  by_cases c : 0 ≤ i ∧ i < (sa.length : Int)
  · rw [if_pos c, if_pos c, iNode _ _ _ _ _ _ _ _ _ _ hn i t]
    simp only [iMiddle, iSun, iGap, Option.bind_some]
    rw [K.wr (x := placeV 0 su t + 180) (by omega) (by omega), Int.tdiv_eq_ediv_of_nonneg hw.2.2.1, K.wr (x := nodeW sa i / 2) (by omega) (by omega)]
    rw [K.wr (x := gapV (midV (nodeS sa si i t) (nodeW sa i)) (placeV 0 su t + 180) - nodeW sa i / 2) (by omega) (by omega), K.wr (x := gapV (midV (nodeS sa si i t) (nodeW sa i)) (placeV 0 su t + 180) + nodeW sa i / 2) (by omega) (by omega)]
    split
    · rfl
    · split <;> rfl
  · rw [if_neg c, if_neg c]
def put (o : List S82) (t : Int) : List S82 :=
  if (o.length : Int) > 0 then (if (rd_T82 o ((o.length : Int) - 1)).f1 = t then o.set ((o.length : Int) - 1).toNat ⟨(rd_T82 o ((o.length : Int) - 1)).f0, t + 1⟩ else o ++ [⟨t, t + 1⟩]) else o ++ [⟨t, t + 1⟩]
theorem put_len (o : List S82) (t : Int) : (put o t).length ≤ o.length + 1 := by
  unfold put
  (repeat' split) <;> simp
def run (p : Int → Bool) (o : List S82) (t : Int) : Nat → List S82
  | 0 => o
  | d + 1 => run p (if p t = true then put o t else o) (t + 1) d
theorem run_add (p : Int → Bool) : ∀ (d e : Nat) (o : List S82) (t : Int), run p o t (d + e) = run p (run p o t d) (t + d) e := by
  intro d
  induction d with
  | zero =>
    intro e o t
    simp [run]
  | succ d ih =>
    intro e o t
    rw [show d + 1 + e = (d + e) + 1 by omega]
    simp only [run]
    rw [ih]
    congr 1
    omega
theorem run_none (p : Int → Bool) : ∀ (d : Nat) (o : List S82) (t : Int), (∀ u, t ≤ u → p u = false) → run p o t d = o := by
  intro d
  induction d with
  | zero =>
    intro o t h
    rfl
  | succ d ih =>
    intro o t h
    simp only [run, h t (by omega), Bool.false_eq_true, if_false]
    exact ih o (t + 1) (fun u hu => h u (by omega))
theorem run_len (p : Int → Bool) : ∀ (d : Nat) (o : List S82) (t : Int), (run p o t d).length ≤ o.length + d := by
  intro d
  induction d with
  | zero =>
    intro o t
    simp [run]
  | succ d ih =>
    intro o t
    simp only [run]
    refine Nat.le_trans (ih _ _) ?_
    have := put_len o t
    split <;> omega
theorem run_eq (p q : Int → Bool) : ∀ (d : Nat) (o : List S82) (t : Int), (∀ u, t ≤ u → u < t + d → p u = q u) → run p o t d = run q o t d := by
  intro d
  induction d with
  | zero =>
    intro o t h
    rfl
  | succ d ih =>
    intro o t h
    simp only [run]
    rw [h t (by omega) (by omega)]
    exact ih _ _ (fun u h1 h2 => h u (by omega) (by omega))
theorem whereRun (q : Nat → Int → Option Bool) (p : Int → Bool) (hi : Int) (hq : ∀ t, 0 ≤ t → t < mn hi 1000 → Ev (fun k => q k t) (p t)) : ∀ (d : Nat) (o : List S82) (t : Int), 0 ≤ t → (mn hi 1000 - t).toNat = d → o.length + d ≤ 7000000000000 → Ev (fun k => sw.l0 q k hi o t) (run p o t d) := by
  intro d
  have hm : mn hi 1000 ≤ 1000 := by unfold mn; split <;> omega
  induction d with
  | zero =>
    intro o t h0 hd ho
    refine K.succ ?_
    simp only [sw.l0, run]
    exact K.neg (by omega) (Ev.now _)
  | succ d ih =>
    intro o t h0 hd ho
    refine K.succ ?_
    simp only [sw.l0, run]
    have w0 : wrap64 (t + 1) = t + 1 := K.wr (by omega) (by omega)
    have w1 : wrap64 ((o.length : Int) - 1) = (o.length : Int) - 1 := K.wr (by omega) (by omega)
    rw [w0, w1]
    refine K.pos (by omega) (Ev.bind (hq t h0 (by omega)) ?_)
    by_cases c : p t = true
    · refine K.pos c ?_
      rw [if_pos c]
      have hp := put_len o t
      have ih' := ih (put o t) (t + 1) (by omega) (by omega)
      unfold put at ih' ⊢
      by_cases c1 : (o.length : Int) > 0
      · rw [if_pos c1] at ih' ⊢
        refine K.pos (by omega) (K.pos (by omega) (K.pos (by omega) ?_))
        by_cases c2 : (rd_T82 o ((o.length : Int) - 1)).f1 = t
        · rw [if_pos c2] at ih' ⊢
          refine K.pos c2 ?_
          rw [c2, w0]
          exact ih' (by simp; omega)
        · rw [if_neg c2] at ih' ⊢
          refine K.neg c2 (K.pos (by omega) (ih' (by simp; omega)))
      · rw [if_neg c1] at ih' ⊢
        refine K.neg (by omega) (K.pos (by omega) (ih' (by simp; omega)))
    · refine K.neg c ?_
      rw [if_neg c]
      exact ih o (t + 1) (by omega) (by omega) (by omega)
def vs (s : S82) : Bool := decide (s.f0 ≥ 0 ∧ s.f1 ≤ 1000 ∧ s.f0 < s.f1)
def ins (s : S82) (t : Int) : Bool := vs s && (decide (s.f0 ≤ t) && decide (t < s.f1))
def inl (l : List S82) (t : Int) : Bool := l.any (fun s => ins s t)
theorem iVs (s : S82) : impl_IsSpan.f s.f0 s.f1 = some (vs s) := by
  unfold impl_IsSpan.f vs
  by_cases c0 : s.f0 ≥ 0
  · rw [if_pos c0]
    by_cases c1 : s.f1 ≤ 1000
    · rw [if_pos c1]
      simp [c0, c1]
    · rw [if_neg c1]
      simp [c1]
  · rw [if_neg c0]
    simp [c0]
theorem rdDrop (l : List S82) (i : Int) (h0 : 0 ≤ i) (h1 : i < (l.length : Int)) : l.drop i.toNat = rd_T82 l i :: l.drop (i + 1).toNat := by
  rw [List.drop_eq_getElem_cons (by omega), show (i + 1).toNat = i.toNat + 1 by omega]
  simp [rd_T82, List.getD_eq_getElem?_getD, List.getElem?_eq_getElem (show i.toNat < l.length by omega)]
def last (l : List S82) (n : Int) : Int := l.foldl (fun n s => if vs s = true then (if s.f1 > n then s.f1 else n) else n) n
theorem last_le : ∀ (l : List S82) (n : Int), n ≤ last l n ∧ (n ≤ 1000 → last l n ≤ 1000) ∧ ∀ s ∈ l, vs s = true → s.f1 ≤ last l n := by
  intro l
  induction l with
  | nil =>
    intro n
    exact ⟨Int.le_refl _, fun h => h, fun s hs => absurd hs (by simp)⟩
  | cons a l ih =>
    intro n
    have e : last (a :: l) n = last l (if vs a = true then (if a.f1 > n then a.f1 else n) else n) := rfl
    rw [e]
    obtain ⟨h1, h2, h3⟩ := ih (if vs a = true then (if a.f1 > n then a.f1 else n) else n)
    by_cases c : vs a = true
    · rw [if_pos c] at h1 h2 h3 ⊢
      have hv : a.f1 ≤ 1000 := by
        unfold vs at c
        exact (of_decide_eq_true c).2.1
      have hm : n ≤ (if a.f1 > n then a.f1 else n) ∧ a.f1 ≤ (if a.f1 > n then a.f1 else n) ∧ (n ≤ 1000 → (if a.f1 > n then a.f1 else n) ≤ 1000) := by
        split <;> omega
      generalize (if a.f1 > n then a.f1 else n) = m at hm h1 h2 h3 ⊢
      refine ⟨by omega, fun hn => h2 (hm.2.2 hn), ?_⟩
      intro s hs hvs
      rcases List.mem_cons.1 hs with rfl | hs
      · omega
      · exact h3 s hs hvs
    · rw [if_neg c] at h1 h2 h3 ⊢
      refine ⟨h1, h2, ?_⟩
      intro s hs hvs
      rcases List.mem_cons.1 hs with rfl | hs
      · exact absurd hvs c
      · exact h3 s hs hvs
theorem beyond (l : List S82) (u : Int) (h : last l 0 ≤ u) : inl l u = false := by
  unfold inl
  rw [List.any_eq_false]
  intro s hs hc
  unfold ins at hc
  simp only [Bool.and_eq_true, decide_eq_true_eq] at hc
  have := (last_le l 0).2.2 s hs hc.1
  omega
def mark (x : List Bool) (a : Int) : Nat → List Bool
  | 0 => x
  | d + 1 => mark (x.set a.toNat true) (a + 1) d
theorem mark_len : ∀ (d : Nat) (x : List Bool) (a : Int), (mark x a d).length = x.length := by
  intro d
  induction d with
  | zero => intro x a; rfl
  | succ d ih =>
    intro x a
    simp only [mark, ih, List.length_set]
theorem mark_get (t : Int) (h0 : 0 ≤ t) : ∀ (d : Nat) (x : List Bool) (a : Int), 0 ≤ a → t < (x.length : Int) → rdOf false (mark x a d) t = (rdOf false x t || (decide (a ≤ t) && decide (t < a + d))) := by
  intro d
  induction d with
  | zero =>
    intro x a ha ht
    have : ¬ (a ≤ t ∧ t < a + (0 : Nat)) := by omega
    rw [← Bool.decide_and, decide_eq_false this, Bool.or_false]
    rfl
  | succ d ih =>
    intro x a ha ht
    simp only [mark]
    rw [ih _ _ (by omega) (by simp; omega)]
    by_cases c : a = t
    · subst c
      have e : rdOf false (x.set a.toNat true) a = true := by
        simp only [rdOf, List.getD_eq_getElem?_getD]
        rw [List.getElem?_set_self (by omega)]
        rfl
      have e2 : (decide (a ≤ a) && decide (a < a + ((d + 1 : Nat) : Int))) = true := by
        rw [← Bool.decide_and]
        exact decide_eq_true (by omega)
      rw [e, e2, Bool.true_or, Bool.or_true]
    · have e : rdOf false (x.set a.toNat true) t = rdOf false x t := by
        simp only [rdOf, List.getD_eq_getElem?_getD]
        rw [List.getElem?_set_ne (by omega)]
      have e2 : (decide (a + 1 ≤ t) && decide (t < a + 1 + (d : Int))) = (decide (a ≤ t) && decide (t < a + ((d + 1 : Nat) : Int))) := by
        rw [← Bool.decide_and, ← Bool.decide_and]
        exact decide_eq_decide.2 (by omega)
      rw [e, e2]
def tk : List S82 → List Bool → List Bool
  | [], x => x
  | s :: l, x => tk l (if vs s = true then mark x s.f0 (s.f1 - s.f0).toNat else x)
theorem tk_len : ∀ (l : List S82) (x : List Bool), (tk l x).length = x.length := by
  intro l
  induction l with
  | nil => intro x; rfl
  | cons s l ih =>
    intro x
    simp only [tk, ih]
    split
    · exact mark_len _ _ _
    · rfl
theorem tk_get (t : Int) (h0 : 0 ≤ t) : ∀ (l : List S82) (x : List Bool), t < (x.length : Int) → rdOf false (tk l x) t = (rdOf false x t || inl l t) := by
  intro l
  induction l with
  | nil =>
    intro x ht
    simp [tk, inl]
  | cons s l ih =>
    intro x ht
    have e : inl (s :: l) t = (ins s t || inl l t) := rfl
    simp only [tk]
    by_cases c : vs s = true
    · rw [if_pos c, ih _ (by rw [mark_len]; exact ht)]
      have hv : s.f0 ≥ 0 ∧ s.f1 ≤ 1000 ∧ s.f0 < s.f1 := by
        unfold vs at c
        exact of_decide_eq_true c
      rw [mark_get t h0 _ _ _ (by omega) ht, e, Bool.or_assoc]
      have e2 : (decide (s.f0 ≤ t) && decide (t < s.f0 + ((s.f1 - s.f0).toNat : Int))) = ins s t := by
        unfold ins
        rw [c, Bool.true_and, ← Bool.decide_and, ← Bool.decide_and]
        exact decide_eq_decide.2 (by omega)
      rw [e2]
    · rw [if_neg c, ih _ ht, e]
      have e2 : ins s t = false := by
        unfold ins
        rw [Bool.eq_false_iff.2 c]
        rfl
      rw [e2, Bool.false_or]
theorem iInner (l : List S82) (i f0 b : Int) (r : List Bool) : ∀ (d : Nat) (x : List Bool) (a : Int), 0 ≤ a → b - a = d → b ≤ (x.length : Int) → x.length ≤ 1000 → 0 ≤ i → i < (l.length : Int) → l.length ≤ 2097152 →
    Ev (fun k => impl_ticks.l0 k (mark x a d) l (l.length : Int) (i + 1)) r → Ev (fun k => impl_ticks.l1 k x a l (l.length : Int) i f0 b) r := by
  intro d
  induction d with
  | zero =>
    intro x a h0 hd hb hx hi0 hi1 hl h
    refine K.succ ?_
    simp only [impl_ticks.l1]
    rw [K.wr (x := i + 1) (by omega) (by omega)]
    exact K.neg (by omega) h
  | succ d ih =>
    intro x a h0 hd hb hx hi0 hi1 hl h
    refine K.succ ?_
    simp only [impl_ticks.l1]
    rw [K.wr (x := a + 1) (by omega) (by omega)]
    exact K.pos (by omega) (K.pos h0 (K.pos (by omega) (ih (x.set a.toNat true) (a + 1) (by omega) (by omega) (by simp; omega) (by simp; omega) hi0 hi1 hl h)))
theorem iTicks (l : List S82) (hl : l.length ≤ 2097152) : ∀ (d : Nat) (i : Int) (x : List Bool), 0 ≤ i → (l.length : Int) - i = d → x.length = 1000 → Ev (fun k => impl_ticks.l0 k x l (l.length : Int) i) (tk (l.drop i.toNat) x) := by
  intro d
  induction d with
  | zero =>
    intro i x h0 hd hx
    refine K.succ ?_
    simp only [impl_ticks.l0]
    rw [List.drop_eq_nil_of_le (by omega)]
    exact K.neg (by omega) (Ev.now _)
  | succ d ih =>
    intro i x h0 hd hx
    refine K.succ ?_
    simp only [impl_ticks.l0, iVs]
    rw [K.wr (x := i + 1) (by omega) (by omega), rdDrop l i h0 (by omega)]
    refine K.pos (by omega) (K.pos h0 (K.pos (by omega) (K.known rfl ?_)))
    simp only [tk]
    by_cases c : vs (rd_T82 l i) = true
    · rw [if_pos c]
      have hv : (rd_T82 l i).f0 ≥ 0 ∧ (rd_T82 l i).f1 ≤ 1000 ∧ (rd_T82 l i).f0 < (rd_T82 l i).f1 := by
        unfold vs at c
        exact of_decide_eq_true c
      refine K.pos c (iInner l i _ _ _ ((rd_T82 l i).f1 - (rd_T82 l i).f0).toNat x _ (by omega) (by omega) (by omega) (by omega) h0 (by omega) hl ?_)
      exact ih (i + 1) _ (by omega) (by omega) (by rw [mark_len]; exact hx)
    · rw [if_neg c]
      exact K.neg c (ih (i + 1) _ (by omega) (by omega) hx)
theorem ticksOf (l : List S82) (hl : l.length ≤ 2097152) : ∃ x : List Bool, Ev (fun k => impl_ticks.f k l) x ∧ x.length = 1000 ∧ ∀ t, 0 ≤ t → t < 1000 → rdOf false x t = inl l t := by
  refine ⟨tk l (List.replicate 1000 false), ?_, ?_, ?_⟩
  · unfold impl_ticks.f
    exact K.pos (by omega) (iTicks l hl l.length 0 _ (by omega) (by omega) (List.length_replicate ..))
  · rw [tk_len, List.length_replicate]
  · intro t h0 h1
    rw [tk_get t h0 _ _ (by rw [List.length_replicate]; omega)]
    have e : rdOf false (List.replicate 1000 false) t = false := by
      simp only [rdOf, List.getD_eq_getElem?_getD, List.getElem?_replicate]
      split <;> rfl
    rw [e, Bool.false_or]
theorem iJoin (l : List S82) (hl : l.length ≤ 2097152) : Ev (fun k => impl_JoinSpans.f k l) (run (inl l) [] 0 1000) := by
  unfold impl_JoinSpans.f
  obtain ⟨x, g1, g2, g3⟩ := ticksOf l hl
  refine Ev.bind g1 (Ev.bind (r := run (inl l) [] 0 1000) ?_ (Ev.now _))
  unfold where_impl_JoinSpans_1.f sw.f
  have hm : mn 1000 1000 = 1000 := by unfold mn; rfl
  have hx : mx 0 0 = 0 := by unfold mx; rfl
  rw [hx]
  refine whereRun (fun _ t => impl_JoinSpans_1.f t x) (inl l) 1000 (fun t h0 h1 => ?_) 1000 [] 0 (by omega) (by rw [hm]; rfl) (by simp)
  rw [hm] at h1
  unfold impl_JoinSpans_1.f
  rw [g2]
  refine K.pos h0 (K.pos (by omega) ?_)
  rw [g3 t h0 h1]
  exact Ev.now _
def wide (l : List S82) : Prop := ∀ s ∈ l, 0 ≤ s.f0 ∧ s.f0 ≤ s.f1 ∧ s.f1 ≤ 1000
theorem wput_snoc (o : List S82) (t : Int) : (∃ q r, o = q ++ [r] ∧ r.f1 = t ∧ put o t = q ++ [⟨r.f0, t + 1⟩]) ∨ put o t = o ++ [⟨t, t + 1⟩] := by
  rcases List.eq_nil_or_concat o with rfl | ⟨q, r, rfl⟩
  · exact .inr rfl
  · have hl : ((q ++ [r]).length : Int) - 1 = (q.length : Int) := by simp
    have hrd : rd_T82 (q ++ [r]) (q.length : Int) = r := by
      simp [rd_T82, List.getD_eq_getElem?_getD]
    simp only [List.concat_eq_append]
    unfold put
    rw [if_pos (by simp), hl, hrd]
    by_cases c : r.f1 = t
    · rw [if_pos c]
      refine .inl ⟨q, r, rfl, c, ?_⟩
      simp
    · rw [if_neg c]
      exact .inr rfl
theorem wide_put (o : List S82) (t : Int) (h0 : 0 ≤ t) (h1 : t < 1000) (h : wide o) : wide (put o t) := by
  rcases wput_snoc o t with ⟨q, r, rfl, hr, e⟩ | e
  · rw [e]
    intro s hs
    rcases List.mem_append.1 hs with hs | hs
    · exact h s (by simp [hs])
    · rw [List.mem_singleton] at hs
      subst hs
      have := h r (by simp)
      exact ⟨this.1, by show r.f0 ≤ t + 1; omega, by show t + 1 ≤ 1000; omega⟩
  · rw [e]
    intro s hs
    rcases List.mem_append.1 hs with hs | hs
    · exact h s hs
    · rw [List.mem_singleton] at hs
      subst hs
      exact ⟨h0, by show t ≤ t + 1; omega, by show t + 1 ≤ 1000; omega⟩
theorem wide_run (p : Int → Bool) : ∀ (d : Nat) (o : List S82) (t : Int), 0 ≤ t → t + d ≤ 1000 → wide o → wide (run p o t d) := by
  intro d
  induction d with
  | zero => intro o t _ _ h; exact h
  | succ d ih =>
    intro o t h0 h1 h
    simp only [run]
    refine ih _ _ (by omega) (by omega) ?_
    split
    · exact wide_put o t h0 (by omega) h
    · exact h
def tot (l : List S82) : Int := l.foldl (fun n s => n + (s.f1 - s.f0)) 0
theorem tot_app (a : List S82) : ∀ (b : List S82) (n : Int), (a ++ b).foldl (fun n s => n + (s.f1 - s.f0)) n = b.foldl (fun n s => n + (s.f1 - s.f0)) (a.foldl (fun n s => n + (s.f1 - s.f0)) n) := by
  intro b n
  rw [List.foldl_append]
def cnt (p : Int → Bool) (t : Int) : Nat → Int
  | 0 => 0
  | d + 1 => (if p t = true then 1 else 0) + cnt p (t + 1) d
theorem tot_put (o : List S82) (t : Int) : tot (put o t) = tot o + 1 := by
  unfold tot
  rcases wput_snoc o t with ⟨q, r, rfl, h, e⟩ | e
  · rw [e, tot_app, tot_app]
    simp only [List.foldl_cons, List.foldl_nil]
    omega
  · rw [e, tot_app]
    simp only [List.foldl_cons, List.foldl_nil]
    omega
theorem tot_run (p : Int → Bool) : ∀ (d : Nat) (o : List S82) (t : Int), tot (run p o t d) = tot o + cnt p t d := by
  intro d
  induction d with
  | zero => intro o t; simp [run, cnt]
  | succ d ih =>
    intro o t
    simp only [run, cnt, ih]
    split
    · rw [tot_put]
      omega
    · omega
theorem cnt_out (p : Int → Bool) : ∀ (n : Nat) (t : Int), (∀ u, t ≤ u → u < t + n → p u = false) → cnt p t n = 0 := by
  intro n
  induction n with
  | zero => intro t h; rfl
  | succ n ih =>
    intro t h
    simp only [cnt, h t (by omega) (by omega), Bool.false_eq_true, if_false]
    rw [ih (t + 1) (fun u h1 h2 => h u (by omega) (by omega))]
    omega
theorem cnt_in (p : Int → Bool) : ∀ (n : Nat) (t : Int), (∀ u, t ≤ u → u < t + n → p u = true) → cnt p t n = n := by
  intro n
  induction n with
  | zero => intro t h; rfl
  | succ n ih =>
    intro t h
    simp only [cnt, h t (by omega) (by omega), ↓reduceIte]
    rw [ih (t + 1) (fun u h1 h2 => h u (by omega) (by omega))]
    omega
theorem cnt_add (p : Int → Bool) : ∀ (n m : Nat) (t : Int), cnt p t (n + m) = cnt p t n + cnt p (t + n) m := by
  intro n
  induction n with
  | zero => intro m t; simp [cnt]
  | succ n ih =>
    intro m t
    rw [show n + 1 + m = (n + m) + 1 by omega]
    simp only [cnt]
    rw [ih, show t + 1 + (n : Int) = t + ((n + 1 : Nat) : Int) by omega]
    omega
theorem iSum (l : List S82) (hl : l.length ≤ 1000) (hw : wide l) : ∀ (d : Nat) (n i : Int), 0 ≤ i → (l.length : Int) - i = d → 0 ≤ n → n ≤ 1000 * i →
    Ev (fun k => impl_TicksOf.l0 k n l (l.length : Int) i) ((l.drop i.toNat).foldl (fun n s => n + (s.f1 - s.f0)) n) := by
  intro d
  induction d with
  | zero =>
    intro n i h0 hd _ _
    rw [List.drop_eq_nil_of_le (by omega)]
    refine K.succ ?_
    simp only [impl_TicksOf.l0]
    exact K.neg (by omega) (Ev.now _)
  | succ d ih =>
    intro n i h0 hd hn hn2
    have w1 : wrap64 (i + 1) = i + 1 := K.wr (by omega) (by omega)
    have hm : rd_T82 l i ∈ l := by
      simp only [rd_T82, List.getD_eq_getElem?_getD, List.getElem?_eq_getElem (show i.toNat < l.length by omega), Option.getD_some]
      exact List.getElem_mem _
    obtain ⟨a0, a1, a2⟩ := hw _ hm
    rw [rdDrop l i h0 (by omega), List.foldl_cons]
    have g2 := ih (n + ((rd_T82 l i).f1 - (rd_T82 l i).f0)) (i + 1) (by omega) (by omega) (by omega) (by omega)
    refine K.succ ?_
    simp only [impl_TicksOf.l0, w1]
    rw [K.wr (x := (rd_T82 l i).f1 - (rd_T82 l i).f0) (by omega) (by omega), K.wr (x := n + ((rd_T82 l i).f1 - (rd_T82 l i).f0)) (by omega) (by omega)]
    exact K.pos (by omega) (K.pos h0 (K.pos (by omega) g2))
theorem iTicksOf (l : List S82) (hl : l.length ≤ 2097152) : Ev (fun k => impl_TicksOf.f k l) (cnt (inl l) 0 1000) := by
  have g2 := iJoin l hl
  have hw : wide (run (inl l) [] 0 1000) := wide_run _ 1000 [] 0 (by omega) (by omega) (by intro s hs; simp at hs)
  have hr : (run (inl l) [] 0 1000).length ≤ 1000 := Nat.le_trans (run_len _ 1000 [] 0) (by simp)
  have s2 := iSum _ hr hw _ 0 0 (by omega) rfl (by omega) (by omega)
  have e : (List.drop (0 : Int).toNat (run (inl l) [] 0 1000)).foldl (fun n s => n + (s.f1 - s.f0)) 0 = cnt (inl l) 0 1000 := by
    rw [show (0 : Int).toNat = 0 from rfl, List.drop_zero]
    refine (tot_run (inl l) 1000 [] 0).trans ?_
    rw [show tot ([] : List S82) = 0 from rfl, Int.zero_add]
  rw [e] at s2
  unfold impl_TicksOf.f
  exact Ev.bind g2 s2
theorem cnt_mono (p q : Int → Bool) (h : ∀ u, p u = true → q u = true) : ∀ (n : Nat) (t : Int), cnt p t n ≤ cnt q t n
  | 0, t => Int.le_refl _
  | n + 1, t => by
    have := cnt_mono p q h n (t + 1)
    simp only [cnt]
    by_cases c : p t = true
    · rw [if_pos c, if_pos (h t c)]
      omega
    · rw [if_neg c]
      split <;> omega
theorem cnt_span (s : S82) (h : vs s = true) : cnt (fun u => ins s u) 0 1000 = s.f1 - s.f0 := by
  have hv := h
  unfold vs at hv
  have hv := of_decide_eq_true hv
  have hp : ∀ u, ins s u = decide (s.f0 ≤ u ∧ u < s.f1) := by
    intro u
    unfold ins
    rw [h, Bool.true_and, ← Bool.decide_and]
  have e : (1000 : Nat) = s.f0.toNat + ((s.f1 - s.f0).toNat + (1000 - s.f1).toNat) := by omega
  rw [e, cnt_add, cnt_add, cnt_out, cnt_in, cnt_out]
  · omega
  · intro u h1 h2
    rw [hp]
    exact decide_eq_false (by omega)
  · intro u h1 h2
    rw [hp]
    exact decide_eq_true (by omega)
  · intro u h1 h2
    rw [hp]
    exact decide_eq_false (by omega)
theorem cnt_has (l : List S82) (s : S82) (hs : s ∈ l) (h : vs s = true) : s.f1 - s.f0 ≤ cnt (inl l) 0 1000 := by
  rw [← cnt_span s h]
  refine cnt_mono _ _ (fun u hu => ?_) 1000 0
  unfold inl
  rw [List.any_eq_true]
  exact ⟨s, hs, hu⟩
theorem inl_app (a b : List S82) (t : Int) : inl (a ++ b) t = (inl a t || inl b t) := by
  unfold inl
  rw [List.any_append]
theorem put_snoc (o : List S82) (t : Int) : (∃ q r, o = q ++ [r] ∧ r.f1 = t ∧ put o t = q ++ [⟨r.f0, t + 1⟩]) ∨ put o t = o ++ [⟨t, t + 1⟩] := by
  rcases List.eq_nil_or_concat o with rfl | ⟨q, r, rfl⟩
  · exact .inr rfl
  · have hl : ((q ++ [r]).length : Int) - 1 = (q.length : Int) := by simp
    have hrd : rd_T82 (q ++ [r]) (q.length : Int) = r := by
      simp [rd_T82, List.getD_eq_getElem?_getD]
    simp only [List.concat_eq_append]
    unfold put
    rw [if_pos (by simp), hl, hrd]
    by_cases c : r.f1 = t
    · rw [if_pos c]
      refine .inl ⟨q, r, rfl, c, ?_⟩
      simp
    · rw [if_neg c]
      exact .inr rfl
theorem ins_one (s : S82) (t : Int) : inl [s] t = ins s t := by
  simp [inl]
theorem put_ok (o : List S82) (t u : Int) (h0 : 0 ≤ t) (h1 : t < 1000) (hv : ∀ s ∈ o, vs s = true) : (∀ s ∈ put o t, vs s = true) ∧ inl (put o t) u = (inl o u || decide (u = t)) := by
  rcases put_snoc o t with ⟨q, r, rfl, hr, e⟩ | e
  · have hvr := hv r (by simp)
    unfold vs at hvr
    have hvr := of_decide_eq_true hvr
    have hn : vs (⟨r.f0, t + 1⟩ : S82) = true := by
      unfold vs
      exact decide_eq_true ⟨hvr.1, by show t + 1 ≤ 1000; omega, by show r.f0 < t + 1; omega⟩
    refine ⟨?_, ?_⟩
    · rw [e]
      intro s hs
      rcases List.mem_append.1 hs with hs | hs
      · exact hv s (by simp [hs])
      · rw [List.mem_singleton] at hs
        subst hs
        exact hn
    · rw [e, inl_app, inl_app, ins_one, ins_one, Bool.or_assoc]
      congr 1
      unfold ins
      rw [hn, hv r (by simp), Bool.true_and, Bool.true_and, ← Bool.decide_and, ← Bool.decide_and, ← Bool.decide_or]
      exact decide_eq_decide.2 (by show r.f0 ≤ u ∧ u < t + 1 ↔ (r.f0 ≤ u ∧ u < r.f1) ∨ u = t; omega)
  · have hn : vs (⟨t, t + 1⟩ : S82) = true := by
      unfold vs
      exact decide_eq_true ⟨h0, by show t + 1 ≤ 1000; omega, by show t < t + 1; omega⟩
    refine ⟨?_, ?_⟩
    · rw [e]
      intro s hs
      rcases List.mem_append.1 hs with hs | hs
      · exact hv s hs
      · rw [List.mem_singleton] at hs
        subst hs
        exact hn
    · rw [e, inl_app, ins_one]
      congr 1
      unfold ins
      rw [hn, Bool.true_and, ← Bool.decide_and]
      exact decide_eq_decide.2 (by show t ≤ u ∧ u < t + 1 ↔ u = t; omega)
theorem run_ok (p : Int → Bool) (u : Int) : ∀ (d : Nat) (o : List S82) (t : Int), 0 ≤ t → t + d ≤ 1000 → (∀ s ∈ o, vs s = true) → (∀ s ∈ run p o t d, vs s = true) ∧ inl (run p o t d) u = (inl o u || (decide (t ≤ u ∧ u < t + d) && p u)) := by
  intro d
  induction d with
  | zero =>
    intro o t h0 h1 hv
    refine ⟨hv, ?_⟩
    rw [decide_eq_false (by omega)]
    simp [run]
  | succ d ih =>
    intro o t h0 h1 hv
    simp only [run]
    by_cases c : p t = true
    · rw [if_pos c]
      obtain ⟨v1, e1⟩ := put_ok o t u h0 (by omega) hv
      obtain ⟨v2, e2⟩ := ih (put o t) (t + 1) (by omega) (by omega) v1
      refine ⟨v2, ?_⟩
      rw [e2, e1, Bool.or_assoc]
      congr 1
      by_cases hu : u = t
      · subst hu
        rw [decide_eq_true rfl, decide_eq_true (show u ≤ u ∧ u < u + ((d + 1 : Nat) : Int) by omega), c]
        rfl
      · rw [decide_eq_false hu, Bool.false_or]
        congr 1
        exact decide_eq_decide.2 (by omega)
    · rw [if_neg c]
      obtain ⟨v2, e2⟩ := ih o (t + 1) (by omega) (by omega) hv
      refine ⟨v2, ?_⟩
      rw [e2]
      congr 1
      by_cases hu : u = t
      · subst hu
        rw [Bool.eq_false_iff.2 c, Bool.and_false, Bool.and_false]
      · congr 1
        exact decide_eq_decide.2 (by omega)
theorem iIns (s : S82) (t : Int) : impl_InSpan.f s.f0 s.f1 t = some (ins s t) := by
  unfold impl_InSpan.f ins
  rw [iVs, Option.bind_some]
  cases vs s with
  | true =>
    rw [if_pos rfl]
    by_cases c : s.f0 ≤ t
    · rw [if_pos c]
      simp [c]
    · rw [if_neg c]
      simp [c]
  | false => rfl
theorem iInl (l : List S82) (hl : l.length ≤ 2097152) (t : Int) : ∀ (d : Nat) (i : Int), 0 ≤ i → (l.length : Int) - i = d → Ev (fun k => impl_InSpans.l0 k t l (l.length : Int) i) (inl (l.drop i.toNat) t) := by
  intro d
  induction d with
  | zero =>
    intro i h0 hd
    refine K.succ ?_
    simp only [impl_InSpans.l0]
    rw [List.drop_eq_nil_of_le (by omega)]
    exact K.neg (by omega) (Ev.now _)
  | succ d ih =>
    intro i h0 hd
    refine K.succ ?_
    simp only [impl_InSpans.l0, iIns]
    rw [K.wr (x := i + 1) (by omega) (by omega), rdDrop l i h0 (by omega)]
    refine K.pos (by omega) (K.pos h0 (K.pos (by omega) (K.known rfl ?_)))
    unfold inl
    rw [List.any_cons]
    cases ins (rd_T82 l i) t with
    | true => exact K.pos rfl (Ev.now _)
    | false => exact K.neg Bool.false_ne_true (ih (i + 1) (by omega) (by omega))
def win (p : Int → Bool) (a b : Int) : List S82 := run p [] (mx a 0) (mn b 1000 - mx a 0).toNat
theorem win_len (p : Int → Bool) (a b : Int) : (win p a b).length ≤ 1000 := by
  have hm : mn b 1000 ≤ 1000 := by unfold mn; split <;> omega
  have hx : 0 ≤ mx a 0 := by unfold mx; split <;> omega
  exact Nat.le_trans (run_len _ _ _ _) (by simp; omega)
theorem win_ok (p : Int → Bool) (a b u : Int) (h1 : a ≤ 1000) : (∀ s ∈ win p a b, vs s = true) ∧ inl (win p a b) u = (decide (0 ≤ u ∧ u < 1000 ∧ a ≤ u ∧ u < b) && p u) := by
  have hm : mn b 1000 = if b ≤ 1000 then b else 1000 := by unfold mn; split <;> split <;> omega
  have hx : mx a 0 = if 0 ≤ a then a else 0 := by unfold mx; split <;> split <;> omega
  have h := run_ok p u (mn b 1000 - mx a 0).toNat [] (mx a 0) (by rw [hx]; split <;> omega) (by rw [hx, hm]; (repeat' split) <;> omega) (by simp)
  refine ⟨h.1, ?_⟩
  unfold win
  rw [h.2, show inl ([] : List S82) u = false from rfl, Bool.false_or]
  congr 1
  refine decide_eq_decide.2 ?_
  rw [hx, hm]
  (repeat' split) <;> omega
theorem inSp (l : List S82) (hl : l.length ≤ 1000) (t : Int) : Ev (fun k => impl_InSpans.f k l t) (inl l t) := by
  unfold impl_InSpans.f
  exact iInl l (by omega) t l.length 0 (by omega) (by omega)
theorem gap_lip (s q m i : Int) (h0 : 0 ≤ i) (h1 : i ≤ 2 * m) (h2 : m ≤ 90) : gapV ((s % 360 + m) % 360) q - m ≤ gapV (s + i) q ∧ gapV (s + i) q ≤ gapV ((s % 360 + m) % 360) q + m := by
  have e1 : (s % 360 + m) % 360 % 360 = (s + m) % 360 := by omega
  unfold gapV
  rw [e1]
  have hd : ((s + i) % 360 - q % 360) % 360 = (s + i - q) % 360 := by omega
  have hd2 : ((s + m) % 360 - q % 360) % 360 = (s + m - q) % 360 := by omega
  rw [hd, hd2]
  have hx : s + i - q = (s + m - q) + (i - m) := by omega
  rw [hx]
  have hj : -m ≤ i - m ∧ i - m ≤ m := by omega
  generalize i - m = j at hj
  generalize s + m - q = x
  have hy : (x + j) % 360 = (x % 360 + j) % 360 := by omega
  rw [hy]
  have hz : 0 ≤ x % 360 ∧ x % 360 < 360 := by omega
  generalize x % 360 = y at hz
  have hc : (y + j) % 360 = if y + j < 0 then y + j + 360 else if y + j < 360 then y + j else y + j - 360 := by
    split
    · omega
    · split <;> omega
  rw [hc]
  unfold mn
  constructor
  · (repeat' split) <;> omega
  · (repeat' split) <;> omega
theorem gap_sym (a b : Int) : gapV a b = gapV b a := by
  unfold gapV
  have h1 : 0 ≤ a % 360 ∧ a % 360 < 360 := by omega
  have h2 : 0 ≤ b % 360 ∧ b % 360 < 360 := by omega
  generalize a % 360 = x at h1
  generalize b % 360 = y at h2
  have e1 : (x - y) % 360 = if x < y then x - y + 360 else x - y := by split <;> omega
  have e2 : (y - x) % 360 = if y < x then y - x + 360 else y - x := by split <;> omega
  rw [e1, e2]
  unfold mn
  (repeat' split) <;> omega
theorem and255 (n : Int) : Go.bits .and .i64 n 255 = n % 256 := by
  have h255 : (BitVec.ofInt 64 255).toNat = 2 ^ 8 - 1 := by decide
  have key : (BitVec.ofInt 64 n &&& BitVec.ofInt 64 255).toNat = (n % ((2 ^ 64 : Nat) : Int)).toNat % 2 ^ 8 := by
    rw [BitVec.toNat_and, BitVec.toNat_ofInt, h255, Nat.and_two_pow_sub_one_eq_mod]
  show IntKind.i64.wrap ((BitVec.ofInt 64 n &&& BitVec.ofInt 64 255).toNat : Nat) = n % 256
  rw [key, IntKind.wrap_i64]
  omega
theorem l1New (l : List Int) (hl : l.length ≤ 1048576) : ∃ h, Ev (fun k => spec_l1New.f k l) (l, 0, h) := by
  have loop : ∀ (d : Nat) (h i : Int), 0 ≤ i → (l.length : Int) - i = d → ∃ h', Ev (fun k => spec_l1New.l0 k l h i) (l, 0, h') := by
    intro d
    induction d with
    | zero =>
      intro h i h0 hd
      refine ⟨h, K.succ ?_⟩
      simp only [spec_l1New.l0]
      exact K.neg (by omega) (Ev.now _)
    | succ d ih =>
      intro h i h0 hd
      by_cases c : i < 4000
      · obtain ⟨h', g⟩ := ih (Go.bits .and .i64 (wrap64 ((wrap64 ((wrap64 (h * 137)) + (wrap64 (rd l i)))) + 11)) 1073741823) (i + 1) (by omega) (by omega)
        refine ⟨h', K.succ ?_⟩
        simp only [spec_l1New.l0]
        rw [K.wr (x := i + 1) (by omega) (by omega)]
        exact K.pos (by omega) (K.pos c (K.pos h0 g))
      · refine ⟨h, K.succ ?_⟩
        simp only [spec_l1New.l0]
        exact K.pos (by omega) (K.neg c (Ev.now _))
  unfold spec_l1New.f
  exact loop l.length _ 0 (by omega) (by omega)
theorem l1Byte (l : List Int) (hl : l.length ≤ 1048576) (i h : Int) (h0 : 0 ≤ i) (h1 : i ≤ (l.length : Int)) :
    ∃ v i' h', spec_l1Byte.f l i h = some (v, i', h') ∧ 0 ≤ v ∧ v ≤ 255 ∧ 0 ≤ i' ∧ i' ≤ (l.length : Int) := by
  unfold spec_l1Byte.f
  simp only [and255]
  by_cases c : i < (l.length : Int)
  · rw [if_pos c, if_pos h0, K.wr (x := i + 1) (by omega) (by omega)]
    exact ⟨_, _, _, rfl, by omega, by omega, by omega, by omega⟩
  · rw [if_neg c]
    exact ⟨_, _, _, rfl, by omega, by omega, h0, h1⟩
theorem l1Below (l : List Int) (hl : l.length ≤ 1048576) (i h : Int) (h0 : 0 ≤ i) (h1 : i ≤ (l.length : Int)) (n : Int) (hn : 0 < n) (hn2 : n ≤ 256) :
    ∃ v i' h', spec_l1Below.f l i h n = some (v, i', h') ∧ 0 ≤ v ∧ v < n ∧ 0 ≤ i' ∧ i' ≤ (l.length : Int) := by
  obtain ⟨v, i', h', e, a, b, c, d⟩ := l1Byte l hl i h h0 h1
  refine ⟨Int.tmod v n, i', h', ?_, Int.tmod_nonneg _ a, Int.tmod_lt_of_pos _ hn, c, d⟩
  unfold spec_l1Below.f
  rw [if_neg (by omega), if_pos hn2, e]
  simp only [Option.bind_some]
  rw [if_neg (by omega)]
theorem l1Once (l : List Int) (hl : l.length ≤ 1048576) (i h : Int) (h0 : 0 ≤ i) (h1 : i ≤ (l.length : Int)) (n : Int) (hn : 0 < n) (hn2 : n ≤ 256) :
    ∃ v i' h', spec_l1Once.f l i h n = some (v, i', h') ∧ 0 ≤ i' ∧ i' ≤ (l.length : Int) := by
  obtain ⟨v, i', h', e, a, b, c, d⟩ := l1Below l hl i h h0 h1 n hn hn2
  refine ⟨v == 0, i', h', ?_, c, d⟩
  unfold spec_l1Once.f
  rw [e]
  rfl
theorem l1Int (l : List Int) (hl : l.length ≤ 1048576) (i h : Int) (h0 : 0 ≤ i) (h1 : i ≤ (l.length : Int)) (xs : List Int) (hn : 0 < (xs.length : Int)) (hn2 : (xs.length : Int) ≤ 256) :
    ∃ v i' h', spec_l1Int.f l i h xs = some (v, i', h') ∧ v ∈ xs ∧ 0 ≤ i' ∧ i' ≤ (l.length : Int) := by
  obtain ⟨v, i', h', e, a, b, c, d⟩ := l1Below l hl i h h0 h1 _ hn hn2
  refine ⟨rd xs v, i', h', ?_, ?_, c, d⟩
  · unfold spec_l1Int.f
    rw [e]
    simp only [Option.bind_some]
    rw [if_pos a, if_pos b]
  · simp only [rd, List.getD_eq_getElem?_getD, List.getElem?_eq_getElem (show v.toNat < xs.length by omega), Option.getD_some]
    exact List.getElem_mem _
theorem l4Raw (l : List Int) (hl : l.length ≤ 1048576) (i h : Int) (h0 : 0 ≤ i) (h1 : i ≤ (l.length : Int)) : ∃ v i' h', spec_l4Raw.f l i h = some (v, i', h') ∧ 0 ≤ i' ∧ i' ≤ (l.length : Int) := by
  obtain ⟨b, i1, g1, e1, p1, q1⟩ := l1Once l hl i h h0 h1 6 (by omega) (by omega)
  unfold spec_l4Raw.f
  rw [e1, Option.bind_some]
  cases b with
  | true =>
    obtain ⟨v, i2, g2, e2, m2, p2, q2⟩ := l1Int l hl i1 g1 p1 q1 [(-1), 0, 1000, 1001, 9223372036854775807, (-9223372036854775808)] (by decide) (by decide)
    refine ⟨v, i2, g2, ?_, p2, q2⟩
    dsimp only
    rw [if_pos rfl, e2]
    rfl
  | false =>
    obtain ⟨v, i2, g2, e2, _, _, p2, q2⟩ := l1Below l hl i1 g1 p1 q1 40 (by omega) (by omega)
    refine ⟨v, i2, g2, ?_, p2, q2⟩
    dsimp only
    rw [if_neg Bool.false_ne_true, e2]
    rfl
def i64 (x : Int) : Prop := -9223372036854775808 ≤ x ∧ x ≤ 9223372036854775807
def skyOk (pl : Int) (sa : List S72) (si : List S74) (zo : List S88) : Prop :=
  i64 pl ∧ sa.length ≤ 8 ∧ si.length = 2 ∧ zo.length ≤ 1000 ∧ (∀ x ∈ sa, i64 x.f0 ∧ -1 ≤ x.f3 ∧ x.f3 ≤ 21) ∧ ∀ x ∈ si, i64 x.f0
def satOk (sa : List S72) : Prop := ∀ x ∈ sa, i64 x.f0 ∧ -1 ≤ x.f3 ∧ x.f3 ≤ 21
theorem sky1 (l : List Int) (hl : l.length ≤ 1048576) (pl rc cr vw su sh ac p n : Int) (hp0 : 0 ≤ p) (hp1 : p ≤ 1) : ∀ (d : Nat) (j : Int) (sa : List S72) (i h : Int), n - j = d → 0 ≤ j → n ≤ 3 → sa.length + d ≤ 8 → satOk sa → 0 ≤ i → i ≤ (l.length : Int) →
    ∃ (sa' : List S72) (i' h' : Int), sa'.length = sa.length + d ∧ satOk sa' ∧ 0 ≤ i' ∧ i' ≤ (l.length : Int) ∧ ∀ r, Ev (fun k => spec_l7Sky.l0 k (p + 1) l i' h' pl sa' rc cr vw su sh ac) r → Ev (fun k => spec_l7Sky.l1 k p n j l i h pl sa rc cr vw su sh ac) r := by
  intro d
  have w0 := Aside0.mk (K.wr (x := p + 1) (by omega) (by omega))
  induction d with
  | zero =>
    intro j sa i h hd hj hn hs ho h0 h1
    refine ⟨sa, i, h, rfl, ho, h0, h1, fun r g => K.succ ?_⟩
    simp only [spec_l7Sky.l1, w0.out]
    exact K.neg (by omega) g
  | succ d ih =>
    intro j sa i h hd hj hn hs ho h0 h1
    have w1 := Aside0.mk (K.wr (x := j + 1) (by omega) (by omega))
    obtain ⟨v1, i1, g1, e1, a1, b1, p1, q1⟩ := l1Below l hl i h h0 h1 2 (by omega) (by omega)
    obtain ⟨v2, i2, g2, e2, a2, b2, p2, q2⟩ := l1Below l hl i1 g1 p1 q1 2 (by omega) (by omega)
    obtain ⟨sa', i3, g3, k1, k2, k3, k4, k5⟩ := ih (j + 1) (sa ++ [⟨p, (wrap64 ((wrap64 (120 * j)) + (wrap64 (20 * p)))) % 360, wrap64 (10 - (wrap64 ((wrap64 (4 * p)) * v1))), v2⟩]) i2 g2 (by omega) (by omega) hn (by simp; omega) (by
      intro x hx
      rcases List.mem_append.1 hx with hx | hx
      · exact ho x hx
      · rw [List.mem_singleton] at hx
        subst hx
        exact ⟨⟨by show -9223372036854775808 ≤ p; omega, by show p ≤ 9223372036854775807; omega⟩, by show -1 ≤ v2; omega, by show v2 ≤ 21; omega⟩) p2 q2
    refine ⟨sa', i3, g3, by rw [k1]; simp; omega, k2, k3, k4, fun r g => K.succ ?_⟩
    simp only [spec_l7Sky.l1, sAngle, e1, e2, Option.bind_some, w1.out]
    exact K.pos (by omega) (K.pos (by omega) (k5 r g))
theorem l7Sky (l : List Int) (hl : l.length ≤ 1048576) (i h : Int) (h0 : 0 ≤ i) (h1 : i ≤ (l.length : Int)) : ∃ (pl : Int) (sa : List S72) (si : List S74) (rc cr vw su sh : Int) (zo : List S88) (ac i' h' : Int), skyOk pl sa si zo ∧ 0 < sa.length ∧ zo.length ≤ 8 ∧ 0 ≤ i' ∧ i' ≤ (l.length : Int) ∧ Ev (fun k => spec_l7Sky.f k l i h) (pl, sa, si, rc, cr, vw, su, sh, zo, ac, i', h') := by
  obtain ⟨v1, i1, g1, e1, a1, b1, p1, q1⟩ := l1Below l hl i h h0 h1 3 (by omega) (by omega)
  obtain ⟨v2, i2, g2, e2, a2, b2, p2, q2⟩ := l1Below l hl i1 g1 p1 q1 4 (by omega) (by omega)
  obtain ⟨v3, i3, g3, e3, a3, b3, p3, q3⟩ := l1Below l hl i2 g2 p2 q2 4 (by omega) (by omega)
  obtain ⟨v4, i4, g4, e4, a4, b4, p4, q4⟩ := l1Below l hl i3 g3 p3 q3 2 (by omega) (by omega)
  obtain ⟨v5, i5, g5, e5, a5, b5, p5, q5⟩ := l1Below l hl i4 g4 p4 q4 2 (by omega) (by omega)
  generalize hrc : wrap64 (120 + (wrap64 (10 * v1))) = rc
  generalize hcr : wrap64 (30 + (wrap64 (10 * v2))) = cr
  generalize hvw : wrap64 (50 + (wrap64 (10 * v3))) = vw
  obtain ⟨v6, i6, g6, e6, a6, b6, p6, q6⟩ := l1Below l hl i5 g5 p5 q5 2 (by omega) (by omega)
  have w6 := Aside0.mk (K.wr (x := 2 + v6) (by omega) (by omega))
  obtain ⟨sa, i7, g7, k1, k2, p7, q7, k3⟩ := sky1 l hl 2 rc cr vw v4 60 v5 0 (2 + v6) (by omega) (by omega) (2 + v6).toNat 0 [] i6 g6 (by omega) (by omega) (by omega) (by simp; omega) (by intro x hx; simp at hx) p6 q6
  obtain ⟨v8, i8, g8, e8, a8, b8, p8, q8⟩ := l1Below l hl i7 g7 p7 q7 2 (by omega) (by omega)
  have w8 := Aside0.mk (K.wr (x := 2 + v8) (by omega) (by omega))
  simp at k1
  obtain ⟨sb, i9, g9, m1, m2, p9, q9, m3⟩ := sky1 l hl 2 rc cr vw v4 60 v5 1 (2 + v8) (by omega) (by omega) (2 + v8).toNat 0 sa i8 g8 (by omega) (by omega) (by omega) (by omega) k2 p8 q8
  obtain ⟨v10, i10, g10, e10, a10, b10, p10, q10⟩ := l1Below l hl i9 g9 p9 q9 12 (by omega) (by omega)
  obtain ⟨v11, i11, g11, e11, a11, b11, p11, q11⟩ := l1Below l hl i10 g10 p10 q10 2 (by omega) (by omega)
  obtain ⟨v12, i12, g12, e12, a12, b12, p12, q12⟩ := l1Below l hl i11 g11 p11 q11 12 (by omega) (by omega)
  obtain ⟨v13, i13, g13, e13, p13, q13⟩ := l1Once l hl i12 g12 p12 q12 3 (by omega) (by omega)
  have hsi : ∀ x ∈ ([(⟨0, wrap64 (10 * v10), v11⟩ : S74), (⟨1, wrap64 (180 + (wrap64 (10 * v12))), 0⟩ : S74)] : List S74), i64 x.f0 := by
    intro x hx
    rcases List.mem_cons.1 hx with rfl | hx
    · exact ⟨by show (-9223372036854775808 : Int) ≤ 0; decide, by show (0 : Int) ≤ 9223372036854775807; decide⟩
    · rw [List.mem_singleton] at hx
      subst hx
      exact ⟨by show (-9223372036854775808 : Int) ≤ 1; decide, by show (1 : Int) ≤ 9223372036854775807; decide⟩
  have step : ∀ r, Ev (fun k => spec_l7Sky.l0 k 2 l i9 g9 2 sb rc cr vw v4 60 v5) r → Ev (fun k => spec_l7Sky.f k l i h) r := by
    intro r g
    unfold spec_l7Sky.f
    simp only [e1, e2, e3, e4, e5, Option.bind_some, hrc, hcr, hvw]
    refine K.succ ?_
    simp only [spec_l7Sky.l0, e6, Option.bind_some, w6.out]
    refine K.pos (by omega) (k3 r (K.succ ?_))
    rw [show (0 : Int) + 1 = 1 from rfl]
    simp only [spec_l7Sky.l0, e8, Option.bind_some, w8.out]
    exact K.pos (by omega) (m3 r g)
  cases v13 with
  | false =>
    refine ⟨2, sb, _, rc, cr, vw, v4, 60, [], v5, i13, g13, ⟨⟨by decide, by decide⟩, by omega, rfl, by simp, m2, hsi⟩, by omega, by simp, p13, q13, step _ (K.succ ?_)⟩
    simp only [spec_l7Sky.l0, e10, e11, e12, e13, Option.bind_some]
    exact K.neg (by omega) (K.neg Bool.false_ne_true (Ev.now _))
  | true =>
    obtain ⟨v14, i14, g14, e14, a14, b14, p14, q14⟩ := l1Below l hl i13 g13 p13 q13 2 (by omega) (by omega)
    obtain ⟨v15, i15, g15, e15, a15, b15, p15, q15⟩ := l1Below l hl i14 g14 p14 q14 36 (by omega) (by omega)
    obtain ⟨v16, i16, g16, e16, a16, b16, p16, q16⟩ := l1Below l hl i15 g15 p15 q15 5 (by omega) (by omega)
    refine ⟨2, sb, _, rc, cr, vw, v4, 60, [(⟨v14, ⟨wrap64 (10 * v15), wrap64 (10 * v16)⟩⟩ : S88)], v5, i16, g16, ⟨⟨by decide, by decide⟩, by omega, rfl, ?_, m2, hsi⟩, by omega, ?_, p16, q16, step _ (K.succ ?_)⟩
    rotate_left 2
    · simp only [spec_l7Sky.l0, e10, e11, e12, e13, e14, e15, e16, Option.bind_some]
      exact K.neg (by omega) (K.pos (by trivial) (Ev.now _))
    · simp
    · simp
theorem l5Angle (l : List Int) (hl : l.length ≤ 1048576) (i h : Int) (h0 : 0 ≤ i) (h1 : i ≤ (l.length : Int)) : ∃ v i' h', spec_l5Angle.f l i h = some (v, i', h') ∧ 0 ≤ i' ∧ i' ≤ (l.length : Int) := by
  obtain ⟨b, i1, g1, e1, p1, q1⟩ := l1Once l hl i h h0 h1 6 (by omega) (by omega)
  unfold spec_l5Angle.f
  simp only [e1, Option.bind_some]
  cases b with
  | true =>
    obtain ⟨v, i2, g2, e2, m2, p2, q2⟩ := l1Int l hl i1 g1 p1 q1 [(-1), (-360), (-361), 359, 360, 361, 9223372036854775807, (-9223372036854775808)] (by decide) (by decide)
    exact ⟨v, i2, g2, by rw [if_pos rfl, e2]; rfl, p2, q2⟩
  | false =>
    have hb : ∃ v i' h', spec_l1Below.f l i1 g1 360 = some (v, i', h') ∧ 0 ≤ i' ∧ i' ≤ (l.length : Int) := by
      obtain ⟨x, i2, g2, e2, a2, b2, p2, q2⟩ := l1Byte l hl i1 g1 p1 q1
      obtain ⟨y, i3, g3, e3, a3, b3, p3, q3⟩ := l1Byte l hl i2 g2 p2 q2
      obtain ⟨z, i4, g4, e4, a4, b4, p4, q4⟩ := l1Byte l hl i3 g3 p3 q3
      unfold spec_l1Below.f
      rw [if_neg (by decide), if_neg (by decide), e2]
      simp only [Option.bind_some, e3, e4]
      exact ⟨_, i4, g4, by first | rfl | (rw [if_neg (by decide)]), p4, q4⟩
    obtain ⟨v, i2, g2, e2, p2, q2⟩ := hb
    exact ⟨v, i2, g2, by rw [if_neg Bool.false_ne_true, e2]; rfl, p2, q2⟩
theorem l5Arc (l : List Int) (hl : l.length ≤ 1048576) (i h : Int) (h0 : 0 ≤ i) (h1 : i ≤ (l.length : Int)) : ∃ v u i' h', spec_l5Arc.f l i h = some (v, u, i', h') ∧ 0 ≤ i' ∧ i' ≤ (l.length : Int) := by
  obtain ⟨v1, i1, g1, e1, p1, q1⟩ := l5Angle l hl i h h0 h1
  obtain ⟨v2, i2, g2, e2, a2, b2, p2, q2⟩ := l1Below l hl i1 g1 p1 q1 80 (by omega) (by omega)
  obtain ⟨b, i3, g3, e3, p3, q3⟩ := l1Once l hl i2 g2 p2 q2 6 (by omega) (by omega)
  unfold spec_l5Arc.f
  simp only [e1, e2, e3, Option.bind_some]
  cases b with
  | true =>
    obtain ⟨v, i4, g4, e4, m4, p4, q4⟩ := l1Int l hl i3 g3 p3 q3 [(-1), 0, 359, 360, 9223372036854775807] (by decide) (by decide)
    exact ⟨v1, v, i4, g4, by rw [if_pos rfl, e4]; rfl, p4, q4⟩
  | false => exact ⟨v1, v2, i3, g3, by rw [if_neg Bool.false_ne_true], p3, q3⟩
theorem l6Any (l : List Int) (hl : l.length ≤ 1048576) (i h : Int) (h0 : 0 ≤ i) (h1 : i ≤ (l.length : Int)) : ∃ a b c d i' h', spec_l6Any.f l i h = some (a, b, c, d, i', h') ∧ i64 a ∧ -1 ≤ d ∧ d ≤ 21 ∧ 0 ≤ i' ∧ i' ≤ (l.length : Int) := by
  obtain ⟨v1, i1, g1, e1, a1, b1, p1, q1⟩ := l1Below l hl i h h0 h1 3 (by omega) (by omega)
  obtain ⟨v2, i2, g2, e2, a2, b2, p2, q2⟩ := l1Below l hl i1 g1 p1 q1 12 (by omega) (by omega)
  obtain ⟨v3, i3, g3, e3, m3, p3, q3⟩ := l1Int l hl i2 g2 p2 q2 [5, 10, 12, (-10), 0] (by decide) (by decide)
  obtain ⟨v4, i4, g4, e4, a4, b4, p4, q4⟩ := l1Below l hl i3 g3 p3 q3 3 (by omega) (by omega)
  obtain ⟨v5, i5, g5, e5, a5, b5, p5, q5⟩ := l1Below l hl i4 g4 p4 q4 9 (by omega) (by omega)
  have ha : i64 v1 := ⟨by omega, by omega⟩
  unfold spec_l6Any.f spec_l6Draw.f
  simp only [e1, e2, e3, e4, e5, Option.bind_some]
  by_cases c0 : v5 = 0
  · obtain ⟨v, i6, g6, e6, m6, p6, q6⟩ := l1Int l hl i5 g5 p5 q5 [(-1), 3, 9223372036854775807] (by decide) (by decide)
    refine ⟨v, _, v3, v4, i6, g6, by rw [if_pos c0, e6]; rfl, ?_, by omega, by omega, p6, q6⟩
    simp at m6
    rcases m6 with rfl | rfl | rfl <;> exact ⟨by decide, by decide⟩
  by_cases c1 : v5 = 1
  · obtain ⟨v, i6, g6, e6, p6, q6⟩ := l5Angle l hl i5 g5 p5 q5
    exact ⟨v1, v, v3, v4, i6, g6, by rw [if_neg c0, if_pos c1, e6]; rfl, ha, by omega, by omega, p6, q6⟩
  by_cases c2 : v5 = 2
  · obtain ⟨v, i6, g6, e6, m6, p6, q6⟩ := l1Int l hl i5 g5 p5 q5 [60, 61, (-60), (-61), 9223372036854775807] (by decide) (by decide)
    exact ⟨v1, _, v, v4, i6, g6, by rw [if_neg c0, if_neg c1, if_pos c2, e6]; rfl, ha, by omega, by omega, p6, q6⟩
  by_cases c3 : v5 = 3
  · obtain ⟨v, i6, g6, e6, m6, p6, q6⟩ := l1Int l hl i5 g5 p5 q5 [(-1), 20, 21] (by decide) (by decide)
    refine ⟨v1, _, v3, v, i6, g6, by rw [if_neg c0, if_neg c1, if_neg c2, if_pos c3, e6]; rfl, ha, ?_, ?_, p6, q6⟩
    · simp at m6
      omega
    · simp at m6
      omega
  · exact ⟨v1, _, v3, v4, i5, g5, by rw [if_neg c0, if_neg c1, if_neg c2, if_neg c3], ha, by omega, by omega, p5, q5⟩
theorem l7Any (l : List Int) (hl : l.length ≤ 1048576) (i h : Int) (h0 : 0 ≤ i) (h1 : i ≤ (l.length : Int)) : ∃ (pl : Int) (sa : List S72) (si : List S74) (rc cr vw su sh : Int) (zo : List S88) (ac i' h' : Int), skyOk pl sa si zo ∧ 0 ≤ i' ∧ i' ≤ (l.length : Int) ∧ Ev (fun k => spec_l7Any.f k l i h) (pl, sa, si, rc, cr, vw, su, sh, zo, ac, i', h') := by
  obtain ⟨pl, sa, si, rc, cr, vw, su, sh, zo, ac, i1, g1, ok, hs, hz8, p1, q1, e1⟩ := l7Sky l hl i h h0 h1
  obtain ⟨v, i2, g2, e2, a2, b2, p2, q2⟩ := l1Below l hl i1 g1 p1 q1 12 (by omega) (by omega)
  have ok' := ok
  obtain ⟨o1, o2, o3, o4, o5, o6⟩ := ok
  unfold spec_l7Any.f
  by_cases c0 : v = 0
  · obtain ⟨u, i3, g3, e3, m3, p3, q3⟩ := l1Int l hl i2 g2 p2 q2 [0, 1, 4, 5, (-9223372036854775808)] (by decide) (by decide)
    refine ⟨u, sa, si, rc, cr, vw, su, sh, zo, ac, i3, g3, ⟨?_, o2, o3, o4, o5, o6⟩, p3, q3, Ev.bind e1 (K.known e2 (K.pos c0 (K.known e3 (Ev.now _))))⟩
    simp at m3
    unfold i64
    omega
  by_cases c1 : v = 1
  · obtain ⟨a, b, c, d, i3, g3, e3, m1, m2, m3, p3, q3⟩ := l6Any l hl i2 g2 p2 q2
    refine ⟨pl, sa.set (0 : Int).toNat ⟨a, b, c, d⟩, si, rc, cr, vw, su, sh, zo, ac, i3, g3, ⟨o1, by rw [List.length_set]; exact o2, o3, o4, ?_, o6⟩, p3, q3, Ev.bind e1 (K.known e2 (K.neg c0 (K.pos c1 (K.known e3 (K.pos (by show 0 < (sa.length : Int); omega) (Ev.now _))))))⟩
    intro x hx
    rcases List.mem_or_eq_of_mem_set hx with hx | rfl
    · exact o5 x hx
    · exact ⟨m1, m2, m3⟩
  by_cases c2 : v = 2
  · obtain ⟨u, i3, g3, e3, p3, q3⟩ := l5Angle l hl i2 g2 p2 q2
    refine ⟨pl, sa, si.set (0 : Int).toNat ⟨(rd_T74 si 0).f0, u, (rd_T74 si 0).f2⟩, rc, cr, vw, su, sh, zo, ac, i3, g3, ⟨o1, o2, by rw [List.length_set]; exact o3, o4, o5, ?_⟩, p3, q3, Ev.bind e1 (K.known e2 (K.neg c0 (K.neg c1 (K.pos c2 (K.known e3 (K.pos (by show 0 < (si.length : Int); omega) (Ev.now _)))))))⟩
    intro x hx
    rcases List.mem_or_eq_of_mem_set hx with hx | rfl
    · exact o6 x hx
    · refine o6 (rd_T74 si 0) ?_
      simp only [rd_T74, List.getD_eq_getElem?_getD, List.getElem?_eq_getElem (show (0 : Int).toNat < si.length by rw [o3]; decide), Option.getD_some]
      exact List.getElem_mem _
  by_cases c3 : v = 3
  · obtain ⟨u, i3, g3, e3, m3, p3, q3⟩ := l1Int l hl i2 g2 p2 q2 [(-1), 180, 181] (by decide) (by decide)
    exact ⟨pl, sa, si, u, cr, vw, su, sh, zo, ac, i3, g3, ok', p3, q3, Ev.bind e1 (K.known e2 (K.neg c0 (K.neg c1 (K.neg c2 (K.pos c3 (K.known e3 (Ev.now _)))))))⟩
  by_cases c4 : v = 4
  · obtain ⟨u, i3, g3, e3, m3, p3, q3⟩ := l1Int l hl i2 g2 p2 q2 [(-1), 20, 21] (by decide) (by decide)
    exact ⟨pl, sa, si, rc, cr, vw, su, sh, zo, u, i3, g3, ok', p3, q3, Ev.bind e1 (K.known e2 (K.neg c0 (K.neg c1 (K.neg c2 (K.neg c3 (K.pos c4 (K.known e3 (Ev.now _))))))))⟩
  by_cases c5 : v = 5
  · obtain ⟨u, i3, g3, e3, a3, b3, p3, q3⟩ := l1Below l hl i2 g2 p2 q2 3 (by omega) (by omega)
    obtain ⟨x, y, i4, g4, e4, p4, q4⟩ := l5Arc l hl i3 g3 p3 q3
    have hz : zo.length < 5864062014805 := by omega
    refine ⟨pl, sa, si, rc, cr, vw, su, sh, zo ++ [⟨u, ⟨x, y⟩⟩], ac, i4, g4, ⟨o1, o2, o3, ?_, o5, o6⟩, p4, q4, Ev.bind e1 (K.known e2 (K.neg c0 (K.neg c1 (K.neg c2 (K.neg c3 (K.neg c4 (K.pos c5 (K.known e3 (K.known e4 (K.pos hz (Ev.now _)))))))))))⟩
    rw [List.length_append, List.length_singleton]
    omega
  by_cases c6 : v = 6
  · exact ⟨pl, [], si, rc, cr, vw, su, sh, zo, ac, i2, g2, ⟨o1, by simp, o3, o4, by simp, o6⟩, p2, q2, Ev.bind e1 (K.known e2 (K.neg c0 (K.neg c1 (K.neg c2 (K.neg c3 (K.neg c4 (K.neg c5 (K.pos c6 (Ev.now _)))))))))⟩
  by_cases c7 : v = 7
  · obtain ⟨u, i3, g3, e3, m3, p3, q3⟩ := l1Int l hl i2 g2 p2 q2 [61, (-60)] (by decide) (by decide)
    exact ⟨pl, sa, si, rc, cr, vw, u, sh, zo, ac, i3, g3, ok', p3, q3, Ev.bind e1 (K.known e2 (K.neg c0 (K.neg c1 (K.neg c2 (K.neg c3 (K.neg c4 (K.neg c5 (K.neg c6 (K.pos c7 (K.known e3 (Ev.now _)))))))))))⟩
  · exact ⟨pl, sa, si, rc, cr, vw, su, sh, zo, ac, i2, g2, ok', p2, q2, Ev.bind e1 (K.known e2 (K.neg c0 (K.neg c1 (K.neg c2 (K.neg c3 (K.neg c4 (K.neg c5 (K.neg c6 (K.neg c7 (Ev.now _))))))))))⟩
theorem drawWin (l : List Int) (hl : l.length ≤ 1048576) : ∃ (pl : Int) (sa : List S72) (si : List S74) (rc cr vw su sh : Int) (zo : List S88) (ac a b f t : Int), skyOk pl sa si zo ∧ -2 ≤ f ∧ f ≤ 17 ∧ t ≤ 57 ∧ Ev (fun k => spec_DrawSureWindows.f k l) (pl, sa, si, rc, cr, vw, su, sh, zo, ac, a, b, f, t) := by
  obtain ⟨h, e0⟩ := l1New l hl
  obtain ⟨pl, sa, si, rc, cr, vw, su, sh, zo, ac, i1, g1, ok, hs, hz, p1, q1, e1⟩ := l7Sky l hl 0 h (by omega) (by omega)
  obtain ⟨v2, i2, g2, e2, a2, b2, p2, q2⟩ := l1Below l hl i1 g1 p1 q1 8 (by omega) (by omega)
  obtain ⟨v3, i3, g3, e3, a3, b3, p3, q3⟩ := l1Below l hl i2 g2 p2 q2 8 (by omega) (by omega)
  obtain ⟨v4, i4, g4, e4, a4, b4, p4, q4⟩ := l1Below l hl i3 g3 p3 q3 20 (by omega) (by omega)
  obtain ⟨v5, i5, g5, e5, a5, b5, p5, q5⟩ := l1Below l hl i4 g4 p4 q4 40 (by omega) (by omega)
  refine ⟨pl, sa, si, rc, cr, vw, su, sh, zo, ac, v2, v3, v4 - 2, v4 - 2 + v5, ok, by omega, by omega, by omega, ?_⟩
  unfold spec_DrawSureWindows.f
  refine Ev.bind e0 (Ev.bind e1 (K.known e2 (K.known e3 (K.known e4 (K.known e5 ?_)))))
  dsimp only
  rw [K.wr (x := v4 - 2) (by omega) (by omega), K.wr (x := v4 - 2 + v5) (by omega) (by omega)]
  exact Ev.now _
theorem nodeEven (sa : List S72) (i : Int) (ho : satOk sa) : ∃ m, 0 ≤ m ∧ m ≤ 21 ∧ nodeW sa i = 2 * m := by
  unfold nodeW
  by_cases c : 0 ≤ i ∧ i < (sa.length : Int)
  · rw [if_pos c]
    have hm : rd_T72 sa i ∈ sa := by
      simp only [rd_T72, List.getD_eq_getElem?_getD, List.getElem?_eq_getElem (show i.toNat < sa.length by omega), Option.getD_some]
      exact List.getElem_mem _
    obtain ⟨_, h1, h2⟩ := ho _ hm
    unfold widW
    by_cases c2 : 0 ≤ (rd_T72 sa i).f3 ∧ (rd_T72 sa i).f3 ≤ 360
    · rw [if_pos c2]
      exact ⟨(rd_T72 sa i).f3, c2.1, h2, by unfold mn; split <;> omega⟩
    · rw [if_neg c2]
      exact ⟨0, by omega, by omega, by omega⟩
  · rw [if_neg c]
    exact ⟨0, by omega, by omega, by omega⟩


theorem drawLit (l : List Int) (hl : l.length ≤ 1048576) : ∃ (pl : Int) (sa : List S72) (si : List S74) (rc cr vw su sh : Int) (zo : List S88) (ac a f t : Int), skyOk pl sa si zo ∧ -2 ≤ f ∧ f ≤ 17 ∧ t ≤ 57 ∧ Ev (fun k => spec_DrawLitSpans.f k l) (pl, sa, si, rc, cr, vw, su, sh, zo, ac, a, f, t) := by
  obtain ⟨pl, sa, si, rc, cr, vw, su, sh, zo, ac, a, b, f, t, ok, h1, h2, h3, e⟩ := drawWin l hl
  refine ⟨pl, sa, si, rc, cr, vw, su, sh, zo, ac, a, f, t, ok, h1, h2, h3, ?_⟩
  unfold spec_DrawLitSpans.f
  exact Ev.bind e (Ev.now _)
theorem drawSh (l : List Int) (hl : l.length ≤ 1048576) : ∃ (pl : Int) (sa : List S72) (si : List S74) (rc cr vw su sh : Int) (zo : List S88) (ac a t : Int), skyOk pl sa si zo ∧ Ev (fun k => spec_DrawShadowAt.f k l) (pl, sa, si, rc, cr, vw, su, sh, zo, ac, a, t) := by
  obtain ⟨h, e0⟩ := l1New l hl
  obtain ⟨pl, sa, si, rc, cr, vw, su, sh, zo, ac, i1, g1, ok, p1, q1, e1⟩ := l7Any l hl 0 h (by omega) (by omega)
  obtain ⟨v2, i2, g2, e2, a2, b2, p2, q2⟩ := l1Below l hl i1 g1 p1 q1 11 (by omega) (by omega)
  obtain ⟨v3, i3, g3, e3, p3, q3⟩ := l4Raw l hl i2 g2 p2 q2
  refine ⟨pl, sa, si, rc, cr, vw, su, sh, zo, ac, wrap64 (v2 - 1), v3, ok, ?_⟩
  unfold spec_DrawShadowAt.f spec_DrawNodeAt.f
  exact Ev.bind (Ev.bind e0 (Ev.bind e1 (K.known e2 (K.known e3 (Ev.now _))))) (Ev.now _)
theorem iLits (pl : Int) (sa : List S72) (si : List S74) (rc cr vw su sh : Int) (zo : List S88) (ac : Int) (hn : (sa.length : Int) + si.length ≤ 4194304) (i a b : Int) : Ev (fun k => impl_LitSpans.f k pl sa si rc cr vw su sh zo ac i a b) (win (fun t => shadV sa si su sh i t == 0) a b) := by
  have hm : mn b 1000 ≤ 1000 := by unfold mn; split <;> omega
  have hx : 0 ≤ mx a 0 := by unfold mx; split <;> omega
  unfold impl_LitSpans.f where_impl_LitSpans_1.f sw.f
  refine Ev.bind (whereRun (fun _ t' => impl_LitSpans_1.f t' pl sa si rc cr vw su sh zo ac i) (fun t => shadV sa si su sh i t == 0) b (fun t _ _ => ?_) _ [] (mx a 0) hx rfl (by simp; omega)) (Ev.now _)
  unfold impl_LitSpans_1.f
  exact K.known (iShadow pl sa si rc cr vw su sh zo ac hn i t) (Ev.now _)
theorem iDarks (pl : Int) (sa : List S72) (si : List S74) (rc cr vw su sh : Int) (zo : List S88) (ac : Int) (hn : (sa.length : Int) + si.length ≤ 4194304) (i a b : Int) : Ev (fun k => impl_DarkSpans.f k pl sa si rc cr vw su sh zo ac i a b) (win (fun t => shadV sa si su sh i t != 0) a b) := by
  have hm : mn b 1000 ≤ 1000 := by unfold mn; split <;> omega
  have hx : 0 ≤ mx a 0 := by unfold mx; split <;> omega
  unfold impl_DarkSpans.f where_impl_DarkSpans_1.f sw.f
  refine Ev.bind (whereRun (fun _ t' => impl_DarkSpans_1.f t' pl sa si rc cr vw su sh zo ac i) (fun t => shadV sa si su sh i t != 0) b (fun t _ _ => ?_) _ [] (mx a 0) hx rfl (by simp; omega)) (Ev.now _)
  unfold impl_DarkSpans_1.f
  exact K.known (iShadow pl sa si rc cr vw su sh zo ac hn i t) (Ev.now _)
theorem iLongest (B : Int) (l : List S82) (hl : l.length ≤ 1000) (hB : ∀ s ∈ l, vs s = true ∧ s.f1 - s.f0 ≤ B) : ∀ (d : Nat) (n i : Int), 0 ≤ i → (l.length : Int) - i = d → n ≤ B → ∃ v, v ≤ B ∧ Ev (fun k => impl_LongestDark.l0 k n l (l.length : Int) i) v := by
  intro d
  induction d with
  | zero =>
    intro n i h0 hd hn
    refine ⟨n, hn, K.succ ?_⟩
    simp only [impl_LongestDark.l0]
    exact K.neg (by omega) (Ev.now _)
  | succ d ih =>
    intro n i h0 hd hn
    have hm : rd_T82 l i ∈ l := by
      simp only [rd_T82, List.getD_eq_getElem?_getD, List.getElem?_eq_getElem (show i.toNat < l.length by omega), Option.getD_some]
      exact List.getElem_mem _
    obtain ⟨hv, hb⟩ := hB _ hm
    unfold vs at hv
    have hv := of_decide_eq_true hv
    have w1 := Aside0.mk (K.wr (x := i + 1) (by omega) (by omega))
    have w2 := Aside0.mk (K.wr (x := (rd_T82 l i).f1 - (rd_T82 l i).f0) (by omega) (by omega))
    obtain ⟨v, h1, g2⟩ := ih (mx n ((rd_T82 l i).f1 - (rd_T82 l i).f0)) (i + 1) (by omega) (by omega) (by unfold mx; split <;> omega)
    refine ⟨v, h1, K.succ ?_⟩
    simp only [impl_LongestDark.l0, w1.out, w2.out]
    exact K.pos (by omega) (K.pos h0 (K.pos (by omega) g2))
theorem shIs (sa : List S72) (si : List S74) (su sh b t i : Int) (ho : satOk sa) (h0 : 0 ≤ i) (h1 : i ≤ nodeW sa b) (hb : 0 ≤ b ∧ b < (sa.length : Int)) (hn : shadV sa si su sh b t ≠ 1) : decide (gapV (nodeS sa si b t + i) (placeV 0 su t + 180) ≤ sh) = (shadV sa si su sh b t == 2) := by
  obtain ⟨m, m0, m1, e⟩ := nodeEven sa b ho
  have hl := gap_lip (nodeS sa si b t) (placeV 0 su t + 180) m i h0 (by omega) (by omega)
  have hmid : midV (nodeS sa si b t) (nodeW sa b) = (nodeS sa si b t % 360 + m) % 360 := by
    unfold midV
    rw [e, if_pos (by omega)]
    congr 2
    omega
  revert hn
  unfold shadV
  rw [if_pos hb, hmid, e, show 2 * m / 2 = m by omega]
  generalize gapV ((nodeS sa si b t % 360 + m) % 360) (placeV 0 su t + 180) = g at hl
  generalize gapV (nodeS sa si b t + i) (placeV 0 su t + 180) = q at hl
  by_cases c1 : g - m > sh
  · rw [if_pos c1]
    intro _
    rw [decide_eq_false (by omega)]
    rfl
  · rw [if_neg c1]
    by_cases c2 : g + m ≤ sh
    · rw [if_pos c2]
      intro _
      rw [decide_eq_true (by omega)]
      rfl
    · rw [if_neg c2]
      intro h
      exact absurd rfl h
theorem loop1 (pl : Int) (sa : List S72) (si : List S74) (rc cr vw su sh : Int) (zo : List S88) (ac : Int) (x0 : Int) (xa : List S72) (xi : List S74) (x3 x4 x5 x6 x7 : Int) (xz : List S88) (x9 : Int) (hn : (sa.length : Int) + si.length ≤ 4194304) (ho : satOk sa) (a f tt : Int) (dk : List S82) (b t : Int)
    (lo c : Int) (hlo : Ev (fun k => impl_LongestDark.f k x0 xa xi x3 x4 x5 x6 x7 xz x9 a f tt) lo) (hc : Ev (fun k => impl_TicksOf.f k dk) c) (hle : lo ≤ c) : ∀ (d : Nat) (i : Int), 0 ≤ i → nodeW sa b + 1 - i ≤ d → Ev (fun k => laws_FnShadows.l1 k a f tt dk b t (shadV sa si su sh b t) i x0 xa xi x3 x4 x5 x6 x7 xz x9 pl sa si rc cr vw su sh zo ac (nodeS sa si b t) (nodeW sa b)) true := by
  have fin : ∀ i, Ev (fun k => laws_FnShadows.j3 k a f tt dk b t (shadV sa si su sh b t) i false x0 xa xi x3 x4 x5 x6 x7 xz x9 pl sa si rc cr vw su sh zo ac (nodeS sa si b t) (nodeW sa b)) true := by
    intro i
    refine K.succ ?_
    simp only [laws_FnShadows.j3]
    refine K.neg Bool.false_ne_true (Ev.bind hlo (Ev.bind hc ?_))
    rw [decide_eq_true hle]
    exact Ev.now _
  intro d
  induction d with
  | zero =>
    intro i h0 hd
    refine K.succ ?_
    simp only [laws_FnShadows.l1]
    exact K.neg (by omega) (fin i)
  | succ d ih =>
    intro i h0 hd
    refine K.succ ?_
    simp only [laws_FnShadows.l1]
    by_cases ci : i ≤ nodeW sa b
    · refine K.pos ci ?_
      by_cases c1 : shadV sa si su sh b t = 1
      · exact K.pos c1 (fin i)
      · refine K.neg c1 ?_
        by_cases c2 : b ≥ 0
        · refine K.pos c2 ?_
          by_cases c3 : b < (sa.length : Int)
          · rw [decide_eq_true c3]
            have hw := node_range sa si b t
            have hs := place_range 0 su t
            have w1 := Aside0.mk (K.wr (x := i + 1) (by omega) (by omega))
            have w2 := Aside0.mk (K.wr (x := nodeS sa si b t + i) (by omega) (by omega))
            have w3 := Aside0.mk (K.wr (x := placeV 0 su t + 180) (by omega) (by omega))
            refine K.succ ?_
            simp only [laws_FnShadows.j3, iSun, iGap, Option.bind_some, w1.out, w2.out, w3.out]
            refine K.pos trivial ?_
            rw [shIs sa si su sh b t i ho h0 ci ⟨c2, c3⟩ c1]
            exact K.neg (by simp) (ih (i + 1) (by omega) (by omega))
          · rw [decide_eq_false c3]
            exact fin i
        · exact K.neg c2 (fin i)
    · exact K.neg ci (fin i)
theorem loop0 (pl : Int) (sa : List S72) (si : List S74) (rc cr vw su sh : Int) (zo : List S88) (ac : Int) (hn : (sa.length : Int) + si.length ≤ 4194304) (code : List Int) (a f tt : Int) (hf : -2 ≤ f) (hf2 : f ≤ 17) (ht : tt ≤ 57) (g : ∀ t, tt ≤ t → Ev (fun k => laws_FnShadows.l0 k code a f tt (win (fun t => shadV sa si su sh a t == 0) f tt) (win (fun t => shadV sa si su sh a t != 0) f tt) t pl sa si rc cr vw su sh zo ac) true) : ∀ (d : Nat) (t : Int), f ≤ t → tt - t ≤ d → Ev (fun k => laws_FnShadows.l0 k code a f tt (win (fun t => shadV sa si su sh a t == 0) f tt) (win (fun t => shadV sa si su sh a t != 0) f tt) t pl sa si rc cr vw su sh zo ac) true := by
  intro d
  induction d with
  | zero => intro t h0 hd; exact g t (by omega)
  | succ d ih =>
    intro t h0 hd
    by_cases ct : t < tt
    · have l1 := inSp (win (fun t => shadV sa si su sh a t == 0) f tt) (win_len _ _ _) t
      have l2 := inSp (win (fun t => shadV sa si su sh a t != 0) f tt) (win_len _ _ _) t
      rw [(win_ok _ f tt t (by omega)).2] at l1 l2
      have w1 := Aside0.mk (K.wr (x := t + 1) (by omega) (by omega))
      have nx := ih (t + 1) (by omega) (by omega)
      refine K.succ ?_
      simp only [laws_FnShadows.l0]
      refine K.pos ct ?_
      by_cases c0 : t ≥ 0
      · refine K.pos c0 ?_
        rw [decide_eq_true (show t < 1000 by omega)]
        rw [decide_eq_true (show 0 ≤ t ∧ t < 1000 ∧ f ≤ t ∧ t < tt by omega), Bool.true_and] at l1 l2
        refine K.succ ?_
        simp only [laws_FnShadows.j1, iShadow pl sa si rc cr vw su sh zo ac hn, Option.bind_some, w1.out]
        exact Ev.bind l1 (K.pos trivial (K.neg (by simp) (Ev.bind l2 (K.neg (by simp) nx))))
      · refine K.neg c0 ?_
        rw [decide_eq_false (show ¬ (0 ≤ t ∧ t < 1000 ∧ f ≤ t ∧ t < tt) by omega), Bool.false_and] at l1 l2
        refine K.succ ?_
        simp only [laws_FnShadows.j1, w1.out]
        exact Ev.bind l1 (K.neg Bool.false_ne_true (K.neg (by simp) (Ev.bind l2 (K.neg (by simp) nx))))
    · exact g t (by omega)
end LFnShadows
theorem FnShadows (l : List Int) : ∃ k, laws_FnShadows.f k l = some true := by
  refine K.rounds (g := fun k => laws_FnShadows.f k l) ?_
  unfold laws_FnShadows.f laws_big.f
  refine K.known rfl ?_
  by_cases c : (l.length : Int) > 1048576
  · exact K.pos (decide_eq_true c) (Ev.now _)
  refine K.neg (by simp; omega) ?_
  obtain ⟨pl, sa, si, rc, cr, vw, su, sh, zo, ac, a, f, tt, ⟨o1, o2, o3, o4, o5, o6⟩, hf, hf2, ht, e1⟩ := LFnShadows.drawLit l (by omega)
  obtain ⟨pl', sa', si', rc', cr', vw', su', sh', zo', ac', b, t, ⟨p1, p2, p3, p4, p5, p6⟩, e2⟩ := LFnShadows.drawSh l (by omega)
  have hn : (sa.length : Int) + si.length ≤ 4194304 := by omega
  have hn' : (sa'.length : Int) + si'.length ≤ 4194304 := by omega
  have d1 := LFnShadows.iDarks pl sa si rc cr vw su sh zo ac hn a f tt
  have hc := LFnShadows.iTicksOf (LFnShadows.win (fun t => LFnShadows.shadV sa si su sh a t != 0) f tt) (by have := LFnShadows.win_len (fun t => LFnShadows.shadV sa si su sh a t != 0) f tt; omega)
  have hB : ∀ s ∈ LFnShadows.win (fun t => LFnShadows.shadV sa si su sh a t != 0) f tt, LFnShadows.vs s = true ∧ s.f1 - s.f0 ≤ LFnShadows.cnt (LFnShadows.inl (LFnShadows.win (fun t => LFnShadows.shadV sa si su sh a t != 0) f tt)) 0 1000 := by
    intro s hs
    have h1 := (LFnShadows.win_ok (fun t => LFnShadows.shadV sa si su sh a t != 0) f tt 0 (by omega)).1 s hs
    exact ⟨h1, LFnShadows.cnt_has _ s hs h1⟩
  have h0 : ∀ (p : Int → Bool) (n : Nat) (t : Int), 0 ≤ LFnShadows.cnt p t n := by
    intro p n
    induction n with
    | zero => intro t; exact Int.le_refl _
    | succ n ih =>
      intro t
      have := ih (t + 1)
      simp only [LFnShadows.cnt]
      split <;> omega
  obtain ⟨lo, hlo, hlo2⟩ := LFnShadows.iLongest _ _ (LFnShadows.win_len _ f tt) hB _ 0 0 (by omega) (by rw [Int.sub_zero]) (h0 _ _ _)
  refine Ev.bind e1 ?_
  dsimp only
  refine Ev.bind (LFnShadows.iLits pl sa si rc cr vw su sh zo ac hn a f tt) (Ev.bind d1 ?_)
  refine LFnShadows.loop0 pl sa si rc cr vw su sh zo ac hn l a f tt hf hf2 ht (fun u hu => ?_) (tt - f).toNat f (by omega) (by omega)
  refine K.succ ?_
  simp only [laws_FnShadows.l0]
  refine K.neg (by omega) (Ev.bind e2 ?_)
  dsimp only
  refine K.known (LFnShadows.iShadow pl' sa' si' rc' cr' vw' su' sh' zo' ac' hn' b t) (K.known (LFnShadows.iNode pl' sa' si' rc' cr' vw' su' sh' zo' ac' hn' b t) ?_)
  have hw := LFnShadows.node_range sa' si' b t
  exact LFnShadows.loop1 pl' sa' si' rc' cr' vw' su' sh' zo' ac' pl sa si rc cr vw su sh zo ac hn' p5 a f tt _ b t lo _ (by unfold impl_LongestDark.f; exact Ev.bind d1 hlo2) hc hlo 400 0 (by omega) (by omega)

end Go.Proofs.Ytopbkdcicidajaa.Pure
