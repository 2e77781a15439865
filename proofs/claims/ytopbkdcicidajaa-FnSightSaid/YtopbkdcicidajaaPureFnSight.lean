/- At every code of at most 2^20 bytes, two nodes of the drawn sky see each other alike from both ends, surely only where every place of both is near enough and not at all only where none is, and the windows of sure sight are the ticks of sure sight. -/
import Derived.Test.YtopbkdcicidajaaQFnSightx
import Derived.Test.YtopbkdcicidajaaKKit
namespace Go.Proofs.Ytopbkdcicidajaa.Pure
open Go.RowKit Go.Proofs.Ytopbkdcicidajaa.PFnSight Go.Proofs.YtopbkdcicidajaaW.PrintWords Go.Proofs.YtopbkdcicidajaaW.PrintLast Go.Proofs.YtopbkdcicidajaaW.PrintMore Go.Proofs.Ytopbkdcicidajaa
set_option linter.unusedSimpArgs false
set_option linter.unusedVariables false
namespace LFnSight
theorem l1In (a b c : Int) : spec_l1In.f a b c = some (decide (b ≤ a ∧ a ≤ c)) := by
  unfold spec_l1In.f
  split <;> (try split) <;> first | rfl | (congr 1; exact decide_eq_decide.2 (by omega)) | (congr 1; exact (decide_eq_false (by omega)).symm)
theorem InRange (a b c : Int) : impl_InRange.f a b c = some (decide (b ≤ a ∧ a ≤ c)) := by
  unfold impl_InRange.f
  split <;> (try split) <;> first | rfl | (congr 1; exact decide_eq_decide.2 (by omega)) | (congr 1; exact (decide_eq_false (by omega)).symm)
theorem iIsSite (pl : Int) (sa : List S72) (si : List S74) (rc cr vw su sh : Int) (zo : List S88) (ac : Int) (hn : (sa.length : Int) + si.length ≤ 4194304) (i : Int) : impl_IsSite.f pl sa si rc cr vw su sh zo ac i = some (decide ((sa.length : Int) ≤ i ∧ i < (sa.length : Int) + si.length)) := by
  unfold impl_IsSite.f impl_NodesOf.f
  simp only [Option.bind_some, InRange]
  rw [K.wr (x := (sa.length : Int) + si.length) (by omega) (by omega), K.wr (by omega) (by omega)]
  congr 1
  exact decide_eq_decide.2 (by omega)
theorem iIsSat (pl : Int) (sa : List S72) (si : List S74) (rc cr vw su sh : Int) (zo : List S88) (ac : Int) (hn : (sa.length : Int) + si.length ≤ 4194304) (i : Int) : impl_isSatellite.f pl sa si rc cr vw su sh zo ac i = some (decide (0 ≤ i ∧ i < (sa.length : Int))) := by
  unfold impl_isSatellite.f
  simp only [Option.bind_some, InRange]
  rw [K.wr (by omega) (by omega)]
  congr 1
  exact decide_eq_decide.2 (by omega)
theorem sIsSat (sa : List S72) (hn : (sa.length : Int) ≤ 4194304) (i : Int) : spec_l1In.f i 0 (wrap64 ((sa.length : Int) - 1)) = some (decide (0 ≤ i ∧ i < (sa.length : Int))) := by
  rw [l1In, K.wr (by omega) (by omega)]
  congr 1
  exact decide_eq_decide.2 (by omega)
theorem sAngle (n : Int) : spec_AngleOf.f n = some (n % 360) := by
  unfold spec_AngleOf.f spec_Mod.f
  have e : decide ((1 : Int) ≤ 360 ∧ (360 : Int) ≤ 1000000000000) = true := by decide
  simp only [l1In, e, Option.bind_some, ↓reduceIte]
  rw [if_neg (by omega)]
  have h := Int.tmod_eq_emod (a := n) (b := 360)
  have hb : -360 < Int.tmod n 360 ∧ Int.tmod n 360 < 360 := by
    rw [h]
    split <;> omega
  rw [K.wr (by omega) (by omega), Int.tmod_eq_emod_of_nonneg (by omega)]
  simp only [Option.bind_some]
  congr 1
  rw [h]
  split <;> omega
theorem iAngle (n : Int) : impl_AngleOf.f n = some (n % 360) := by
  unfold impl_AngleOf.f impl_Mod.f
  have e : decide ((1 : Int) ≤ 360 ∧ (360 : Int) ≤ 1000000000000) = true := by decide
  simp only [InRange, e, Option.bind_some, ↓reduceIte]
  rw [if_neg (by omega)]
  have h := Int.tmod_eq_emod (a := n) (b := 360)
  have hb : -360 < Int.tmod n 360 ∧ Int.tmod n 360 < 360 := by
    rw [h]
    split <;> omega
  have hd : (360 : Int) ∣ n → Int.tmod n 360 = n % 360 := by
    intro hd
    rw [h, if_pos (Or.inr hd)]
    simp
  by_cases c : Int.tmod n 360 < 0
  · rw [if_pos c, K.wr (by omega) (by omega)]
    simp only [Option.bind_some]
    congr 1
    rw [h] at c ⊢
    split at c <;> split <;> omega
  · rw [if_neg c]
    simp only [Option.bind_some]
    congr 1
    rw [h] at c ⊢
    split at c <;> split <;> omega
def placeV (ph sp t : Int) : Int := (ph % 360 + (if -60 ≤ sp ∧ sp ≤ 60 then sp else 0) * (if 0 ≤ t ∧ t ≤ 1000 then t else 0)) % 360
theorem place_bd (s t : Int) (hs : -60 ≤ s ∧ s ≤ 60) (ht : 0 ≤ t ∧ t ≤ 1000) : -60000 ≤ s * t ∧ s * t ≤ 60000 := by
  have h1 : s * t ≤ 60 * t := Int.mul_le_mul_of_nonneg_right hs.2 ht.1
  have h2 : -60 * t ≤ s * t := Int.mul_le_mul_of_nonneg_right hs.1 ht.1
  omega
theorem iPlace (a ph sp e t : Int) : impl_PlaceAt.f a ph sp e t = some (placeV ph sp t) := by
  unfold impl_PlaceAt.f placeV impl_speedOf.f
  simp only [InRange, iAngle, Option.bind_some, decide_eq_true_eq]
  by_cases ct : 0 ≤ t ∧ t ≤ 1000
  · rw [if_pos ct]
    by_cases cs : -60 ≤ sp ∧ sp ≤ 60
    · have := place_bd sp t cs ct
      rw [if_pos cs]
      simp only [Option.bind_some, if_pos ct, if_pos cs]
      rw [K.wr (x := sp * t) (by omega) (by omega), K.wr (by omega) (by omega)]
    · rw [if_neg cs]
      simp only [Option.bind_some, if_pos ct, if_neg cs]
      rw [K.wr (x := 0 * t) (by omega) (by omega), K.wr (by omega) (by omega)]
  · rw [if_neg ct]
    by_cases cs : -60 ≤ sp ∧ sp ≤ 60
    · rw [if_pos cs]
      simp only [Option.bind_some, if_neg ct]
      rw [K.wr (by omega) (by omega), Int.mul_zero, Int.add_zero]
    · rw [if_neg cs]
      simp only [Option.bind_some, if_neg ct]
      rw [K.wr (by omega) (by omega), Int.mul_zero, Int.add_zero]
theorem place_range (ph sp t : Int) : 0 ≤ placeV ph sp t ∧ placeV ph sp t < 360 := by unfold placeV; omega
theorem iWidth (n : Int) : impl_isWidth.f n = some (decide (0 ≤ n ∧ n ≤ 359)) := by
  unfold impl_isWidth.f
  simp only [InRange, Option.bind_some]
/-- The arc about a place, as wide as an error says: its start and its width. -/
def widS (p e : Int) : Int := if 0 ≤ e ∧ e ≤ 360 then (p % 360 - e) % 360 else p % 360
def widW (e : Int) : Int := if 0 ≤ e ∧ e ≤ 360 then mn (2 * e) 359 else 0
theorem iWiden (p e : Int) : impl_WidenArc.f p 0 e = some (widS p e, widW e) := by
  unfold impl_WidenArc.f widS widW
  have e0 : decide ((0 : Int) ≤ 0 ∧ (0 : Int) ≤ 359) = true := by decide
  simp only [InRange, iWidth, iAngle, e0, Option.bind_some, decide_eq_true_eq, ↓reduceIte]
  by_cases c : 0 ≤ e ∧ e ≤ 360
  · rw [if_pos c, if_pos c, if_pos c, K.wr (x := p % 360 - e) (by omega) (by omega), K.wr (x := 2 * e) (by omega) (by omega), Int.zero_add, K.wr (x := 2 * e) (by omega) (by omega)]
  · rw [if_neg c, if_neg c, if_neg c]
theorem wid_range (p e : Int) : 0 ≤ widS p e ∧ widS p e < 360 ∧ 0 ≤ widW e ∧ widW e ≤ 359 := by
  unfold widS widW mn
  split <;> (try split) <;> omega
def nodeS (sa : List S72) (si : List S74) (i t : Int) : Int :=
  if 0 ≤ i ∧ i < (sa.length : Int) then widS (placeV (rd_T72 sa i).f1 (rd_T72 sa i).f2 t) (rd_T72 sa i).f3 else if (sa.length : Int) ≤ i ∧ i < (sa.length : Int) + si.length then placeV (rd_T74 si (i - sa.length)).f1 (rd_T74 si (i - sa.length)).f2 t else 0
def nodeW (sa : List S72) (i : Int) : Int :=
  if 0 ≤ i ∧ i < (sa.length : Int) then widW (rd_T72 sa i).f3 else 0
theorem iNode (pl : Int) (sa : List S72) (si : List S74) (rc cr vw su sh : Int) (zo : List S88) (ac : Int) (hn : (sa.length : Int) + si.length ≤ 4194304) (i t : Int) : impl_NodeAt.f pl sa si rc cr vw su sh zo ac i t = some (nodeS sa si i t, nodeW sa i) := by
  unfold impl_NodeAt.f nodeS nodeW impl_PlacesAt.f
  simp only [iIsSat _ _ _ _ _ _ _ _ _ _ hn, iIsSite _ _ _ _ _ _ _ _ _ _ hn, iPlace, iWiden, Option.bind_some, decide_eq_true_eq]
  by_cases c : 0 ≤ i ∧ i < (sa.length : Int)
  · rw [if_pos c, if_pos c, if_pos c.1, if_pos c.2, if_pos c]
  · rw [if_neg c, if_neg c, if_neg c]
    by_cases c2 : (sa.length : Int) ≤ i ∧ i < (sa.length : Int) + si.length
    · rw [if_pos c2, if_pos c2, K.wr (x := i - sa.length) (by omega) (by omega), if_pos (by omega), if_pos (by omega)]
    · rw [if_neg c2, if_neg c2]
theorem node_range (sa : List S72) (si : List S74) (i t : Int) : 0 ≤ nodeS sa si i t ∧ nodeS sa si i t < 360 ∧ 0 ≤ nodeW sa i ∧ nodeW sa i ≤ 359 := by
  have h1 := wid_range (placeV (rd_T72 sa i).f1 (rd_T72 sa i).f2 t) (rd_T72 sa i).f3
  have h2 := place_range (rd_T74 si (i - sa.length)).f1 (rd_T74 si (i - sa.length)).f2 t
  unfold nodeS nodeW
  split
  · exact h1
  · split <;> omega
def planeV (sa : List S72) (si : List S74) (i : Int) : Int :=
  if 0 ≤ i ∧ i < (sa.length : Int) then (rd_T72 sa i).f0 else if (sa.length : Int) ≤ i ∧ i < (sa.length : Int) + si.length then (rd_T74 si (i - sa.length)).f0 else -1
theorem iPlane (pl : Int) (sa : List S72) (si : List S74) (rc cr vw su sh : Int) (zo : List S88) (ac : Int) (hn : (sa.length : Int) + si.length ≤ 4194304) (i : Int) : impl_PlaneOf.f pl sa si rc cr vw su sh zo ac i = some (planeV sa si i) := by
  unfold impl_PlaneOf.f planeV
  simp only [iIsSat _ _ _ _ _ _ _ _ _ _ hn, iIsSite _ _ _ _ _ _ _ _ _ _ hn, Option.bind_some, decide_eq_true_eq]
  by_cases c : 0 ≤ i ∧ i < (sa.length : Int)
  · rw [if_pos c, if_pos c, if_pos c.1, if_pos c.2]
  · rw [if_neg c, if_neg c]
    by_cases c2 : (sa.length : Int) ≤ i ∧ i < (sa.length : Int) + si.length
    · rw [if_pos c2, if_pos c2, K.wr (x := i - sa.length) (by omega) (by omega), if_pos (by omega), if_pos (by omega)]
    · rw [if_neg c2, if_neg c2]
def nearV (pl p q : Int) : Bool := decide (0 ≤ mn p q ∧ mn p q < mx p q ∧ (mx p q - mn p q = 1 ∨ mn p q = 0 ∧ mx p q ≤ 4 ∧ mx p q + 1 = pl))
/-- The program's neighbors, the less plane first. -/
theorem near_side (pl lo hi : Int) (hle : lo ≤ hi) (hl0 : -9223372036854775808 ≤ lo) (hh1 : hi ≤ 9223372036854775807) (hpl0 : -9223372036854775808 ≤ pl) (hpl1 : pl ≤ 9223372036854775807) :
    (if lo ≥ 0 then (if (wrap64 (hi - lo)) = 1 then (some true) else (if lo = 0 then (if hi = (wrap64 (pl - 1)) then ((impl_InRange.f hi 1 4).bind fun t => (some t)) else (some false)) else (some false))) else (if lo = 0 then (if hi = (wrap64 (pl - 1)) then ((impl_InRange.f hi 1 4).bind fun t => (some t)) else (some false)) else (some false)))
      = some (decide (0 ≤ lo ∧ lo < hi ∧ (hi - lo = 1 ∨ lo = 0 ∧ hi ≤ 4 ∧ hi + 1 = pl))) := by
  simp only [InRange, Option.bind_some]
  by_cases c1 : lo ≥ 0
  · rw [if_pos c1, K.wr (x := hi - lo) (by omega) (by omega)]
    by_cases c3 : hi - lo = 1
    · rw [if_pos c3]
      congr 1
      exact (decide_eq_true (by omega)).symm
    · rw [if_neg c3]
      by_cases c4 : lo = 0
      · rw [if_pos c4]
        by_cases cm : pl = -9223372036854775808
        · have : wrap64 (pl - 1) = 9223372036854775807 := by
            rw [cm]
            unfold wrap64
            omega
          rw [this]
          by_cases c5 : hi = 9223372036854775807
          · rw [if_pos c5]
            congr 1
            exact (decide_eq_false (by omega)).trans (decide_eq_false (by omega)).symm
          · rw [if_neg c5]
            congr 1
            exact (decide_eq_false (by omega)).symm
        · rw [K.wr (x := pl - 1) (by omega) (by omega)]
          by_cases c5 : hi = pl - 1
          · rw [if_pos c5]
            congr 1
            exact decide_eq_decide.2 (by omega)
          · rw [if_neg c5]
            congr 1
            exact (decide_eq_false (by omega)).symm
      · rw [if_neg c4]
        congr 1
        exact (decide_eq_false (by omega)).symm
  · rw [if_neg c1, if_neg (by omega)]
    congr 1
    exact (decide_eq_false (by omega)).symm
theorem iNear (pl : Int) (sa : List S72) (si : List S74) (rc cr vw su sh : Int) (zo : List S88) (ac : Int) (hpl0 : -9223372036854775808 ≤ pl) (hpl1 : pl ≤ 9223372036854775807) (p q : Int) (hp0 : -9223372036854775808 ≤ p) (hp1 : p ≤ 9223372036854775807) (hq0 : -9223372036854775808 ≤ q) (hq1 : q ≤ 9223372036854775807) : impl_areNeighbors.f pl sa si rc cr vw su sh zo ac p q = some (nearV pl p q) := by
  unfold impl_areNeighbors.f nearV mn mx
  by_cases c : p > q
  · rw [if_pos c, near_side pl q p (by omega) hq0 hp1 hpl0 hpl1, if_pos (by omega), if_neg (by omega)]
  · rw [if_neg c, near_side pl p q (by omega) hp0 hq1 hpl0 hpl1, if_neg (by omega)]
    by_cases c2 : p < q
    · rw [if_pos c2]
    · have : p = q := by omega
      subst this
      rw [if_neg c2]
theorem near_self (pl p : Int) : nearV pl p p = false := by
  unfold nearV
  refine decide_eq_false (fun h => ?_)
  have h1 : mn p p = p := by unfold mn; split <;> rfl
  have h2 : mx p p = p := by unfold mx; split <;> rfl
  rw [h1, h2] at h
  omega
theorem plane_wf (sa : List S72) (si : List S74) (h1 : ∀ x ∈ sa, -9223372036854775808 ≤ x.f0 ∧ x.f0 ≤ 9223372036854775807) (h2 : ∀ x ∈ si, -9223372036854775808 ≤ x.f0 ∧ x.f0 ≤ 9223372036854775807) (i : Int) :
    -9223372036854775808 ≤ planeV sa si i ∧ planeV sa si i ≤ 9223372036854775807 := by
  unfold planeV
  split
  · rename_i h
    have hg : sa[i.toNat]? = some (sa[i.toNat]'(by omega)) := List.getElem?_eq_getElem (by omega)
    have : rd_T72 sa i = sa[i.toNat]'(by omega) := by simp only [rd_T72, List.getD_eq_getElem?_getD, hg, Option.getD_some]
    rw [this]
    exact h1 _ (List.getElem_mem _)
  · split
    · rename_i h
      have hg : si[(i - sa.length).toNat]? = some (si[(i - sa.length).toNat]'(by omega)) := List.getElem?_eq_getElem (by omega)
      have : rd_T74 si (i - sa.length) = si[(i - sa.length).toNat]'(by omega) := by simp only [rd_T74, List.getD_eq_getElem?_getD, hg, Option.getD_some]
      rw [this]
      exact h2 _ (List.getElem_mem _)
    · omega
/-- What both come to. -/
def limV (pl : Int) (sa : List S72) (si : List S74) (rc cr vw a b : Int) : Int :=
  if a = b ∨ ¬ (0 ≤ a ∧ a < (sa.length : Int) + si.length) ∨ ¬ (0 ≤ b ∧ b < (sa.length : Int) + si.length) ∨ ((sa.length : Int) ≤ a ∧ (sa.length : Int) ≤ b) then -1
  else if (sa.length : Int) ≤ a ∨ (sa.length : Int) ≤ b then (if planeV sa si a = planeV sa si b ∨ nearV pl (planeV sa si a) (planeV sa si b) = true then vw else -1)
  else if planeV sa si a = planeV sa si b then rc else if nearV pl (planeV sa si a) (planeV sa si b) = true then cr else -1
theorem iLimit (pl : Int) (sa : List S72) (si : List S74) (rc cr vw su sh : Int) (zo : List S88) (ac : Int) (hn : (sa.length : Int) + si.length ≤ 4194304) (hpl0 : -9223372036854775808 ≤ pl) (hpl1 : pl ≤ 9223372036854775807) (h1 : ∀ x ∈ sa, -9223372036854775808 ≤ x.f0 ∧ x.f0 ≤ 9223372036854775807) (h2 : ∀ x ∈ si, -9223372036854775808 ≤ x.f0 ∧ x.f0 ≤ 9223372036854775807) (a b : Int) :
    Ev (fun k => impl_LimitOf.f k pl sa si rc cr vw su sh zo ac a b) (limV pl sa si rc cr vw a b) := by
  have hp := plane_wf sa si h1 h2 a
  have hq := plane_wf sa si h1 h2 b
  have hend : ∀ x y v, v = -1 → Ev (fun k => impl_LimitOf.j0 k (planeV sa si a) (planeV sa si b) x y true pl sa si rc cr vw su sh zo ac) v := by
    intro x y v hv
    subst hv
    refine K.succ ?_
    simp only [impl_LimitOf.j0]
    exact K.pos (by trivial) (Ev.now _)
  unfold impl_LimitOf.f
  simp only [Option.bind_some, iPlane _ _ _ _ _ _ _ _ _ _ hn, iIsSat _ _ _ _ _ _ _ _ _ _ hn, iIsSite _ _ _ _ _ _ _ _ _ _ hn, decide_eq_true_eq]
  by_cases ce : a = b
  · exact K.pos ce (hend _ _ _ (by unfold limV; rw [if_pos (Or.inl ce)]))
  · refine K.neg ce ?_
    -- the way on when neither is wrong
    have hgo : ∀ x y : Bool, (x = true ↔ a < (sa.length : Int)) → (y = true ↔ b < (sa.length : Int)) → 0 ≤ a → a < (sa.length : Int) + si.length → 0 ≤ b → b < (sa.length : Int) + si.length →
        Ev (fun k => impl_LimitOf.j0 k (planeV sa si a) (planeV sa si b) x y false pl sa si rc cr vw su sh zo ac) (limV pl sa si rc cr vw a b) := by
      intro x y hx hy a0 a1 b0 b1
      refine K.succ ?_
      simp only [impl_LimitOf.j0]
      refine K.neg Bool.false_ne_true ?_
      have tail : ∀ z : Bool, (z = true ↔ x = true ∧ y = true ∧ planeV sa si a = planeV sa si b) → Ev (fun k => impl_LimitOf.j1 k (planeV sa si a) (planeV sa si b) x y z pl sa si rc cr vw su sh zo ac) (limV pl sa si rc cr vw a b) := by
        intro z hz
        have last : ∀ u : Bool, (u = true ↔ x = true ∧ y = true ∧ nearV pl (planeV sa si a) (planeV sa si b) = true) → z = false → Ev (fun k => impl_LimitOf.j2 k (planeV sa si a) (planeV sa si b) x y u pl sa si rc cr vw su sh zo ac) (limV pl sa si rc cr vw a b) := by
          intro u hu hzf
          refine K.succ ?_
          simp only [impl_LimitOf.j2, iNear _ _ _ _ _ _ _ _ _ _ hpl0 hpl1 _ _ hp.1 hp.2 hq.1 hq.2, Option.bind_some]
          cases u with
          | true =>
            have hu' := hu.1 rfl
            have ha := hx.1 hu'.1
            have hb := hy.1 hu'.2.1
            refine K.pos (by trivial) ?_
            unfold limV
            rw [if_neg (by omega), if_neg (by omega), if_neg (fun e => by
              have := hz.2 ⟨hu'.1, hu'.2.1, e⟩
              rw [hzf] at this
              cases this), if_pos hu'.2.2]
            exact Ev.now _
          | false =>
            refine K.neg Bool.false_ne_true ?_
            cases x with
            | true =>
              have ha := hx.1 rfl
              cases y with
              | true =>
                have hb := hy.1 rfl
                refine K.neg (by decide) ?_
                unfold limV
                rw [if_neg (by omega), if_neg (by omega), if_neg (fun e => by
                  have := hz.2 ⟨rfl, rfl, e⟩
                  rw [hzf] at this
                  cases this), if_neg (fun e => Bool.false_ne_true (hu.2 ⟨rfl, rfl, e⟩))]
                exact Ev.now _
              | false =>
                have hb : ¬ b < (sa.length : Int) := fun h => Bool.false_ne_true (hy.2 h)
                refine K.pos (by decide) ?_
                have e : limV pl sa si rc cr vw a b = if planeV sa si a = planeV sa si b ∨ nearV pl (planeV sa si a) (planeV sa si b) = true then vw else -1 := by
                  unfold limV
                  rw [if_neg (by omega), if_pos (by omega)]
                by_cases c1 : planeV sa si a = planeV sa si b
                · rw [e.trans (if_pos (Or.inl c1))]
                  exact K.pos c1 (Ev.now _)
                · refine K.neg c1 ?_
                  by_cases c2 : nearV pl (planeV sa si a) (planeV sa si b) = true
                  · rw [e.trans (if_pos (Or.inr c2))]
                    exact K.pos c2 (Ev.now _)
                  · rw [e.trans (if_neg (fun h => h.elim c1 c2))]
                    exact K.neg c2 (Ev.now _)
            | false =>
              have ha : ¬ a < (sa.length : Int) := fun h => Bool.false_ne_true (hx.2 h)
              cases y with
              | true =>
                have hb := hy.1 rfl
                refine K.pos (by decide) ?_
                have e : limV pl sa si rc cr vw a b = if planeV sa si a = planeV sa si b ∨ nearV pl (planeV sa si a) (planeV sa si b) = true then vw else -1 := by
                  unfold limV
                  rw [if_neg (by omega), if_pos (by omega)]
                by_cases c1 : planeV sa si a = planeV sa si b
                · rw [e.trans (if_pos (Or.inl c1))]
                  exact K.pos c1 (Ev.now _)
                · refine K.neg c1 ?_
                  by_cases c2 : nearV pl (planeV sa si a) (planeV sa si b) = true
                  · rw [e.trans (if_pos (Or.inr c2))]
                    exact K.pos c2 (Ev.now _)
                  · rw [e.trans (if_neg (fun h => h.elim c1 c2))]
                    exact K.neg c2 (Ev.now _)
              | false =>
                have hb : ¬ b < (sa.length : Int) := fun h => Bool.false_ne_true (hy.2 h)
                refine K.neg (by decide) ?_
                unfold limV
                rw [if_pos (by omega)]
                exact Ev.now _
        refine K.succ ?_
        simp only [impl_LimitOf.j1, iNear _ _ _ _ _ _ _ _ _ _ hpl0 hpl1 _ _ hp.1 hp.2 hq.1 hq.2, Option.bind_some]
        cases z with
        | true =>
          have hz' := hz.1 rfl
          have ha := hx.1 hz'.1
          have hb := hy.1 hz'.2.1
          refine K.pos (by trivial) ?_
          unfold limV
          rw [if_neg (by omega), if_neg (by omega), if_pos hz'.2.2]
          exact Ev.now _
        | false =>
          refine K.neg Bool.false_ne_true ?_
          cases x with
          | true =>
            cases y with
            | true => exact K.pos (by trivial) (K.pos (by trivial) (last _ ⟨fun h => ⟨rfl, rfl, h⟩, fun h => h.2.2⟩ rfl))
            | false => exact K.pos (by trivial) (K.neg Bool.false_ne_true (last false ⟨fun h => absurd h Bool.false_ne_true, fun h => absurd h.2.1 Bool.false_ne_true⟩ rfl))
          | false => exact K.neg Bool.false_ne_true (last false ⟨fun h => absurd h Bool.false_ne_true, fun h => absurd h.1 Bool.false_ne_true⟩ rfl)
      cases x with
      | true =>
        cases y with
        | true => exact K.pos (by trivial) (K.pos (by trivial) (tail _ ⟨fun h => ⟨rfl, rfl, beq_iff_eq.1 h⟩, fun h => beq_iff_eq.2 h.2.2⟩))
        | false => exact K.pos (by trivial) (K.neg Bool.false_ne_true (tail false ⟨fun h => absurd h Bool.false_ne_true, fun h => absurd h.2.1 Bool.false_ne_true⟩))
      | false => exact K.neg Bool.false_ne_true (tail false ⟨fun h => absurd h Bool.false_ne_true, fun h => absurd h.1 Bool.false_ne_true⟩)
    by_cases ca : 0 ≤ a ∧ a < (sa.length : Int)
    · refine K.pos ca ?_
      by_cases cb : 0 ≤ b ∧ b < (sa.length : Int)
      · exact K.pos cb (hgo _ _ ⟨fun h => (of_decide_eq_true h).2, fun h => decide_eq_true ⟨ca.1, h⟩⟩ ⟨fun h => (of_decide_eq_true h).2, fun h => decide_eq_true ⟨cb.1, h⟩⟩ (by omega) (by omega) (by omega) (by omega))
      · refine K.neg cb ?_
        by_cases cs : (sa.length : Int) ≤ b ∧ b < (sa.length : Int) + si.length
        · rw [show (!decide ((sa.length : Int) ≤ b ∧ b < (sa.length : Int) + si.length)) = false from by rw [decide_eq_true cs]; rfl]
          exact hgo _ _ ⟨fun h => (of_decide_eq_true h).2, fun h => decide_eq_true ⟨ca.1, h⟩⟩ ⟨fun h => (of_decide_eq_true h).2, fun h => by omega⟩ (by omega) (by omega) (by omega) (by omega)
        · rw [show (!decide ((sa.length : Int) ≤ b ∧ b < (sa.length : Int) + si.length)) = true from by rw [decide_eq_false cs]; rfl]
          exact hend _ _ _ (by unfold limV; rw [if_pos (Or.inr (Or.inr (Or.inl (by omega))))])
    · refine K.neg ca ?_
      by_cases cs : (sa.length : Int) ≤ a ∧ a < (sa.length : Int) + si.length
      · refine K.pos cs ?_
        by_cases cb : 0 ≤ b ∧ b < (sa.length : Int)
        · exact K.pos cb (hgo _ _ ⟨fun h => (of_decide_eq_true h).2, fun h => by omega⟩ ⟨fun h => (of_decide_eq_true h).2, fun h => decide_eq_true ⟨cb.1, h⟩⟩ (by omega) (by omega) (by omega) (by omega))
        · refine K.neg cb ?_
          by_cases cs2 : (sa.length : Int) ≤ b ∧ b < (sa.length : Int) + si.length
          · rw [show (!decide ((sa.length : Int) ≤ b ∧ b < (sa.length : Int) + si.length)) = false from by rw [decide_eq_true cs2]; rfl]
            exact hgo _ _ ⟨fun h => (of_decide_eq_true h).2, fun h => by omega⟩ ⟨fun h => (of_decide_eq_true h).2, fun h => by omega⟩ (by omega) (by omega) (by omega) (by omega)
          · rw [show (!decide ((sa.length : Int) ≤ b ∧ b < (sa.length : Int) + si.length)) = true from by rw [decide_eq_false cs2]; rfl]
            exact hend _ _ _ (by unfold limV; rw [if_pos (Or.inr (Or.inr (Or.inl (by omega))))])
      · exact K.neg cs (hend _ _ _ (by unfold limV; rw [if_pos (Or.inr (Or.inl (by omega)))]))
def midV (s w : Int) : Int := if 0 ≤ w ∧ w ≤ 359 then (s % 360 + w / 2) % 360 else s % 360
theorem iMiddle (s w : Int) : impl_MiddleOf.f s w = some (midV s w) := by
  unfold impl_MiddleOf.f midV
  simp only [iWidth, iAngle, Option.bind_some, decide_eq_true_eq]
  by_cases c : 0 ≤ w ∧ w ≤ 359
  · rw [if_pos c, if_pos c, Int.tdiv_eq_ediv_of_nonneg c.1, K.wr (x := w / 2) (by omega) (by omega), K.wr (by omega) (by omega)]
  · rw [if_neg c, if_neg c]
theorem mid_range (s w : Int) : 0 ≤ midV s w ∧ midV s w < 360 := by
  unfold midV
  split <;> omega
def gapV (a b : Int) : Int := mn ((a % 360 - b % 360) % 360) (360 - (a % 360 - b % 360) % 360)
theorem iGap (a b : Int) : impl_GapOf.f a b = some (gapV a b) := by
  unfold impl_GapOf.f gapV
  simp only [iAngle, Option.bind_some]
  rw [K.wr (x := a % 360 - b % 360) (by omega) (by omega), K.wr (by omega) (by omega)]
theorem gap_range (a b : Int) : 0 ≤ gapV a b ∧ gapV a b ≤ 180 := by
  unfold gapV mn
  split <;> omega
def sightOf (lim g w1 w2 : Int) : Int := if lim < 0 then 0 else if g - (w1 + w2) / 2 > lim then 0 else if g + (w1 + w2) / 2 ≤ lim then 2 else 1
def sightV (pl : Int) (sa : List S72) (si : List S74) (rc cr vw a b t : Int) : Int :=
  sightOf (limV pl sa si rc cr vw a b) (gapV (midV (nodeS sa si a t) (nodeW sa a)) (midV (nodeS sa si b t) (nodeW sa b))) (nodeW sa a) (nodeW sa b)
theorem iSight (pl : Int) (sa : List S72) (si : List S74) (rc cr vw su sh : Int) (zo : List S88) (ac : Int) (hn : (sa.length : Int) + si.length ≤ 4194304) (hpl0 : -9223372036854775808 ≤ pl) (hpl1 : pl ≤ 9223372036854775807) (h1 : ∀ x ∈ sa, -9223372036854775808 ≤ x.f0 ∧ x.f0 ≤ 9223372036854775807) (h2 : ∀ x ∈ si, -9223372036854775808 ≤ x.f0 ∧ x.f0 ≤ 9223372036854775807) (a b t : Int) :
    Ev (fun k => impl_SightAt.f k pl sa si rc cr vw su sh zo ac a b t) (sightV pl sa si rc cr vw a b t) := by
  unfold impl_SightAt.f sightV
  simp only [iNode _ _ _ _ _ _ _ _ _ _ hn, Option.bind_some]
  refine Ev.bind (iLimit _ _ _ _ _ _ _ _ _ _ hn hpl0 hpl1 h1 h2 a b) ?_
  have ha := node_range sa si a t
  have hb := node_range sa si b t
  have hg := gap_range (midV (nodeS sa si a t) (nodeW sa a)) (midV (nodeS sa si b t) (nodeW sa b))
  generalize limV pl sa si rc cr vw a b = lim
  simp only [iMiddle, iGap, Option.bind_some]
  generalize gapV (midV (nodeS sa si a t) (nodeW sa a)) (midV (nodeS sa si b t) (nodeW sa b)) = g at hg ⊢
  generalize nodeW sa a = x at ha ⊢
  generalize nodeW sa b = y at hb ⊢
  rw [K.wr (x := x + y) (by omega) (by omega), Int.tdiv_eq_ediv_of_nonneg (by omega), K.wr (x := (x + y) / 2) (by omega) (by omega), K.wr (x := g - (x + y) / 2) (by omega) (by omega)]
  unfold sightOf
  by_cases c : lim < 0
  · rw [if_pos c]
    refine K.pos c (K.succ ?_)
    simp only [impl_SightAt.j0]
    exact K.pos (by trivial) (Ev.now _)
  · rw [if_neg c]
    refine K.neg c (K.succ ?_)
    by_cases c2 : g - (x + y) / 2 > lim
    · rw [if_pos c2, decide_eq_true c2]
      simp only [impl_SightAt.j0]
      exact K.pos (by trivial) (Ev.now _)
    · rw [if_neg c2, decide_eq_false c2]
      simp only [impl_SightAt.j0]
      rw [K.wr (x := g + (x + y) / 2) (by omega) (by omega)]
      refine K.neg Bool.false_ne_true ?_
      split <;> exact Ev.now _
theorem iSure (pl : Int) (sa : List S72) (si : List S74) (rc cr vw su sh : Int) (zo : List S88) (ac : Int) (hn : (sa.length : Int) + si.length ≤ 4194304) (hpl0 : -9223372036854775808 ≤ pl) (hpl1 : pl ≤ 9223372036854775807) (h1 : ∀ x ∈ sa, -9223372036854775808 ≤ x.f0 ∧ x.f0 ≤ 9223372036854775807) (h2 : ∀ x ∈ si, -9223372036854775808 ≤ x.f0 ∧ x.f0 ≤ 9223372036854775807) (a b t : Int) :
    Ev (fun k => impl_IsSure.f k pl sa si rc cr vw su sh zo ac a b t) (sightV pl sa si rc cr vw a b t == 2) := by
  unfold impl_IsSure.f
  exact Ev.bind (iSight _ _ _ _ _ _ _ _ _ _ hn hpl0 hpl1 h1 h2 a b t) (Ev.now _)
theorem gap_lip (s q m i : Int) (h0 : 0 ≤ i) (h1 : i ≤ 2 * m) (h2 : m ≤ 90) : gapV ((s % 360 + m) % 360) q - m ≤ gapV (s + i) q ∧ gapV (s + i) q ≤ gapV ((s % 360 + m) % 360) q + m := by
  have e1 : (s % 360 + m) % 360 % 360 = (s + m) % 360 := by omega
  unfold gapV
  rw [e1]
  have hd : ((s + i) % 360 - q % 360) % 360 = (s + i - q) % 360 := by omega
  have hd2 : ((s + m) % 360 - q % 360) % 360 = (s + m - q) % 360 := by omega
  rw [hd, hd2]
  have hx : s + i - q = (s + m - q) + (i - m) := by omega
  rw [hx]
  have hj : -m ≤ i - m ∧ i - m ≤ m := by omega
  generalize i - m = j at hj
  generalize s + m - q = x
  have hy : (x + j) % 360 = (x % 360 + j) % 360 := by omega
  rw [hy]
  have hz : 0 ≤ x % 360 ∧ x % 360 < 360 := by omega
  generalize x % 360 = y at hz
  have hc : (y + j) % 360 = if y + j < 0 then y + j + 360 else if y + j < 360 then y + j else y + j - 360 := by
    split
    · omega
    · split <;> omega
  rw [hc]
  unfold mn
  constructor
  · (repeat' split) <;> omega
  · (repeat' split) <;> omega
theorem gap_sym (a b : Int) : gapV a b = gapV b a := by
  unfold gapV
  have h1 : 0 ≤ a % 360 ∧ a % 360 < 360 := by omega
  have h2 : 0 ≤ b % 360 ∧ b % 360 < 360 := by omega
  generalize a % 360 = x at h1
  generalize b % 360 = y at h2
  have e1 : (x - y) % 360 = if x < y then x - y + 360 else x - y := by split <;> omega
  have e2 : (y - x) % 360 = if y < x then y - x + 360 else y - x := by split <;> omega
  rw [e1, e2]
  unfold mn
  (repeat' split) <;> omega
def put (o : List S82) (t : Int) : List S82 :=
  if (o.length : Int) > 0 then (if (rd_T82 o ((o.length : Int) - 1)).f1 = t then o.set ((o.length : Int) - 1).toNat ⟨(rd_T82 o ((o.length : Int) - 1)).f0, t + 1⟩ else o ++ [⟨t, t + 1⟩]) else o ++ [⟨t, t + 1⟩]
theorem put_len (o : List S82) (t : Int) : (put o t).length ≤ o.length + 1 := by
  unfold put
  (repeat' split) <;> simp
def run (p : Int → Bool) (o : List S82) (t : Int) : Nat → List S82
  | 0 => o
  | d + 1 => run p (if p t = true then put o t else o) (t + 1) d
theorem run_add (p : Int → Bool) : ∀ (d e : Nat) (o : List S82) (t : Int), run p o t (d + e) = run p (run p o t d) (t + d) e := by
  intro d
  induction d with
  | zero =>
    intro e o t
    simp [run]
  | succ d ih =>
    intro e o t
    rw [show d + 1 + e = (d + e) + 1 by omega]
    simp only [run]
    rw [ih]
    congr 1
    omega
theorem run_none (p : Int → Bool) : ∀ (d : Nat) (o : List S82) (t : Int), (∀ u, t ≤ u → p u = false) → run p o t d = o := by
  intro d
  induction d with
  | zero =>
    intro o t h
    rfl
  | succ d ih =>
    intro o t h
    simp only [run, h t (by omega), Bool.false_eq_true, if_false]
    exact ih o (t + 1) (fun u hu => h u (by omega))
theorem run_len (p : Int → Bool) : ∀ (d : Nat) (o : List S82) (t : Int), (run p o t d).length ≤ o.length + d := by
  intro d
  induction d with
  | zero =>
    intro o t
    simp [run]
  | succ d ih =>
    intro o t
    simp only [run]
    refine Nat.le_trans (ih _ _) ?_
    have := put_len o t
    split <;> omega
theorem run_eq (p q : Int → Bool) : ∀ (d : Nat) (o : List S82) (t : Int), (∀ u, t ≤ u → u < t + d → p u = q u) → run p o t d = run q o t d := by
  intro d
  induction d with
  | zero =>
    intro o t h
    rfl
  | succ d ih =>
    intro o t h
    simp only [run]
    rw [h t (by omega) (by omega)]
    exact ih _ _ (fun u h1 h2 => h u (by omega) (by omega))
def vs (s : S82) : Bool := decide (s.f0 ≥ 0 ∧ s.f1 ≤ 1000 ∧ s.f0 < s.f1)
def ins (s : S82) (t : Int) : Bool := vs s && (decide (s.f0 ≤ t) && decide (t < s.f1))
def inl (l : List S82) (t : Int) : Bool := l.any (fun s => ins s t)
theorem iVs (s : S82) : impl_IsSpan.f s.f0 s.f1 = some (vs s) := by
  unfold impl_IsSpan.f vs
  by_cases c0 : s.f0 ≥ 0
  · rw [if_pos c0]
    by_cases c1 : s.f1 ≤ 1000
    · rw [if_pos c1]
      simp [c0, c1]
    · rw [if_neg c1]
      simp [c1]
  · rw [if_neg c0]
    simp [c0]
theorem rdDrop (l : List S82) (i : Int) (h0 : 0 ≤ i) (h1 : i < (l.length : Int)) : l.drop i.toNat = rd_T82 l i :: l.drop (i + 1).toNat := by
  rw [List.drop_eq_getElem_cons (by omega), show (i + 1).toNat = i.toNat + 1 by omega]
  simp [rd_T82, List.getD_eq_getElem?_getD, List.getElem?_eq_getElem (show i.toNat < l.length by omega)]
def last (l : List S82) (n : Int) : Int := l.foldl (fun n s => if vs s = true then (if s.f1 > n then s.f1 else n) else n) n
theorem last_le : ∀ (l : List S82) (n : Int), n ≤ last l n ∧ (n ≤ 1000 → last l n ≤ 1000) ∧ ∀ s ∈ l, vs s = true → s.f1 ≤ last l n := by
  intro l
  induction l with
  | nil =>
    intro n
    exact ⟨Int.le_refl _, fun h => h, fun s hs => absurd hs (by simp)⟩
  | cons a l ih =>
    intro n
    have e : last (a :: l) n = last l (if vs a = true then (if a.f1 > n then a.f1 else n) else n) := rfl
    rw [e]
    obtain ⟨h1, h2, h3⟩ := ih (if vs a = true then (if a.f1 > n then a.f1 else n) else n)
    by_cases c : vs a = true
    · rw [if_pos c] at h1 h2 h3 ⊢
      have hv : a.f1 ≤ 1000 := by
        unfold vs at c
        exact (of_decide_eq_true c).2.1
      have hm : n ≤ (if a.f1 > n then a.f1 else n) ∧ a.f1 ≤ (if a.f1 > n then a.f1 else n) ∧ (n ≤ 1000 → (if a.f1 > n then a.f1 else n) ≤ 1000) := by
        split <;> omega
      generalize (if a.f1 > n then a.f1 else n) = m at hm h1 h2 h3 ⊢
      refine ⟨by omega, fun hn => h2 (hm.2.2 hn), ?_⟩
      intro s hs hvs
      rcases List.mem_cons.1 hs with rfl | hs
      · omega
      · exact h3 s hs hvs
    · rw [if_neg c] at h1 h2 h3 ⊢
      refine ⟨h1, h2, ?_⟩
      intro s hs hvs
      rcases List.mem_cons.1 hs with rfl | hs
      · exact absurd hvs c
      · exact h3 s hs hvs
theorem beyond (l : List S82) (u : Int) (h : last l 0 ≤ u) : inl l u = false := by
  unfold inl
  rw [List.any_eq_false]
  intro s hs hc
  unfold ins at hc
  simp only [Bool.and_eq_true, decide_eq_true_eq] at hc
  have := (last_le l 0).2.2 s hs hc.1
  omega
def mark (x : List Bool) (a : Int) : Nat → List Bool
  | 0 => x
  | d + 1 => mark (x.set a.toNat true) (a + 1) d
theorem mark_len : ∀ (d : Nat) (x : List Bool) (a : Int), (mark x a d).length = x.length := by
  intro d
  induction d with
  | zero => intro x a; rfl
  | succ d ih =>
    intro x a
    simp only [mark, ih, List.length_set]
theorem mark_get (t : Int) (h0 : 0 ≤ t) : ∀ (d : Nat) (x : List Bool) (a : Int), 0 ≤ a → t < (x.length : Int) → rdOf false (mark x a d) t = (rdOf false x t || (decide (a ≤ t) && decide (t < a + d))) := by
  intro d
  induction d with
  | zero =>
    intro x a ha ht
    have : ¬ (a ≤ t ∧ t < a + (0 : Nat)) := by omega
    rw [← Bool.decide_and, decide_eq_false this, Bool.or_false]
    rfl
  | succ d ih =>
    intro x a ha ht
    simp only [mark]
    rw [ih _ _ (by omega) (by simp; omega)]
    by_cases c : a = t
    · subst c
      have e : rdOf false (x.set a.toNat true) a = true := by
        simp only [rdOf, List.getD_eq_getElem?_getD]
        rw [List.getElem?_set_self (by omega)]
        rfl
      have e2 : (decide (a ≤ a) && decide (a < a + ((d + 1 : Nat) : Int))) = true := by
        rw [← Bool.decide_and]
        exact decide_eq_true (by omega)
      rw [e, e2, Bool.true_or, Bool.or_true]
    · have e : rdOf false (x.set a.toNat true) t = rdOf false x t := by
        simp only [rdOf, List.getD_eq_getElem?_getD]
        rw [List.getElem?_set_ne (by omega)]
      have e2 : (decide (a + 1 ≤ t) && decide (t < a + 1 + (d : Int))) = (decide (a ≤ t) && decide (t < a + ((d + 1 : Nat) : Int))) := by
        rw [← Bool.decide_and, ← Bool.decide_and]
        exact decide_eq_decide.2 (by omega)
      rw [e, e2]
def tk : List S82 → List Bool → List Bool
  | [], x => x
  | s :: l, x => tk l (if vs s = true then mark x s.f0 (s.f1 - s.f0).toNat else x)
theorem tk_len : ∀ (l : List S82) (x : List Bool), (tk l x).length = x.length := by
  intro l
  induction l with
  | nil => intro x; rfl
  | cons s l ih =>
    intro x
    simp only [tk, ih]
    split
    · exact mark_len _ _ _
    · rfl
theorem tk_get (t : Int) (h0 : 0 ≤ t) : ∀ (l : List S82) (x : List Bool), t < (x.length : Int) → rdOf false (tk l x) t = (rdOf false x t || inl l t) := by
  intro l
  induction l with
  | nil =>
    intro x ht
    simp [tk, inl]
  | cons s l ih =>
    intro x ht
    have e : inl (s :: l) t = (ins s t || inl l t) := rfl
    simp only [tk]
    by_cases c : vs s = true
    · rw [if_pos c, ih _ (by rw [mark_len]; exact ht)]
      have hv : s.f0 ≥ 0 ∧ s.f1 ≤ 1000 ∧ s.f0 < s.f1 := by
        unfold vs at c
        exact of_decide_eq_true c
      rw [mark_get t h0 _ _ _ (by omega) ht, e, Bool.or_assoc]
      have e2 : (decide (s.f0 ≤ t) && decide (t < s.f0 + ((s.f1 - s.f0).toNat : Int))) = ins s t := by
        unfold ins
        rw [c, Bool.true_and, ← Bool.decide_and, ← Bool.decide_and]
        exact decide_eq_decide.2 (by omega)
      rw [e2]
    · rw [if_neg c, ih _ ht, e]
      have e2 : ins s t = false := by
        unfold ins
        rw [Bool.eq_false_iff.2 c]
        rfl
      rw [e2, Bool.false_or]
theorem whereRun (q : Nat → Int → Option Bool) (p : Int → Bool) (hi : Int) (hq : ∀ t, 0 ≤ t → t < mn hi 1000 → Ev (fun k => q k t) (p t)) : ∀ (d : Nat) (o : List S82) (t : Int), 0 ≤ t → (mn hi 1000 - t).toNat = d → o.length + d ≤ 7000000000000 → Ev (fun k => sw.l0 q k hi o t) (run p o t d) := by
  intro d
  have hm : mn hi 1000 ≤ 1000 := by unfold mn; split <;> omega
  induction d with
  | zero =>
    intro o t h0 hd ho
    refine K.succ ?_
    simp only [sw.l0, run]
    exact K.neg (by omega) (Ev.now _)
  | succ d ih =>
    intro o t h0 hd ho
    refine K.succ ?_
    simp only [sw.l0, run]
    have w0 : wrap64 (t + 1) = t + 1 := K.wr (by omega) (by omega)
    have w1 : wrap64 ((o.length : Int) - 1) = (o.length : Int) - 1 := K.wr (by omega) (by omega)
    rw [w0, w1]
    refine K.pos (by omega) (Ev.bind (hq t h0 (by omega)) ?_)
    by_cases c : p t = true
    · refine K.pos c ?_
      rw [if_pos c]
      have hp := put_len o t
      have ih' := ih (put o t) (t + 1) (by omega) (by omega)
      unfold put at ih' ⊢
      by_cases c1 : (o.length : Int) > 0
      · rw [if_pos c1] at ih' ⊢
        refine K.pos (by omega) (K.pos (by omega) (K.pos (by omega) ?_))
        by_cases c2 : (rd_T82 o ((o.length : Int) - 1)).f1 = t
        · rw [if_pos c2] at ih' ⊢
          refine K.pos c2 ?_
          rw [c2, w0]
          exact ih' (by simp; omega)
        · rw [if_neg c2] at ih' ⊢
          refine K.neg c2 (K.pos (by omega) (ih' (by simp; omega)))
      · rw [if_neg c1] at ih' ⊢
        refine K.neg (by omega) (K.pos (by omega) (ih' (by simp; omega)))
    · refine K.neg c ?_
      rw [if_neg c]
      exact ih o (t + 1) (by omega) (by omega) (by omega)
theorem inl_app (a b : List S82) (t : Int) : inl (a ++ b) t = (inl a t || inl b t) := by
  unfold inl
  rw [List.any_append]
theorem put_snoc (o : List S82) (t : Int) : (∃ q r, o = q ++ [r] ∧ r.f1 = t ∧ put o t = q ++ [⟨r.f0, t + 1⟩]) ∨ put o t = o ++ [⟨t, t + 1⟩] := by
  rcases List.eq_nil_or_concat o with rfl | ⟨q, r, rfl⟩
  · exact .inr rfl
  · have hl : ((q ++ [r]).length : Int) - 1 = (q.length : Int) := by simp
    have hrd : rd_T82 (q ++ [r]) (q.length : Int) = r := by
      simp [rd_T82, List.getD_eq_getElem?_getD]
    simp only [List.concat_eq_append]
    unfold put
    rw [if_pos (by simp), hl, hrd]
    by_cases c : r.f1 = t
    · rw [if_pos c]
      refine .inl ⟨q, r, rfl, c, ?_⟩
      simp
    · rw [if_neg c]
      exact .inr rfl
theorem ins_one (s : S82) (t : Int) : inl [s] t = ins s t := by
  simp [inl]
theorem put_ok (o : List S82) (t u : Int) (h0 : 0 ≤ t) (h1 : t < 1000) (hv : ∀ s ∈ o, vs s = true) : (∀ s ∈ put o t, vs s = true) ∧ inl (put o t) u = (inl o u || decide (u = t)) := by
  rcases put_snoc o t with ⟨q, r, rfl, hr, e⟩ | e
  · have hvr := hv r (by simp)
    unfold vs at hvr
    have hvr := of_decide_eq_true hvr
    have hn : vs (⟨r.f0, t + 1⟩ : S82) = true := by
      unfold vs
      exact decide_eq_true ⟨hvr.1, by show t + 1 ≤ 1000; omega, by show r.f0 < t + 1; omega⟩
    refine ⟨?_, ?_⟩
    · rw [e]
      intro s hs
      rcases List.mem_append.1 hs with hs | hs
      · exact hv s (by simp [hs])
      · rw [List.mem_singleton] at hs
        subst hs
        exact hn
    · rw [e, inl_app, inl_app, ins_one, ins_one, Bool.or_assoc]
      congr 1
      unfold ins
      rw [hn, hv r (by simp), Bool.true_and, Bool.true_and, ← Bool.decide_and, ← Bool.decide_and, ← Bool.decide_or]
      exact decide_eq_decide.2 (by show r.f0 ≤ u ∧ u < t + 1 ↔ (r.f0 ≤ u ∧ u < r.f1) ∨ u = t; omega)
  · have hn : vs (⟨t, t + 1⟩ : S82) = true := by
      unfold vs
      exact decide_eq_true ⟨h0, by show t + 1 ≤ 1000; omega, by show t < t + 1; omega⟩
    refine ⟨?_, ?_⟩
    · rw [e]
      intro s hs
      rcases List.mem_append.1 hs with hs | hs
      · exact hv s hs
      · rw [List.mem_singleton] at hs
        subst hs
        exact hn
    · rw [e, inl_app, ins_one]
      congr 1
      unfold ins
      rw [hn, Bool.true_and, ← Bool.decide_and]
      exact decide_eq_decide.2 (by show t ≤ u ∧ u < t + 1 ↔ u = t; omega)
theorem run_ok (p : Int → Bool) (u : Int) : ∀ (d : Nat) (o : List S82) (t : Int), 0 ≤ t → t + d ≤ 1000 → (∀ s ∈ o, vs s = true) → (∀ s ∈ run p o t d, vs s = true) ∧ inl (run p o t d) u = (inl o u || (decide (t ≤ u ∧ u < t + d) && p u)) := by
  intro d
  induction d with
  | zero =>
    intro o t h0 h1 hv
    refine ⟨hv, ?_⟩
    rw [decide_eq_false (by omega)]
    simp [run]
  | succ d ih =>
    intro o t h0 h1 hv
    simp only [run]
    by_cases c : p t = true
    · rw [if_pos c]
      obtain ⟨v1, e1⟩ := put_ok o t u h0 (by omega) hv
      obtain ⟨v2, e2⟩ := ih (put o t) (t + 1) (by omega) (by omega) v1
      refine ⟨v2, ?_⟩
      rw [e2, e1, Bool.or_assoc]
      congr 1
      by_cases hu : u = t
      · subst hu
        rw [decide_eq_true rfl, decide_eq_true (show u ≤ u ∧ u < u + ((d + 1 : Nat) : Int) by omega), c]
        rfl
      · rw [decide_eq_false hu, Bool.false_or]
        congr 1
        exact decide_eq_decide.2 (by omega)
    · rw [if_neg c]
      obtain ⟨v2, e2⟩ := ih o (t + 1) (by omega) (by omega) hv
      refine ⟨v2, ?_⟩
      rw [e2]
      congr 1
      by_cases hu : u = t
      · subst hu
        rw [Bool.eq_false_iff.2 c, Bool.and_false, Bool.and_false]
      · congr 1
        exact decide_eq_decide.2 (by omega)
theorem iIns (s : S82) (t : Int) : impl_InSpan.f s.f0 s.f1 t = some (ins s t) := by
  unfold impl_InSpan.f ins
  rw [iVs, Option.bind_some]
  cases vs s with
  | true =>
    rw [if_pos rfl]
    by_cases c : s.f0 ≤ t
    · rw [if_pos c]
      simp [c]
    · rw [if_neg c]
      simp [c]
  | false => rfl
theorem iInl (l : List S82) (hl : l.length ≤ 2097152) (t : Int) : ∀ (d : Nat) (i : Int), 0 ≤ i → (l.length : Int) - i = d → Ev (fun k => impl_InSpans.l0 k t l (l.length : Int) i) (inl (l.drop i.toNat) t) := by
  intro d
  induction d with
  | zero =>
    intro i h0 hd
    refine K.succ ?_
    simp only [impl_InSpans.l0]
    rw [List.drop_eq_nil_of_le (by omega)]
    exact K.neg (by omega) (Ev.now _)
  | succ d ih =>
    intro i h0 hd
    refine K.succ ?_
    simp only [impl_InSpans.l0, iIns]
    rw [K.wr (x := i + 1) (by omega) (by omega), rdDrop l i h0 (by omega)]
    refine K.pos (by omega) (K.pos h0 (K.pos (by omega) (K.known rfl ?_)))
    unfold inl
    rw [List.any_cons]
    cases ins (rd_T82 l i) t with
    | true => exact K.pos rfl (Ev.now _)
    | false => exact K.neg Bool.false_ne_true (ih (i + 1) (by omega) (by omega))
def win (p : Int → Bool) (a b : Int) : List S82 := run p [] (mx a 0) (mn b 1000 - mx a 0).toNat
theorem win_len (p : Int → Bool) (a b : Int) : (win p a b).length ≤ 1000 := by
  have hm : mn b 1000 ≤ 1000 := by unfold mn; split <;> omega
  have hx : 0 ≤ mx a 0 := by unfold mx; split <;> omega
  exact Nat.le_trans (run_len _ _ _ _) (by simp; omega)
theorem win_ok (p : Int → Bool) (a b u : Int) (h1 : a ≤ 1000) : (∀ s ∈ win p a b, vs s = true) ∧ inl (win p a b) u = (decide (0 ≤ u ∧ u < 1000 ∧ a ≤ u ∧ u < b) && p u) := by
  have hm : mn b 1000 = if b ≤ 1000 then b else 1000 := by unfold mn; split <;> split <;> omega
  have hx : mx a 0 = if 0 ≤ a then a else 0 := by unfold mx; split <;> split <;> omega
  have h := run_ok p u (mn b 1000 - mx a 0).toNat [] (mx a 0) (by rw [hx]; split <;> omega) (by rw [hx, hm]; (repeat' split) <;> omega) (by simp)
  refine ⟨h.1, ?_⟩
  unfold win
  rw [h.2, show inl ([] : List S82) u = false from rfl, Bool.false_or]
  congr 1
  refine decide_eq_decide.2 ?_
  rw [hx, hm]
  (repeat' split) <;> omega
theorem inSp (l : List S82) (hl : l.length ≤ 1000) (t : Int) : Ev (fun k => impl_InSpans.f k l t) (inl l t) := by
  unfold impl_InSpans.f
  exact iInl l (by omega) t l.length 0 (by omega) (by omega)
theorem and255 (n : Int) : Go.bits .and .i64 n 255 = n % 256 := by
  have h255 : (BitVec.ofInt 64 255).toNat = 2 ^ 8 - 1 := by decide
  have key : (BitVec.ofInt 64 n &&& BitVec.ofInt 64 255).toNat = (n % ((2 ^ 64 : Nat) : Int)).toNat % 2 ^ 8 := by
    rw [BitVec.toNat_and, BitVec.toNat_ofInt, h255, Nat.and_two_pow_sub_one_eq_mod]
  show IntKind.i64.wrap ((BitVec.ofInt 64 n &&& BitVec.ofInt 64 255).toNat : Nat) = n % 256
  rw [key, IntKind.wrap_i64]
  omega
theorem l1New (l : List Int) (hl : l.length ≤ 1048576) : ∃ h, Ev (fun k => spec_l1New.f k l) (l, 0, h) := by
  have loop : ∀ (d : Nat) (h i : Int), 0 ≤ i → (l.length : Int) - i = d → ∃ h', Ev (fun k => spec_l1New.l0 k l h i) (l, 0, h') := by
    intro d
    induction d with
    | zero =>
      intro h i h0 hd
      refine ⟨h, K.succ ?_⟩
      simp only [spec_l1New.l0]
      exact K.neg (by omega) (Ev.now _)
    | succ d ih =>
      intro h i h0 hd
      by_cases c : i < 4000
      · obtain ⟨h', g⟩ := ih (Go.bits .and .i64 (wrap64 ((wrap64 ((wrap64 (h * 137)) + (wrap64 (rd l i)))) + 11)) 1073741823) (i + 1) (by omega) (by omega)
        refine ⟨h', K.succ ?_⟩
        simp only [spec_l1New.l0]
        rw [K.wr (x := i + 1) (by omega) (by omega)]
        exact K.pos (by omega) (K.pos c (K.pos h0 g))
      · refine ⟨h, K.succ ?_⟩
        simp only [spec_l1New.l0]
        exact K.pos (by omega) (K.neg c (Ev.now _))
  unfold spec_l1New.f
  exact loop l.length _ 0 (by omega) (by omega)
theorem l1Byte (l : List Int) (hl : l.length ≤ 1048576) (i h : Int) (h0 : 0 ≤ i) (h1 : i ≤ (l.length : Int)) :
    ∃ v i' h', spec_l1Byte.f l i h = some (v, i', h') ∧ 0 ≤ v ∧ v ≤ 255 ∧ 0 ≤ i' ∧ i' ≤ (l.length : Int) := by
  unfold spec_l1Byte.f
  simp only [and255]
  by_cases c : i < (l.length : Int)
  · rw [if_pos c, if_pos h0, K.wr (x := i + 1) (by omega) (by omega)]
    exact ⟨_, _, _, rfl, by omega, by omega, by omega, by omega⟩
  · rw [if_neg c]
    exact ⟨_, _, _, rfl, by omega, by omega, h0, h1⟩
theorem l1Below (l : List Int) (hl : l.length ≤ 1048576) (i h : Int) (h0 : 0 ≤ i) (h1 : i ≤ (l.length : Int)) (n : Int) (hn : 0 < n) (hn2 : n ≤ 256) :
    ∃ v i' h', spec_l1Below.f l i h n = some (v, i', h') ∧ 0 ≤ v ∧ v < n ∧ 0 ≤ i' ∧ i' ≤ (l.length : Int) := by
  obtain ⟨v, i', h', e, a, b, c, d⟩ := l1Byte l hl i h h0 h1
  refine ⟨Int.tmod v n, i', h', ?_, Int.tmod_nonneg _ a, Int.tmod_lt_of_pos _ hn, c, d⟩
  unfold spec_l1Below.f
  rw [if_neg (by omega), if_pos hn2, e]
  simp only [Option.bind_some]
  rw [if_neg (by omega)]
theorem l1Once (l : List Int) (hl : l.length ≤ 1048576) (i h : Int) (h0 : 0 ≤ i) (h1 : i ≤ (l.length : Int)) (n : Int) (hn : 0 < n) (hn2 : n ≤ 256) :
    ∃ v i' h', spec_l1Once.f l i h n = some (v, i', h') ∧ 0 ≤ i' ∧ i' ≤ (l.length : Int) := by
  obtain ⟨v, i', h', e, a, b, c, d⟩ := l1Below l hl i h h0 h1 n hn hn2
  refine ⟨v == 0, i', h', ?_, c, d⟩
  unfold spec_l1Once.f
  rw [e]
  rfl
theorem l1Int (l : List Int) (hl : l.length ≤ 1048576) (i h : Int) (h0 : 0 ≤ i) (h1 : i ≤ (l.length : Int)) (xs : List Int) (hn : 0 < (xs.length : Int)) (hn2 : (xs.length : Int) ≤ 256) :
    ∃ v i' h', spec_l1Int.f l i h xs = some (v, i', h') ∧ v ∈ xs ∧ 0 ≤ i' ∧ i' ≤ (l.length : Int) := by
  obtain ⟨v, i', h', e, a, b, c, d⟩ := l1Below l hl i h h0 h1 _ hn hn2
  refine ⟨rd xs v, i', h', ?_, ?_, c, d⟩
  · unfold spec_l1Int.f
    rw [e]
    simp only [Option.bind_some]
    rw [if_pos a, if_pos b]
  · simp only [rd, List.getD_eq_getElem?_getD, List.getElem?_eq_getElem (show v.toNat < xs.length by omega), Option.getD_some]
    exact List.getElem_mem _
theorem l4Raw (l : List Int) (hl : l.length ≤ 1048576) (i h : Int) (h0 : 0 ≤ i) (h1 : i ≤ (l.length : Int)) : ∃ v i' h', spec_l4Raw.f l i h = some (v, i', h') ∧ 0 ≤ i' ∧ i' ≤ (l.length : Int) := by
  obtain ⟨b, i1, g1, e1, p1, q1⟩ := l1Once l hl i h h0 h1 6 (by omega) (by omega)
  unfold spec_l4Raw.f
  rw [e1, Option.bind_some]
  cases b with
  | true =>
    obtain ⟨v, i2, g2, e2, m2, p2, q2⟩ := l1Int l hl i1 g1 p1 q1 [(-1), 0, 1000, 1001, 9223372036854775807, (-9223372036854775808)] (by decide) (by decide)
    refine ⟨v, i2, g2, ?_, p2, q2⟩
    dsimp only
    rw [if_pos rfl, e2]
    rfl
  | false =>
    obtain ⟨v, i2, g2, e2, _, _, p2, q2⟩ := l1Below l hl i1 g1 p1 q1 40 (by omega) (by omega)
    refine ⟨v, i2, g2, ?_, p2, q2⟩
    dsimp only
    rw [if_neg Bool.false_ne_true, e2]
    rfl
def i64 (x : Int) : Prop := -9223372036854775808 ≤ x ∧ x ≤ 9223372036854775807
def skyOk (pl : Int) (sa : List S72) (si : List S74) (zo : List S88) : Prop :=
  i64 pl ∧ sa.length ≤ 8 ∧ si.length = 2 ∧ zo.length ≤ 1000 ∧ (∀ x ∈ sa, i64 x.f0 ∧ -1 ≤ x.f3 ∧ x.f3 ≤ 21) ∧ ∀ x ∈ si, i64 x.f0
def satOk (sa : List S72) : Prop := ∀ x ∈ sa, i64 x.f0 ∧ -1 ≤ x.f3 ∧ x.f3 ≤ 21
theorem sky1 (l : List Int) (hl : l.length ≤ 1048576) (pl rc cr vw su sh ac p n : Int) (hp0 : 0 ≤ p) (hp1 : p ≤ 1) : ∀ (d : Nat) (j : Int) (sa : List S72) (i h : Int), n - j = d → 0 ≤ j → n ≤ 3 → sa.length + d ≤ 8 → satOk sa → 0 ≤ i → i ≤ (l.length : Int) →
    ∃ (sa' : List S72) (i' h' : Int), sa'.length = sa.length + d ∧ satOk sa' ∧ 0 ≤ i' ∧ i' ≤ (l.length : Int) ∧ ∀ r, Ev (fun k => spec_l7Sky.l0 k (p + 1) l i' h' pl sa' rc cr vw su sh ac) r → Ev (fun k => spec_l7Sky.l1 k p n j l i h pl sa rc cr vw su sh ac) r := by
  intro d
  have w0 := Aside0.mk (K.wr (x := p + 1) (by omega) (by omega))
  induction d with
  | zero =>
    intro j sa i h hd hj hn hs ho h0 h1
    refine ⟨sa, i, h, rfl, ho, h0, h1, fun r g => K.succ ?_⟩
    simp only [spec_l7Sky.l1, w0.out]
    exact K.neg (by omega) g
  | succ d ih =>
    intro j sa i h hd hj hn hs ho h0 h1
    have w1 := Aside0.mk (K.wr (x := j + 1) (by omega) (by omega))
    obtain ⟨v1, i1, g1, e1, a1, b1, p1, q1⟩ := l1Below l hl i h h0 h1 2 (by omega) (by omega)
    obtain ⟨v2, i2, g2, e2, a2, b2, p2, q2⟩ := l1Below l hl i1 g1 p1 q1 2 (by omega) (by omega)
    obtain ⟨sa', i3, g3, k1, k2, k3, k4, k5⟩ := ih (j + 1) (sa ++ [⟨p, (wrap64 ((wrap64 (120 * j)) + (wrap64 (20 * p)))) % 360, wrap64 (10 - (wrap64 ((wrap64 (4 * p)) * v1))), v2⟩]) i2 g2 (by omega) (by omega) hn (by simp; omega) (by
      intro x hx
      rcases List.mem_append.1 hx with hx | hx
      · exact ho x hx
      · rw [List.mem_singleton] at hx
        subst hx
        exact ⟨⟨by show -9223372036854775808 ≤ p; omega, by show p ≤ 9223372036854775807; omega⟩, by show -1 ≤ v2; omega, by show v2 ≤ 21; omega⟩) p2 q2
    refine ⟨sa', i3, g3, by rw [k1]; simp; omega, k2, k3, k4, fun r g => K.succ ?_⟩
    simp only [spec_l7Sky.l1, sAngle, e1, e2, Option.bind_some, w1.out]
    exact K.pos (by omega) (K.pos (by omega) (k5 r g))
theorem l7Sky (l : List Int) (hl : l.length ≤ 1048576) (i h : Int) (h0 : 0 ≤ i) (h1 : i ≤ (l.length : Int)) : ∃ (pl : Int) (sa : List S72) (si : List S74) (rc cr vw su sh : Int) (zo : List S88) (ac i' h' : Int), skyOk pl sa si zo ∧ 0 < sa.length ∧ zo.length ≤ 8 ∧ 0 ≤ i' ∧ i' ≤ (l.length : Int) ∧ Ev (fun k => spec_l7Sky.f k l i h) (pl, sa, si, rc, cr, vw, su, sh, zo, ac, i', h') := by
  obtain ⟨v1, i1, g1, e1, a1, b1, p1, q1⟩ := l1Below l hl i h h0 h1 3 (by omega) (by omega)
  obtain ⟨v2, i2, g2, e2, a2, b2, p2, q2⟩ := l1Below l hl i1 g1 p1 q1 4 (by omega) (by omega)
  obtain ⟨v3, i3, g3, e3, a3, b3, p3, q3⟩ := l1Below l hl i2 g2 p2 q2 4 (by omega) (by omega)
  obtain ⟨v4, i4, g4, e4, a4, b4, p4, q4⟩ := l1Below l hl i3 g3 p3 q3 2 (by omega) (by omega)
  obtain ⟨v5, i5, g5, e5, a5, b5, p5, q5⟩ := l1Below l hl i4 g4 p4 q4 2 (by omega) (by omega)
  generalize hrc : wrap64 (120 + (wrap64 (10 * v1))) = rc
  generalize hcr : wrap64 (30 + (wrap64 (10 * v2))) = cr
  generalize hvw : wrap64 (50 + (wrap64 (10 * v3))) = vw
  obtain ⟨v6, i6, g6, e6, a6, b6, p6, q6⟩ := l1Below l hl i5 g5 p5 q5 2 (by omega) (by omega)
  have w6 := Aside0.mk (K.wr (x := 2 + v6) (by omega) (by omega))
  obtain ⟨sa, i7, g7, k1, k2, p7, q7, k3⟩ := sky1 l hl 2 rc cr vw v4 60 v5 0 (2 + v6) (by omega) (by omega) (2 + v6).toNat 0 [] i6 g6 (by omega) (by omega) (by omega) (by simp; omega) (by intro x hx; simp at hx) p6 q6
  obtain ⟨v8, i8, g8, e8, a8, b8, p8, q8⟩ := l1Below l hl i7 g7 p7 q7 2 (by omega) (by omega)
  have w8 := Aside0.mk (K.wr (x := 2 + v8) (by omega) (by omega))
  simp at k1
  obtain ⟨sb, i9, g9, m1, m2, p9, q9, m3⟩ := sky1 l hl 2 rc cr vw v4 60 v5 1 (2 + v8) (by omega) (by omega) (2 + v8).toNat 0 sa i8 g8 (by omega) (by omega) (by omega) (by omega) k2 p8 q8
  obtain ⟨v10, i10, g10, e10, a10, b10, p10, q10⟩ := l1Below l hl i9 g9 p9 q9 12 (by omega) (by omega)
  obtain ⟨v11, i11, g11, e11, a11, b11, p11, q11⟩ := l1Below l hl i10 g10 p10 q10 2 (by omega) (by omega)
  obtain ⟨v12, i12, g12, e12, a12, b12, p12, q12⟩ := l1Below l hl i11 g11 p11 q11 12 (by omega) (by omega)
  obtain ⟨v13, i13, g13, e13, p13, q13⟩ := l1Once l hl i12 g12 p12 q12 3 (by omega) (by omega)
  have hsi : ∀ x ∈ ([(⟨0, wrap64 (10 * v10), v11⟩ : S74), (⟨1, wrap64 (180 + (wrap64 (10 * v12))), 0⟩ : S74)] : List S74), i64 x.f0 := by
    intro x hx
    rcases List.mem_cons.1 hx with rfl | hx
    · exact ⟨by show (-9223372036854775808 : Int) ≤ 0; decide, by show (0 : Int) ≤ 9223372036854775807; decide⟩
    · rw [List.mem_singleton] at hx
      subst hx
      exact ⟨by show (-9223372036854775808 : Int) ≤ 1; decide, by show (1 : Int) ≤ 9223372036854775807; decide⟩
  have step : ∀ r, Ev (fun k => spec_l7Sky.l0 k 2 l i9 g9 2 sb rc cr vw v4 60 v5) r → Ev (fun k => spec_l7Sky.f k l i h) r := by
    intro r g
    unfold spec_l7Sky.f
    simp only [e1, e2, e3, e4, e5, Option.bind_some, hrc, hcr, hvw]
    refine K.succ ?_
    simp only [spec_l7Sky.l0, e6, Option.bind_some, w6.out]
    refine K.pos (by omega) (k3 r (K.succ ?_))
    rw [show (0 : Int) + 1 = 1 from rfl]
    simp only [spec_l7Sky.l0, e8, Option.bind_some, w8.out]
    exact K.pos (by omega) (m3 r g)
  cases v13 with
  | false =>
    refine ⟨2, sb, _, rc, cr, vw, v4, 60, [], v5, i13, g13, ⟨⟨by decide, by decide⟩, by omega, rfl, by simp, m2, hsi⟩, by omega, by simp, p13, q13, step _ (K.succ ?_)⟩
    simp only [spec_l7Sky.l0, e10, e11, e12, e13, Option.bind_some]
    exact K.neg (by omega) (K.neg Bool.false_ne_true (Ev.now _))
  | true =>
    obtain ⟨v14, i14, g14, e14, a14, b14, p14, q14⟩ := l1Below l hl i13 g13 p13 q13 2 (by omega) (by omega)
    obtain ⟨v15, i15, g15, e15, a15, b15, p15, q15⟩ := l1Below l hl i14 g14 p14 q14 36 (by omega) (by omega)
    obtain ⟨v16, i16, g16, e16, a16, b16, p16, q16⟩ := l1Below l hl i15 g15 p15 q15 5 (by omega) (by omega)
    refine ⟨2, sb, _, rc, cr, vw, v4, 60, [(⟨v14, ⟨wrap64 (10 * v15), wrap64 (10 * v16)⟩⟩ : S88)], v5, i16, g16, ⟨⟨by decide, by decide⟩, by omega, rfl, ?_, m2, hsi⟩, by omega, ?_, p16, q16, step _ (K.succ ?_)⟩
    rotate_left 2
    · simp only [spec_l7Sky.l0, e10, e11, e12, e13, e14, e15, e16, Option.bind_some]
      exact K.neg (by omega) (K.pos (by trivial) (Ev.now _))
    · simp
    · simp
theorem l5Angle (l : List Int) (hl : l.length ≤ 1048576) (i h : Int) (h0 : 0 ≤ i) (h1 : i ≤ (l.length : Int)) : ∃ v i' h', spec_l5Angle.f l i h = some (v, i', h') ∧ 0 ≤ i' ∧ i' ≤ (l.length : Int) := by
  obtain ⟨b, i1, g1, e1, p1, q1⟩ := l1Once l hl i h h0 h1 6 (by omega) (by omega)
  unfold spec_l5Angle.f
  simp only [e1, Option.bind_some]
  cases b with
  | true =>
    obtain ⟨v, i2, g2, e2, m2, p2, q2⟩ := l1Int l hl i1 g1 p1 q1 [(-1), (-360), (-361), 359, 360, 361, 9223372036854775807, (-9223372036854775808)] (by decide) (by decide)
    exact ⟨v, i2, g2, by rw [if_pos rfl, e2]; rfl, p2, q2⟩
  | false =>
    have hb : ∃ v i' h', spec_l1Below.f l i1 g1 360 = some (v, i', h') ∧ 0 ≤ i' ∧ i' ≤ (l.length : Int) := by
      obtain ⟨x, i2, g2, e2, a2, b2, p2, q2⟩ := l1Byte l hl i1 g1 p1 q1
      obtain ⟨y, i3, g3, e3, a3, b3, p3, q3⟩ := l1Byte l hl i2 g2 p2 q2
      obtain ⟨z, i4, g4, e4, a4, b4, p4, q4⟩ := l1Byte l hl i3 g3 p3 q3
      unfold spec_l1Below.f
      rw [if_neg (by decide), if_neg (by decide), e2]
      simp only [Option.bind_some, e3, e4]
      exact ⟨_, i4, g4, by first | rfl | (rw [if_neg (by decide)]), p4, q4⟩
    obtain ⟨v, i2, g2, e2, p2, q2⟩ := hb
    exact ⟨v, i2, g2, by rw [if_neg Bool.false_ne_true, e2]; rfl, p2, q2⟩
theorem l5Arc (l : List Int) (hl : l.length ≤ 1048576) (i h : Int) (h0 : 0 ≤ i) (h1 : i ≤ (l.length : Int)) : ∃ v u i' h', spec_l5Arc.f l i h = some (v, u, i', h') ∧ 0 ≤ i' ∧ i' ≤ (l.length : Int) := by
  obtain ⟨v1, i1, g1, e1, p1, q1⟩ := l5Angle l hl i h h0 h1
  obtain ⟨v2, i2, g2, e2, a2, b2, p2, q2⟩ := l1Below l hl i1 g1 p1 q1 80 (by omega) (by omega)
  obtain ⟨b, i3, g3, e3, p3, q3⟩ := l1Once l hl i2 g2 p2 q2 6 (by omega) (by omega)
  unfold spec_l5Arc.f
  simp only [e1, e2, e3, Option.bind_some]
  cases b with
  | true =>
    obtain ⟨v, i4, g4, e4, m4, p4, q4⟩ := l1Int l hl i3 g3 p3 q3 [(-1), 0, 359, 360, 9223372036854775807] (by decide) (by decide)
    exact ⟨v1, v, i4, g4, by rw [if_pos rfl, e4]; rfl, p4, q4⟩
  | false => exact ⟨v1, v2, i3, g3, by rw [if_neg Bool.false_ne_true], p3, q3⟩
theorem l6Any (l : List Int) (hl : l.length ≤ 1048576) (i h : Int) (h0 : 0 ≤ i) (h1 : i ≤ (l.length : Int)) : ∃ a b c d i' h', spec_l6Any.f l i h = some (a, b, c, d, i', h') ∧ i64 a ∧ -1 ≤ d ∧ d ≤ 21 ∧ 0 ≤ i' ∧ i' ≤ (l.length : Int) := by
  obtain ⟨v1, i1, g1, e1, a1, b1, p1, q1⟩ := l1Below l hl i h h0 h1 3 (by omega) (by omega)
  obtain ⟨v2, i2, g2, e2, a2, b2, p2, q2⟩ := l1Below l hl i1 g1 p1 q1 12 (by omega) (by omega)
  obtain ⟨v3, i3, g3, e3, m3, p3, q3⟩ := l1Int l hl i2 g2 p2 q2 [5, 10, 12, (-10), 0] (by decide) (by decide)
  obtain ⟨v4, i4, g4, e4, a4, b4, p4, q4⟩ := l1Below l hl i3 g3 p3 q3 3 (by omega) (by omega)
  obtain ⟨v5, i5, g5, e5, a5, b5, p5, q5⟩ := l1Below l hl i4 g4 p4 q4 9 (by omega) (by omega)
  have ha : i64 v1 := ⟨by omega, by omega⟩
  unfold spec_l6Any.f spec_l6Draw.f
  simp only [e1, e2, e3, e4, e5, Option.bind_some]
  by_cases c0 : v5 = 0
  · obtain ⟨v, i6, g6, e6, m6, p6, q6⟩ := l1Int l hl i5 g5 p5 q5 [(-1), 3, 9223372036854775807] (by decide) (by decide)
    refine ⟨v, _, v3, v4, i6, g6, by rw [if_pos c0, e6]; rfl, ?_, by omega, by omega, p6, q6⟩
    simp at m6
    rcases m6 with rfl | rfl | rfl <;> exact ⟨by decide, by decide⟩
  by_cases c1 : v5 = 1
  · obtain ⟨v, i6, g6, e6, p6, q6⟩ := l5Angle l hl i5 g5 p5 q5
    exact ⟨v1, v, v3, v4, i6, g6, by rw [if_neg c0, if_pos c1, e6]; rfl, ha, by omega, by omega, p6, q6⟩
  by_cases c2 : v5 = 2
  · obtain ⟨v, i6, g6, e6, m6, p6, q6⟩ := l1Int l hl i5 g5 p5 q5 [60, 61, (-60), (-61), 9223372036854775807] (by decide) (by decide)
    exact ⟨v1, _, v, v4, i6, g6, by rw [if_neg c0, if_neg c1, if_pos c2, e6]; rfl, ha, by omega, by omega, p6, q6⟩
  by_cases c3 : v5 = 3
  · obtain ⟨v, i6, g6, e6, m6, p6, q6⟩ := l1Int l hl i5 g5 p5 q5 [(-1), 20, 21] (by decide) (by decide)
    refine ⟨v1, _, v3, v, i6, g6, by rw [if_neg c0, if_neg c1, if_neg c2, if_pos c3, e6]; rfl, ha, ?_, ?_, p6, q6⟩
    · simp at m6
      omega
    · simp at m6
      omega
  · exact ⟨v1, _, v3, v4, i5, g5, by rw [if_neg c0, if_neg c1, if_neg c2, if_neg c3], ha, by omega, by omega, p5, q5⟩
theorem l7Any (l : List Int) (hl : l.length ≤ 1048576) (i h : Int) (h0 : 0 ≤ i) (h1 : i ≤ (l.length : Int)) : ∃ (pl : Int) (sa : List S72) (si : List S74) (rc cr vw su sh : Int) (zo : List S88) (ac i' h' : Int), skyOk pl sa si zo ∧ 0 ≤ i' ∧ i' ≤ (l.length : Int) ∧ Ev (fun k => spec_l7Any.f k l i h) (pl, sa, si, rc, cr, vw, su, sh, zo, ac, i', h') := by
  obtain ⟨pl, sa, si, rc, cr, vw, su, sh, zo, ac, i1, g1, ok, hs, hz8, p1, q1, e1⟩ := l7Sky l hl i h h0 h1
  obtain ⟨v, i2, g2, e2, a2, b2, p2, q2⟩ := l1Below l hl i1 g1 p1 q1 12 (by omega) (by omega)
  have ok' := ok
  obtain ⟨o1, o2, o3, o4, o5, o6⟩ := ok
  unfold spec_l7Any.f
  by_cases c0 : v = 0
  · obtain ⟨u, i3, g3, e3, m3, p3, q3⟩ := l1Int l hl i2 g2 p2 q2 [0, 1, 4, 5, (-9223372036854775808)] (by decide) (by decide)
    refine ⟨u, sa, si, rc, cr, vw, su, sh, zo, ac, i3, g3, ⟨?_, o2, o3, o4, o5, o6⟩, p3, q3, Ev.bind e1 (K.known e2 (K.pos c0 (K.known e3 (Ev.now _))))⟩
    simp at m3
    unfold i64
    omega
  by_cases c1 : v = 1
  · obtain ⟨a, b, c, d, i3, g3, e3, m1, m2, m3, p3, q3⟩ := l6Any l hl i2 g2 p2 q2
    refine ⟨pl, sa.set (0 : Int).toNat ⟨a, b, c, d⟩, si, rc, cr, vw, su, sh, zo, ac, i3, g3, ⟨o1, by rw [List.length_set]; exact o2, o3, o4, ?_, o6⟩, p3, q3, Ev.bind e1 (K.known e2 (K.neg c0 (K.pos c1 (K.known e3 (K.pos (by show 0 < (sa.length : Int); omega) (Ev.now _))))))⟩
    intro x hx
    rcases List.mem_or_eq_of_mem_set hx with hx | rfl
    · exact o5 x hx
    · exact ⟨m1, m2, m3⟩
  by_cases c2 : v = 2
  · obtain ⟨u, i3, g3, e3, p3, q3⟩ := l5Angle l hl i2 g2 p2 q2
    refine ⟨pl, sa, si.set (0 : Int).toNat ⟨(rd_T74 si 0).f0, u, (rd_T74 si 0).f2⟩, rc, cr, vw, su, sh, zo, ac, i3, g3, ⟨o1, o2, by rw [List.length_set]; exact o3, o4, o5, ?_⟩, p3, q3, Ev.bind e1 (K.known e2 (K.neg c0 (K.neg c1 (K.pos c2 (K.known e3 (K.pos (by show 0 < (si.length : Int); omega) (Ev.now _)))))))⟩
    intro x hx
    rcases List.mem_or_eq_of_mem_set hx with hx | rfl
    · exact o6 x hx
    · refine o6 (rd_T74 si 0) ?_
      simp only [rd_T74, List.getD_eq_getElem?_getD, List.getElem?_eq_getElem (show (0 : Int).toNat < si.length by rw [o3]; decide), Option.getD_some]
      exact List.getElem_mem _
  by_cases c3 : v = 3
  · obtain ⟨u, i3, g3, e3, m3, p3, q3⟩ := l1Int l hl i2 g2 p2 q2 [(-1), 180, 181] (by decide) (by decide)
    exact ⟨pl, sa, si, u, cr, vw, su, sh, zo, ac, i3, g3, ok', p3, q3, Ev.bind e1 (K.known e2 (K.neg c0 (K.neg c1 (K.neg c2 (K.pos c3 (K.known e3 (Ev.now _)))))))⟩
  by_cases c4 : v = 4
  · obtain ⟨u, i3, g3, e3, m3, p3, q3⟩ := l1Int l hl i2 g2 p2 q2 [(-1), 20, 21] (by decide) (by decide)
    exact ⟨pl, sa, si, rc, cr, vw, su, sh, zo, u, i3, g3, ok', p3, q3, Ev.bind e1 (K.known e2 (K.neg c0 (K.neg c1 (K.neg c2 (K.neg c3 (K.pos c4 (K.known e3 (Ev.now _))))))))⟩
  by_cases c5 : v = 5
  · obtain ⟨u, i3, g3, e3, a3, b3, p3, q3⟩ := l1Below l hl i2 g2 p2 q2 3 (by omega) (by omega)
    obtain ⟨x, y, i4, g4, e4, p4, q4⟩ := l5Arc l hl i3 g3 p3 q3
    have hz : zo.length < 5864062014805 := by omega
    refine ⟨pl, sa, si, rc, cr, vw, su, sh, zo ++ [⟨u, ⟨x, y⟩⟩], ac, i4, g4, ⟨o1, o2, o3, ?_, o5, o6⟩, p4, q4, Ev.bind e1 (K.known e2 (K.neg c0 (K.neg c1 (K.neg c2 (K.neg c3 (K.neg c4 (K.pos c5 (K.known e3 (K.known e4 (K.pos hz (Ev.now _)))))))))))⟩
    rw [List.length_append, List.length_singleton]
    omega
  by_cases c6 : v = 6
  · exact ⟨pl, [], si, rc, cr, vw, su, sh, zo, ac, i2, g2, ⟨o1, by simp, o3, o4, by simp, o6⟩, p2, q2, Ev.bind e1 (K.known e2 (K.neg c0 (K.neg c1 (K.neg c2 (K.neg c3 (K.neg c4 (K.neg c5 (K.pos c6 (Ev.now _)))))))))⟩
  by_cases c7 : v = 7
  · obtain ⟨u, i3, g3, e3, m3, p3, q3⟩ := l1Int l hl i2 g2 p2 q2 [61, (-60)] (by decide) (by decide)
    exact ⟨pl, sa, si, rc, cr, vw, u, sh, zo, ac, i3, g3, ok', p3, q3, Ev.bind e1 (K.known e2 (K.neg c0 (K.neg c1 (K.neg c2 (K.neg c3 (K.neg c4 (K.neg c5 (K.neg c6 (K.pos c7 (K.known e3 (Ev.now _)))))))))))⟩
  · exact ⟨pl, sa, si, rc, cr, vw, su, sh, zo, ac, i2, g2, ok', p2, q2, Ev.bind e1 (K.known e2 (K.neg c0 (K.neg c1 (K.neg c2 (K.neg c3 (K.neg c4 (K.neg c5 (K.neg c6 (K.neg c7 (Ev.now _))))))))))⟩
theorem drawWin (l : List Int) (hl : l.length ≤ 1048576) : ∃ (pl : Int) (sa : List S72) (si : List S74) (rc cr vw su sh : Int) (zo : List S88) (ac a b f t : Int), skyOk pl sa si zo ∧ -2 ≤ f ∧ f ≤ 17 ∧ t ≤ 57 ∧ Ev (fun k => spec_DrawSureWindows.f k l) (pl, sa, si, rc, cr, vw, su, sh, zo, ac, a, b, f, t) := by
  obtain ⟨h, e0⟩ := l1New l hl
  obtain ⟨pl, sa, si, rc, cr, vw, su, sh, zo, ac, i1, g1, ok, hs, hz, p1, q1, e1⟩ := l7Sky l hl 0 h (by omega) (by omega)
  obtain ⟨v2, i2, g2, e2, a2, b2, p2, q2⟩ := l1Below l hl i1 g1 p1 q1 8 (by omega) (by omega)
  obtain ⟨v3, i3, g3, e3, a3, b3, p3, q3⟩ := l1Below l hl i2 g2 p2 q2 8 (by omega) (by omega)
  obtain ⟨v4, i4, g4, e4, a4, b4, p4, q4⟩ := l1Below l hl i3 g3 p3 q3 20 (by omega) (by omega)
  obtain ⟨v5, i5, g5, e5, a5, b5, p5, q5⟩ := l1Below l hl i4 g4 p4 q4 40 (by omega) (by omega)
  refine ⟨pl, sa, si, rc, cr, vw, su, sh, zo, ac, v2, v3, v4 - 2, v4 - 2 + v5, ok, by omega, by omega, by omega, ?_⟩
  unfold spec_DrawSureWindows.f
  refine Ev.bind e0 (Ev.bind e1 (K.known e2 (K.known e3 (K.known e4 (K.known e5 ?_)))))
  dsimp only
  rw [K.wr (x := v4 - 2) (by omega) (by omega), K.wr (x := v4 - 2 + v5) (by omega) (by omega)]
  exact Ev.now _
theorem nodeEven (sa : List S72) (i : Int) (ho : satOk sa) : ∃ m, 0 ≤ m ∧ m ≤ 21 ∧ nodeW sa i = 2 * m := by
  unfold nodeW
  by_cases c : 0 ≤ i ∧ i < (sa.length : Int)
  · rw [if_pos c]
    have hm : rd_T72 sa i ∈ sa := by
      simp only [rd_T72, List.getD_eq_getElem?_getD, List.getElem?_eq_getElem (show i.toNat < sa.length by omega), Option.getD_some]
      exact List.getElem_mem _
    obtain ⟨_, h1, h2⟩ := ho _ hm
    unfold widW
    by_cases c2 : 0 ≤ (rd_T72 sa i).f3 ∧ (rd_T72 sa i).f3 ≤ 360
    · rw [if_pos c2]
      exact ⟨(rd_T72 sa i).f3, c2.1, h2, by unfold mn; split <;> omega⟩
    · rw [if_neg c2]
      exact ⟨0, by omega, by omega, by omega⟩
  · rw [if_neg c]
    exact ⟨0, by omega, by omega, by omega⟩

theorem drawS (l : List Int) (hl : l.length ≤ 1048576) : ∃ (pl : Int) (sa : List S72) (si : List S74) (rc cr vw su sh : Int) (zo : List S88) (ac a b t : Int), skyOk pl sa si zo ∧ Ev (fun k => spec_DrawSightAt.f k l) (pl, sa, si, rc, cr, vw, su, sh, zo, ac, a, b, t) := by
  obtain ⟨h, e0⟩ := l1New l hl
  obtain ⟨pl, sa, si, rc, cr, vw, su, sh, zo, ac, i1, g1, ok, p1, q1, e1⟩ := l7Any l hl 0 h (by omega) (by omega)
  obtain ⟨v2, i2, g2, e2, a2, b2, p2, q2⟩ := l1Below l hl i1 g1 p1 q1 10 (by omega) (by omega)
  obtain ⟨v3, i3, g3, e3, a3, b3, p3, q3⟩ := l1Below l hl i2 g2 p2 q2 10 (by omega) (by omega)
  obtain ⟨v4, i4, g4, e4, p4, q4⟩ := l4Raw l hl 0 h (by omega) (by omega)
  refine ⟨pl, sa, si, rc, cr, vw, su, sh, zo, ac, wrap64 (v2 - 1), wrap64 (v3 - 1), v4, ok, ?_⟩
  unfold spec_DrawSightAt.f
  have e : Ev (fun k => spec_DrawLimitOf.f k l) (pl, sa, si, rc, cr, vw, su, sh, zo, ac, wrap64 (v2 - 1), wrap64 (v3 - 1)) := by
    unfold spec_DrawLimitOf.f
    exact Ev.bind e0 (Ev.bind e1 (K.known e2 (K.known e3 (Ev.now _))))
  exact Ev.bind e (Ev.bind e0 (K.known e4 (Ev.now _)))
theorem lim_sym (pl : Int) (sa : List S72) (si : List S74) (rc cr vw a b : Int) : limV pl sa si rc cr vw a b = limV pl sa si rc cr vw b a := by
  have hm : ∀ p q : Int, mn p q = mn q p := by intro p q; unfold mn; split <;> split <;> omega
  have hx : ∀ p q : Int, mx p q = mx q p := by intro p q; unfold mx; split <;> split <;> omega
  have hnr : ∀ p q : Int, nearV pl p q = nearV pl q p := by intro p q; unfold nearV; rw [hm p q, hx p q]
  unfold limV
  rw [hnr (planeV sa si b) (planeV sa si a)]
  generalize nearV pl (planeV sa si a) (planeV sa si b) = nr
  generalize planeV sa si a = p
  generalize planeV sa si b = q
  cases nr <;> (repeat' split) <;> first | rfl | (exfalso; omega) | (exfalso; simp_all; done) | (exfalso; simp_all; omega)
theorem sight_sym (pl : Int) (sa : List S72) (si : List S74) (rc cr vw a b t : Int) : sightV pl sa si rc cr vw a b t = sightV pl sa si rc cr vw b a t := by
  unfold sightV sightOf
  rw [lim_sym pl sa si rc cr vw b a, gap_sym (midV (nodeS sa si b t) (nodeW sa b)), Int.add_comm (nodeW sa b)]
theorem midEven (s m : Int) (h0 : 0 ≤ m) (h1 : m ≤ 90) : midV s (2 * m) = (s % 360 + m) % 360 := by
  unfold midV
  rw [if_pos (by omega)]
  congr 2
  omega
theorem sightIs (pl : Int) (sa : List S72) (si : List S74) (rc cr vw a b t i j : Int) (ho : satOk sa) (hi0 : 0 ≤ i) (hi : i ≤ nodeW sa a) (hj0 : 0 ≤ j) (hj : j ≤ nodeW sa b) (hl : 0 ≤ limV pl sa si rc cr vw a b) (hn : sightV pl sa si rc cr vw a b t ≠ 1) : decide (gapV (nodeS sa si a t + i) (nodeS sa si b t + j) ≤ limV pl sa si rc cr vw a b) = (sightV pl sa si rc cr vw a b t == 2) := by
  obtain ⟨m, m0, m1, e⟩ := nodeEven sa a ho
  obtain ⟨n, n0, n1, e'⟩ := nodeEven sa b ho
  have g1 := gap_lip (nodeS sa si a t) (nodeS sa si b t + j) m i hi0 (by omega) (by omega)
  have g2 := gap_lip (nodeS sa si b t) ((nodeS sa si a t % 360 + m) % 360) n j hj0 (by omega) (by omega)
  rw [gap_sym (nodeS sa si b t + j), gap_sym ((nodeS sa si b t % 360 + n) % 360)] at g2
  revert hn
  unfold sightV sightOf
  rw [e, e', midEven _ m m0 (by omega), midEven _ n n0 (by omega), show (2 * m + 2 * n) / 2 = m + n by omega, if_neg (show ¬ limV pl sa si rc cr vw a b < 0 by omega)]
  generalize limV pl sa si rc cr vw a b = lim
  generalize gapV ((nodeS sa si a t % 360 + m) % 360) ((nodeS sa si b t % 360 + n) % 360) = g at g2
  generalize gapV ((nodeS sa si a t % 360 + m) % 360) (nodeS sa si b t + j) = q at g1 g2
  generalize gapV (nodeS sa si a t + i) (nodeS sa si b t + j) = r at g1
  by_cases c1 : g - (m + n) > lim
  · rw [if_pos c1]
    intro _
    rw [decide_eq_false (by omega)]
    rfl
  · rw [if_neg c1]
    by_cases c2 : g + (m + n) ≤ lim
    · rw [if_pos c2]
      intro _
      rw [decide_eq_true (by omega)]
      rfl
    · rw [if_neg c2]
      intro h
      exact absurd rfl h
theorem iSureW (pl : Int) (sa : List S72) (si : List S74) (rc cr vw su sh : Int) (zo : List S88) (ac : Int) (hn : (sa.length : Int) + si.length ≤ 4194304) (hpl0 : -9223372036854775808 ≤ pl) (hpl1 : pl ≤ 9223372036854775807) (h1 : ∀ x ∈ sa, -9223372036854775808 ≤ x.f0 ∧ x.f0 ≤ 9223372036854775807) (h2 : ∀ x ∈ si, -9223372036854775808 ≤ x.f0 ∧ x.f0 ≤ 9223372036854775807) (i j a b : Int) : Ev (fun k => impl_SureWindows.f k pl sa si rc cr vw su sh zo ac i j a b) (win (fun t => sightV pl sa si rc cr vw i j t == 2) a b) := by
  have hm : mn b 1000 ≤ 1000 := by unfold mn; split <;> omega
  have hx : 0 ≤ mx a 0 := by unfold mx; split <;> omega
  have i_ := fun t => iSure pl sa si rc cr vw su sh zo ac hn hpl0 hpl1 h1 h2 i j t
  unfold impl_SureWindows.f where_impl_SureWindows_1.f sw.f
  refine Ev.bind (whereRun (fun k t' => impl_SureWindows_1.f k t' pl sa si rc cr vw su sh zo ac i j) (fun t => sightV pl sa si rc cr vw i j t == 2) b (fun t _ _ => ?_) _ [] (mx a 0) hx rfl (by simp; omega)) (Ev.now _)
  unfold impl_SureWindows_1.f
  exact Ev.bind (i_ t) (Ev.now _)
theorem loop2 (pl : Int) (sa : List S72) (si : List S74) (rc cr vw su sh : Int) (zo : List S88) (ac : Int) (hn : (sa.length : Int) + si.length ≤ 4194304) (hpl0 : -9223372036854775808 ≤ pl) (hpl1 : pl ≤ 9223372036854775807) (h1 : ∀ x ∈ sa, -9223372036854775808 ≤ x.f0 ∧ x.f0 ≤ 9223372036854775807) (h2 : ∀ x ∈ si, -9223372036854775808 ≤ x.f0 ∧ x.f0 ≤ 9223372036854775807) (a b f tt : Int) (hf : -2 ≤ f) (hf2 : f ≤ 17) (ht : tt ≤ 57) : ∀ (d : Nat) (t : Int), f ≤ t → tt - t ≤ d → Ev (fun k => laws_FnSight.l2 k a b tt (win (fun t => sightV pl sa si rc cr vw a b t == 2) f tt) t pl sa si rc cr vw su sh zo ac) true := by
  intro d
  induction d with
  | zero =>
    intro t h0 hd
    refine K.succ ?_
    simp only [laws_FnSight.l2]
    exact K.neg (by omega) (Ev.now _)
  | succ d ih =>
    intro t h0 hd
    by_cases ct : t < tt
    · have l1 := inSp (win (fun t => sightV pl sa si rc cr vw a b t == 2) f tt) (win_len _ _ _) t
      rw [(win_ok _ f tt t (by omega)).2] at l1
      have w1 := Aside0.mk (K.wr (x := t + 1) (by omega) (by omega))
      have nx := ih (t + 1) (by omega) (by omega)
      refine K.succ ?_
      simp only [laws_FnSight.l2, w1.out]
      refine K.pos ct ?_
      by_cases c0 : t ≥ 0
      · rw [decide_eq_true (show 0 ≤ t ∧ t < 1000 ∧ f ≤ t ∧ t < tt by omega), Bool.true_and] at l1
        exact Ev.bind l1 (K.pos c0 (K.pos (by omega) (Ev.bind (iSure pl sa si rc cr vw su sh zo ac hn hpl0 hpl1 h1 h2 a b t) (K.neg (by simp) nx))))
      · rw [decide_eq_false (show ¬ (0 ≤ t ∧ t < 1000 ∧ f ≤ t ∧ t < tt) by omega), Bool.false_and] at l1
        exact Ev.bind l1 (K.neg c0 (K.neg (by simp) nx))
    · refine K.succ ?_
      simp only [laws_FnSight.l2]
      exact K.neg ct (Ev.now _)
theorem loop1 (code : List Int) (n lim i s1 w1 s2 w2 : Int) (hs1 : 0 ≤ s1 ∧ s1 < 360) (hs2 : 0 ≤ s2 ∧ s2 < 360) (hw1 : w1 ≤ 359) (hw2 : w2 ≤ 359) (hi0 : 0 ≤ i) (hi : i ≤ w1) (H : ∀ j, 0 ≤ j → j ≤ w2 → decide (gapV (s1 + i) (s2 + j) ≤ lim) = (n == 2)) (g : Ev (fun k => laws_FnSight.l0 k code n lim (i + 1) s1 w1 s2 w2) true) : ∀ (d : Nat) (j : Int), 0 ≤ j → w2 + 1 - j ≤ d → Ev (fun k => laws_FnSight.l1 k code n lim i j s1 w1 s2 w2) true := by
  have w0 := Aside0.mk (K.wr (x := i + 1) (by omega) (by omega))
  intro d
  induction d with
  | zero =>
    intro j h0 hd
    refine K.succ ?_
    simp only [laws_FnSight.l1, w0.out]
    exact K.neg (by omega) g
  | succ d ih =>
    intro j h0 hd
    by_cases c : j ≤ w2
    · have u1 := Aside0.mk (K.wr (x := j + 1) (by omega) (by omega))
      have u2 := Aside0.mk (K.wr (x := s1 + i) (by omega) (by omega))
      have u3 := Aside0.mk (K.wr (x := s2 + j) (by omega) (by omega))
      have nx := ih (j + 1) (by omega) (by omega)
      refine K.succ ?_
      simp only [laws_FnSight.l1, iGap, Option.bind_some, u1.out, u2.out, u3.out]
      refine K.pos c ?_
      rw [H j h0 c]
      exact K.neg (by simp) nx
    · refine K.succ ?_
      simp only [laws_FnSight.l1, w0.out]
      exact K.neg c g
theorem loop0 (code : List Int) (n lim s1 w1 s2 w2 : Int) (hs1 : 0 ≤ s1 ∧ s1 < 360) (hs2 : 0 ≤ s2 ∧ s2 < 360) (hw1 : w1 ≤ 359) (hw2 : w2 ≤ 359) (H : 0 ≤ lim → n ≠ 1 → ∀ i, 0 ≤ i → i ≤ w1 → ∀ j, 0 ≤ j → j ≤ w2 → decide (gapV (s1 + i) (s2 + j) ≤ lim) = (n == 2)) (g : ∀ i, Ev (fun k => laws_FnSight.j2 k code n lim i false s1 w1 s2 w2) true) : ∀ (d : Nat) (i : Int), 0 ≤ i → w1 + 1 - i ≤ d → Ev (fun k => laws_FnSight.l0 k code n lim i s1 w1 s2 w2) true := by
  intro d
  induction d with
  | zero =>
    intro i h0 hd
    refine K.succ ?_
    simp only [laws_FnSight.l0]
    exact K.neg (by omega) (g i)
  | succ d ih =>
    intro i h0 hd
    refine K.succ ?_
    simp only [laws_FnSight.l0]
    by_cases c : i ≤ w1
    · refine K.pos c ?_
      by_cases c1 : lim ≥ 0
      · refine K.pos c1 ?_
        by_cases c2 : n = 1
        · rw [show (n != 1) = false by simp [c2]]
          exact g i
        · rw [show (n != 1) = true by simpa using c2]
          refine K.succ ?_
          simp only [laws_FnSight.j2]
          exact K.pos trivial (loop1 code n lim i s1 w1 s2 w2 hs1 hs2 hw1 hw2 h0 c (H c1 c2 i h0 c) (ih (i + 1) (by omega) (by omega)) (w2 + 1).toNat 0 (by omega) (by omega))
      · exact K.neg c1 (g i)
    · exact K.neg c (g i)
end LFnSight
theorem FnSight (l : List Int) : ∃ k, laws_FnSight.f k l = some true := by
  refine K.rounds (g := fun k => laws_FnSight.f k l) ?_
  unfold laws_FnSight.f laws_big.f
  refine K.known rfl ?_
  by_cases c : (l.length : Int) > 1048576
  · exact K.pos (decide_eq_true c) (Ev.now _)
  refine K.neg (by simp; omega) ?_
  obtain ⟨pl, sa, si, rc, cr, vw, su, sh, zo, ac, a, b, t, ⟨o1, o2, o3, o4, o5, o6⟩, e1⟩ := LFnSight.drawS l (by omega)
  obtain ⟨pl', sa', si', rc', cr', vw', su', sh', zo', ac', u, v, f, tt, ⟨p1, p2, p3, p4, p5, p6⟩, hf, hf2, ht, e2⟩ := LFnSight.drawWin l (by omega)
  have hn : (sa.length : Int) + si.length ≤ 4194304 := by omega
  have hn' : (sa'.length : Int) + si'.length ≤ 4194304 := by omega
  have h1 : ∀ x ∈ sa, -9223372036854775808 ≤ x.f0 ∧ x.f0 ≤ 9223372036854775807 := fun x hx => (o5 x hx).1
  have h1' : ∀ x ∈ sa', -9223372036854775808 ≤ x.f0 ∧ x.f0 ≤ 9223372036854775807 := fun x hx => (p5 x hx).1
  have k1 := LFnSight.iSight pl sa si rc cr vw su sh zo ac hn o1.1 o1.2 h1 o6 a b t
  have k2 := LFnSight.iSight pl sa si rc cr vw su sh zo ac hn o1.1 o1.2 h1 o6 b a t
  rw [← LFnSight.sight_sym] at k2
  have k3 := LFnSight.iLimit pl sa si rc cr vw su sh zo ac hn o1.1 o1.2 h1 o6 a b
  have k4 := LFnSight.iSure pl sa si rc cr vw su sh zo ac hn o1.1 o1.2 h1 o6 a b t
  refine Ev.bind e1 ?_
  dsimp only
  refine Ev.bind k1 (Ev.bind k3 (Ev.bind k2 (K.pos rfl ?_)))
  have nw1 := LFnSight.node_range sa si a t
  have nw2 := LFnSight.node_range sa si b t
  have tail : ∀ x : Bool, x = false → Ev (fun k => laws_FnSight.j0 k l a b t (LFnSight.sightV pl sa si rc cr vw a b t) (LFnSight.limV pl sa si rc cr vw a b) x pl sa si rc cr vw su sh zo ac) true := by
    intro x hx
    subst hx
    refine K.succ ?_
    simp only [laws_FnSight.j0]
    refine K.neg Bool.false_ne_true (K.known (LFnSight.iNode pl sa si rc cr vw su sh zo ac hn a t) (K.known (LFnSight.iNode pl sa si rc cr vw su sh zo ac hn b t) ?_))
    refine LFnSight.loop0 l _ _ _ _ _ _ ⟨nw1.1, nw1.2.1⟩ ⟨nw2.1, nw2.2.1⟩ nw1.2.2.2 nw2.2.2.2 (fun hl hne i i0 i1 j j0 j1 => LFnSight.sightIs pl sa si rc cr vw a b t i j o5 i0 i1 j0 j1 hl hne) (fun i => ?_) 400 0 (by omega) (by omega)
    refine K.succ ?_
    simp only [laws_FnSight.j2]
    refine K.neg Bool.false_ne_true (Ev.bind e2 ?_)
    dsimp only
    exact Ev.bind (LFnSight.iSureW pl' sa' si' rc' cr' vw' su' sh' zo' ac' hn' p1.1 p1.2 h1' p6 u v f tt) (LFnSight.loop2 pl' sa' si' rc' cr' vw' su' sh' zo' ac' hn' p1.1 p1.2 h1' p6 u v f tt hf hf2 ht (tt - f).toNat f (by omega) (by omega))
  by_cases cl : LFnSight.limV pl sa si rc cr vw a b < 0
  · have z : LFnSight.sightV pl sa si rc cr vw a b t = 0 := by
      unfold LFnSight.sightV LFnSight.sightOf
      rw [if_pos cl]
    exact K.pos cl (K.pos z (Ev.bind k4 (tail _ (by simp))))
  · exact K.neg cl (Ev.bind k4 (tail _ (by simp)))

end Go.Proofs.Ytopbkdcicidajaa.Pure
